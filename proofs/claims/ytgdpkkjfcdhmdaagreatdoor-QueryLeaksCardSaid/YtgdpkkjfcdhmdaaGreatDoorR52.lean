/- QueryLeaks: what Leak, Check, odd, Eval and Holds answer of what was made. -/
import Derived.Test.YtgdpkkjfcdhmdaaGreatDoorR51
import Derived.Test.YtgdpkkjfcdhmdaaGreatDoorR43
import Derived.Test.YtgdpkkjfcdhmdaaGreatDoorR44
namespace Go.Proofs.YtgdpkkjfcdhmdaaGreatDoor
open Go
def oP(L:List Nd)(t:Nat):Prop:=t<L.length/\∀j,Occ L t j->(L.getD j default).op=1->(L.getD j default).num%2=0
theorem P3{W:Nat}{L:List Nd}(b:GOk W L)(r:VOk L){c d:List Nat}(q:∀n,n<12->n%2=0->kL W c n=kL W d n){t:Nat}(h:oP L t):vAt W c L t=vAt W d L t:=by have:∀j,Occ L t j->vAt W c L j=vAt W d L j:=by{intro j;induction j using Nat.strongRecOn with|ind j ih=>intro o;have f:=o.lt b h.1;have k:=b j f;rw[mD c b f,mD d b f];by_cases h0:(L.getD j default).op=0;{unfold fZ;rw[if_pos h0,if_pos h0]};by_cases h1:(L.getD j default).op=1;{rw[ql h1,ql h1,q _ (r j h1) (h.2 j o h1)]};refine Eq.trans (uR k λ a g=>ih a (b.arg g).1 (.arg o g)) ?_;unfold fZ;rw[if_neg h0,if_neg h1,if_neg h0,if_neg h1]};exact this t .top
section
variable {W:Nat} {L:List Nd} {vals sec vals' sec':List Nat}
end
open Go Go.RowKit
theorem P4(W:Nat)(V:Nat->Bool)(vals:List Nat):∃sec,jH W V vals sec:=by refine⟨(List.range 12).map λ n=>if V n then vals.getD n 0 else vals.getD (n+1) 0,λ n a=> ?_⟩;unfold kL;rw[show((List.range 12).map λ n=>if V n then vals.getD n 0 else vals.getD (n+1) 0).getD n 0=if V n then vals.getD n 0 else vals.getD (n+1) 0 by rw[Aa,AM,List.getElem?_range a];rfl];split<;>rfl
def sC(W:Nat)(L:List Nd)(N:Nat)(up:Nat->Nat)(xs ys:List Int)(level:Int)(sens:Bool)(p q:fM)(vals sec:List Nat):Prop:=qr W vals sec L (jv sens p q) (jv sens p q||decide (p.st=q.st)) (p.cs.map Int.toNat) (q.cs.map Int.toNat) (gW N up xs level p.os) (gW N up xs level q.os) (gW N up ys level p.rs) (gW N up ys level q.rs)
theorem FG{L:List Nd}{ts:List Nat}(d:¬kD L ts)(c:∀t∈ts,t<L.length){t:Nat}(a:t∈ts):oP L t:=by refine⟨c t a,λ j o b=> ?_⟩;by_cases h:(L.getD j default).num%2=1;{exact absurd ⟨_,⟨j,⟨t,a,o⟩,b,rfl⟩,h⟩ d};omega
theorem FH{L:List Nd}{ts:List Nat}(hno:¬kD L ts)(hlt:∀t∈ts,t<L.length){cs:List Int}(h:∀c∈cs,c.toNat∈ts):∀x∈cs.map Int.toNat,oP L x:=λ x hx=>by obtain⟨c,hc,rfl⟩:=AF.1 hx;exact FG hno hlt (h c hc)
theorem FI{L:List Nd}{ts:List Nat}(hno:¬kD L ts)(hlt:∀t∈ts,t<L.length){N:Nat}{up:Nat->Nat}{zs:List Int}{level:Int}{es:List (Int×Int)}(h:∀o∈es,o.2.toNat∈ts):∀x∈gW N up zs level es,oP L x.2:=λ x hx=>by obtain⟨o,ho,rfl⟩:=AF.1 hx;exact FG hno hlt (h o (xu ho))
open Go
def evM(V:List Nat)(a:List (Int×Nat)):List (Int×Int):=a.map λ y=>(y.1,((V.getD y.2 0:Nat):Int))
theorem uN(N:Nat)(up:Nat->Nat)(zs:List Int)(level:Int)(V:List Nat)(l:List (Int×Int)):fF N up level zs (evs V l)=evM V (gW N up zs level l):=by unfold gW fF evs evM;rw[List.filter_map,List.map_map];rfl
theorem P5(x y:Int×Int)(xs ys:List (Int×Int)):kE (x::xs) (y::ys)=(pe x y&&kE xs ys):=by unfold kE;rw[AQ,AQ,Nat.add_min_add_right,List.range_succ_eq_map,List.all_cons,List.all_map];rfl
theorem P6(ys:List (Int×Int)):kE [] ys=true:=by unfold kE;simp
theorem P7(xs:List (Int×Int)):kE xs []=true:=by unfold kE;simp
section
variable {W:Nat} {L:List Nd} {vals sec:List Nat}
theorem FJ:∀a b:List (Int×Nat),kE (evM (fI W vals L) a) (evM (fI W sec L) b)=true↔im W vals sec L a b|[],b=>by unfold im;exact iff_of_true (P6 _) trivial|x::a,[]=>by unfold im;exact iff_of_true (P7 _) trivial|x::a,y::b=>by have ih:=FJ a b;unfold evM at ih⊢;unfold im;rw[List.map_cons,List.map_cons,P5,Af,ih];refine and_congr_left λ _=> ?_;unfold pe vAt;rw[Af,beq_iff_eq,beq_iff_eq];refine and_congr_right λ _=> ?_;exact Int.ofNat_inj
theorem FK(m:Bool)(a b:List (Int×Nat)):kF m (evM (fI W vals L) a) (evM (fI W sec L) b)=true↔iD W vals sec L m a b:=by unfold iD;rw[<-FJ];unfold kF;have e:(evM (fI W vals L) a).length=(evM (fI W sec L) b).length↔a.length=b.length:=by{unfold evM;rw[Ak,Ak]};cases m with|true=>simp|false=>simp[e]
theorem FL(V:List Nat)(b:V=fI W vals L)(cs:List Int):(cs.all λ t=>V.getD t.toNat 0 !=0)=true↔∀c∈cs.map Int.toNat,vAt W vals L c≠0:=by subst b;rw[AE];constructor;{intro h c d;obtain⟨t,a,rfl⟩:=AF.1 d;have:=h t a;unfold vAt;simpa using this};intro h t a;have:=h t.toNat (AF.2 ⟨t,a,rfl⟩);unfold vAt at this;simpa using this
theorem P8{N:Nat}{up:Nat->Nat}{xs ys:List Int}{level:Int}{h:Bool}{p q:fM}:((p.cs.all λ t=>(fI W vals L).getD t.toNat 0 !=0)&&(q.cs.all λ t=>(fI W sec L).getD t.toNat 0 !=0)&&qC N up level xs ys (!h&&(decide (p.st=2)||decide (q.st=2))) (ji (fI W vals L) p) (ji (fI W sec L) q))=true↔sC W L N up xs ys level h p q vals sec:=by unfold sC qr qC ji;rw[uN,uN,uN,uN,Af,Af,FL _ rfl,FL _ rfl,Af,FK,Bool.not_eq_true',<-Bool.not_eq_true,Af,FK];unfold jv;constructor;{rintro⟨⟨a,b⟩,c,d⟩;exact⟨a,b,c,λ⟨f,g⟩=>d ⟨g,f⟩⟩};rintro⟨a,b,c,d⟩;exact⟨⟨a,b⟩,c,λ⟨f,g⟩=>d ⟨g,f⟩⟩
theorem yy{sec':List Nat}(h2:∀t,oP L t->vAt W sec L t=vAt W sec' L t):∀{a b:List (Int×Nat)},(∀x∈b,oP L x.2)->(im W vals sec L a b↔im W vals sec' L a b)|x::a,y::b,hb=>by unfold im;rw[yy h2 (λ z hz=>hb z (AC _ hz)),h2 _ (hb y (by simp))]|[],[],_=>by unfold im;exact Iff.rfl|[],_::_,_=>by unfold im;exact Iff.rfl|_::_,[],_=>by unfold im;exact Iff.rfl
theorem P9{sec':List Nat}{N:Nat}{up:Nat->Nat}{xs ys:List Int}{level:Int}{g:Bool}{p q:fM}(x:GOk W L)(A:VOk L)(f:¬kD L (gV p q))(d:∀t∈gV p q,t<L.length)(z:∀n,n<12->n%2=0->kL W sec n=kL W sec' n):sC W L N up xs ys level g p q vals sec↔sC W L N up xs ys level g p q vals sec':=by obtain⟨t1,t2,B,C,t5,j⟩:=oM (p:=p) (q:=q);have b:∀t,oP L t->vAt W sec L t=vAt W sec' L t:=λ t r=>P3 x A z r;have k:(∀c∈q.cs.map Int.toNat,vAt W sec L c≠0)↔∀c∈q.cs.map Int.toNat,vAt W sec' L c≠0:=by{constructor;{intro h c a;rw[<-b c (FH f d j c a)];exact h c a};intro h c a;rw[b c (FH f d j c a)];exact h c a};unfold sC qr iD;rw[yy b (FI f d C),yy b (FI f d B),k]
theorem Qj{V:Nat->Bool}{k:Nat}(hk:k=vals.length+2)(hs:jH W V vals sec):∀n,n<12->n%2=0->kL W sec n=kL W (gP V vals k) n:=λ n hn he=>by rw[hs n hn];unfold kL;rw[PQ hk he];unfold twN;split<;>rfl
end
open Go Go.RowKit
theorem Mut.wide{S S':Nat->Prop}{w w':World}(h:Mut S w w')(hs:∀k,S k->S' k):Mut S' w w':=⟨h.os,h.tape,h.output,h.size,λ k hk hn=>h.block k hk λ hm=>hn (hs k hm)⟩
def yz(B0 B1:Nat)(x:iM)(v1 v2 v3:Option Addr)(va:Option Addr)(vn vc:Nat)(w4:World)(e:Ending)(w5:World):Prop:=∃(t:Nat) (er:Int),e= .returned (.tuple #[.int .i64 (t:Nat),.int .i64 er])/\Mut (λ k=>B0<=k/\k<B1) w4 w5/\∃kb:Bool,(∀w6,Below w5.heap.size w5 w6->Calls Tryz.prog 9 #[.pointer v1,.pointer v3,.int .i64 x.level,x.p.v,x.q.v] w6 λ e w7=>e= .returned (.int .i64 (lh kb))/\Below w6.heap.size w6 w7)/\(kb=false->t=0/\er=3)/\(kb=true->∃b1 b2:Bool,(∀w6,Below w5.heap.size w5 w6->Calls Tryz.prog 10 #[.pointer v3,x.p.v] w6 λ e w7=>e= .returned (.bool b1)/\Below w6.heap.size w6 w7)/\(∀w6,Below w5.heap.size w5 w6->Calls Tryz.prog 10 #[.pointer v3,x.q.v] w6 λ e w7=>e= .returned (.bool b2)/\Below w6.heap.size w6 w7)/\((b1||b2)=true->t=0/\er=2)/\((b1||b2)=false->er=0/\∃z:Nat,(∀w6,Below w5.heap.size w5 w6->Calls Tryz.prog 11 #[.pointer v2,.int .i64 (t:Nat),.slice va vn vc] w6 λ e w7=>e= .returned (.tuple #[.int .u64 (z:Nat),.int .i64 0])/\Below w6.heap.size w6 w7)/\∀w6,Below w5.heap.size w5 w6->Calls Tryz.prog 12 #[.pointer v1,.pointer v3,.int .i64 x.level,x.p.v,x.q.v,.slice va vn vc] w6 λ e w7=>e= .returned (.bool (decide (z≠0)))/\Below w6.heap.size w6 w7))
theorem FM{L:List Nd}{p q:fM}:kD L (gV p q)↔(∃n:Nat,jE L ((p.cs++p.os.map (·.2)++p.rs.map (·.2)).map Int.toNat) n/\n%2=1)\/∃n:Nat,jE L ((q.cs++q.os.map (·.2)++q.rs.map (·.2)).map Int.toNat) n/\n%2=1:=by unfold kD gV kj jE iL;rw[List.map_append];constructor;{rintro⟨n,⟨j,⟨t,a,o⟩,h1⟩,h2⟩;rcases Ar.1 a with a|a;{exact .inl ⟨n,⟨j,⟨t,a,o⟩,h1⟩,h2⟩};exact .inr ⟨n,⟨j,⟨t,a,o⟩,h1⟩,h2⟩};rintro(⟨n,⟨j,⟨t,a,o⟩,h1⟩,h2⟩|⟨n,⟨j,⟨t,a,o⟩,h1⟩,h2⟩);{exact⟨n,⟨j,⟨t,Ar.2 (.inl a),o⟩,h1⟩,h2⟩};exact⟨n,⟨j,⟨t,Ar.2 (.inr a),o⟩,h1⟩,h2⟩
open Classical in
theorem Qk{w:World}{r W:Nat}{L:List Nd}(h:RV w r W L)(hvo:VOk L)(hL:L.length<=100)(p:fM)(hok:p.Ok w)(hsh:p.short){a b:Nat}(hpo:gc L.length a b p=true):
  Calls Tryz.prog 10 #[.pointer (some ⟨r,0,none⟩),p.v] w λ e w'=>e= .returned (.bool (decide (∃n:Nat,jE L ((p.cs++p.os.map (·.2)++p.rs.map (·.2)).map Int.toNat) n/\n%2=1)))/\Below w.heap.size w w':=
 (Ps h hvo hL p hok hsh λ t ht=>by
   unfold gc at hpo;rw[Af,AE] at hpo;simpa[isB] using hpo.2 t ht).mono λ e w' ⟨b,h1,h2,h3⟩=>⟨by rw[h1];congr 2;rw[Bool.eq_iff_iff,h2,decide_eq_true_eq],h3⟩
open Classical in
theorem Ql{w0 w2 w3:World}{x:iM}{v0 v1 v2 v3:Option Addr}(h:rG w0 w2 x v0 v1 v2 v3)(an:Below w0.heap.size w0 w2)(ap:Below w2.heap.size w2 w3)(h0:0<w0.heap.size)(aq:w2.cell? ⟨0,0,none⟩=some (.func (Fn.func 209) #[] #[])/\w2.cell? ⟨0,1,none⟩=some (.func (Fn.func 210) #[] #[]))
  (vals:List Nat){vn:Nat}(al:vals.length=vn)(aI:vn<=40){va:Option Addr}{vc:Nat}(aT:(Lay.int .u64).At 0 w0 va (fE vals))(aG:∀v∈vals,v<18446744073709551616):
  ∀w4,Below w3.heap.size w3 w4->Calls Tryz.prog 8 #[.pointer v0,.pointer v2,.int .i64 x.level,x.p.v,x.q.v] w4 (yz w0.heap.size w2.heap.size x v1 v2 v3 va vn vc w4):=by
 obtain⟨sb,lb,rb,xb,g,r,N,W,ca1,cc1,sa1,sc1,ca2,cc2,sa2,sc2,up,dn,L,rfl,rfl,rfl,rfl,-,-,-,-,hg,-,am,hl,hx,J,K,u,B,Q,aS,aE,au,aP,aJ,aN,Y,aa,aC,hw0,z,aQ,-,-,-,-,xb2,ca3,cc3,sa3,sc3,aD,ay,aA⟩:=h;obtain⟨A,G,H,AR,rv,ad⟩:=aP;have aw:=ad.pg;intro w4 hb;have O:Below w2.heap.size w2 w4:=ap.trans (hb.mono ap.size);have ao:Below w0.heap.size w0 w4:=an.trans (O.mono an.size);have S:Below u.heap.size u w4:=Q.trans (O.mono Q.size);have aF:0<u.heap.size:=by omega
 have aK:u.cell? ⟨0,0,none⟩=some (.func (Fn.func 209) #[] #[])/\u.cell? ⟨0,1,none⟩=some (.func (Fn.func 210) #[] #[]):=⟨(Q.cell (p:=⟨0,0,none⟩) aF).symm.trans aq.1,(Q.cell (p:=⟨0,1,none⟩) aF).symm.trans aq.2⟩
 have af:∀k,fG g (some G) H k->B<=k/\k<w2.heap.size:=λ k b=>aw.lo k b
 have R:∀k,fG g (some G) H k->w0.heap.size<=k/\k<w2.heap.size:=λ k b=>⟨by have:=(af k b).1;omega,(af k b).2⟩
 have ax:=aw.below O;have aj:=ad.rg.below O;have key:∀a,Mut (fG g (some G) H) w4 a->Below u.heap.size u a/\RV a r W L/\(Lay.int .u64).At 0 a va (fE vals):=λ a E=>by
  refine⟨S.trans (E.below (λ k b=>by have:=(af k b).1;omega) S.size),(aj.frame E.size λ k b=>E.block k ?_ λ aM=>ad.apart k (.inl aM) b).rv,aT.below (ao.trans (E.below (λ k b=>(R k b).1) ao.size))⟩;rcases b with b|b
  ·exact(aj.lo k b).2
  exact(aj.ar k b).2.1
 have chk:∀a,Mut (fG g (some G) H) w4 a->∀d,Below a.heap.size a d->Calls Tryz.prog 9 #[.pointer (some ⟨rb,0,none⟩),.pointer (some ⟨r,0,none⟩),.int .i64 x.level,x.p.v,x.q.v] d λ e w7=>e= .returned (.int .i64 (lh (okB N L.length x.xs.length x.ys.length x.level x.p x.q)))/\Below d.heap.size d w7:=λ a E d j=>by
  obtain⟨F,P,_⟩:=key a E;have C:Below u.heap.size u d:=F.trans (j.mono F.size);obtain⟨ga,aH,rr,M,hC,_⟩:=ay.below C;exact Pn (P.below j) (aD.below C) N _ aH hC.top x.level x.p x.q (z.p.below C) J (z.q.below C) K
 by_cases hkb:okB N L.length x.xs.length x.ys.length x.level x.p x.q=true
 ·have ae:=hkb;unfold okB at ae;simp only[Af,List.all_cons,List.all_nil] at ae;obtain⟨aL,ah,ai,_⟩:=ae;have U:∀a,Mut (fG g (some G) H) w4 a->∀D:fM,D.Ok u->D.short->gc L.length x.xs.length x.ys.length D=true->∀d,Below a.heap.size a d->Calls Tryz.prog 10 #[.pointer (some ⟨r,0,none⟩),D.v] d λ e w7=>e= .returned (.bool (decide (∃n:Nat,jE L ((D.cs++D.os.map (·.2)++D.rs.map (·.2)).map Int.toNat) n/\n%2=1)))/\Below d.heap.size d w7:=λ a E D V X h3 d j=>by
   obtain⟨F,P,_⟩:=key a E;exact Qk (P.below j) am hl D (V.below (F.trans (j.mono F.size))) X h3
  refine(Pj (c:=L.length) (L0:=L) S aS (Ag aJ O.size) aE au aC aQ aK z.p J z.q K ax Y aa (St.start _ hg.ok am aN) (by omega) hg.ok (λ t _ h=>h) hkb).mono ?_;rintro e a (⟨aO,rfl,ab⟩|⟨av,nv',A',M,t,rfl,az,aR,ht,aU⟩)
  ·have f:Mut (fG g (some G) H) w4 a:=Mut.of_below ab;refine⟨0,2,rfl,f.wide R,true,by have:=chk a f;rwa[hkb] at this,λ h=>(by cases h),λ _=>⟨_,_,U a f x.p z.p J ah,U a f x.q z.q K ai,λ _=>⟨rfl,rfl⟩,λ I=> ?_⟩⟩;rw[Bool.or_eq_false_iff,decide_eq_false_iff_not,decide_eq_false_iff_not] at I;rcases FM.1 aO with h|h
   ·exact absurd h I.1
   exact absurd h I.2
  have f:=az.mt;refine⟨t,0,rfl,f.wide R,true,by have:=chk a f;rwa[hkb] at this,λ h=>(by cases h),λ _=>⟨_,_,U a f x.p z.p J ah,U a f x.q z.q K ai,λ I=> ?_,λ _=>⟨rfl,vAt W vals M t,λ d j=> ?_,λ d j=> ?_⟩⟩⟩
  ·rw[Bool.or_eq_true,decide_eq_true_eq,decide_eq_true_eq] at I;exact absurd (FM.2 I) av
  ·obtain⟨_,_,ak⟩:=key a f;exact Pk (az.pg.rv.below j) Y aa t ht (by have:=aR.len;omega) vals al (by omega) (ak.below j) aG
  obtain⟨F,P,ak⟩:=key a f;have C:Below u.heap.size u d:=F.trans (j.mono F.size);refine(P2 (P.below j) Y aa hl (aD.below C) ((C.cell (p:=⟨rb,3,none⟩) (Au _ _ aA)).trans aA) (ay.below C) aC aL x.p x.q (z.p.below C) J (z.q.below C) K ah ai vals al aI (ak.below j) aG).mono λ e w7 ⟨V,X⟩=>⟨?_,X⟩
  rw[V]
  congr 2
  obtain⟨sec,aB⟩:=P4 W (fS N up x.xs x.level) vals;rw[Bool.eq_iff_iff,decide_eq_true_eq,P8,aU vals sec aB];exact(P9 hg.ok am av (Fg hkb).2 (Qj (by rw[al]) aB)).symm
 rw[Bool.not_eq_true] at hkb;refine(Pg S aE au z.p J z.q K ax hkb).mono ?_;rintro e a ⟨rfl,ab⟩;have f:Mut (fG g (some G) H) w4 a:=Mut.of_below ab;exact⟨0,3,rfl,f.wide R,false,by have:=chk a f;rwa[hkb] at this,λ _=>⟨rfl,rfl⟩,λ h=>by cases h⟩
