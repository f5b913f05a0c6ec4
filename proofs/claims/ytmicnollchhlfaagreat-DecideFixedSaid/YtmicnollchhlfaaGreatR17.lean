/- A region whose last stores write what its loads read: the loads come first all the same, since the stores wait for them. -/
import Derived.Test.YtmicnollchhlfaaGreatR5
import Derived.Test.YtmicnollchhlfaaGreatR16
set_option linter.all false
namespace Go.Proofs.YtmicnollchhlfaaGreat
open Go Go.RowKit
structure GS (w:World) (B gb mb W:Nat) (L:List Nd) (off:Nat->Prop):Prop where
 ex:∃(A:Nat->Prop) (nv:Value),PG w B A gb mb nv W L/\∀k,off k->k<w.heap.size/\¬eL gb (some mb) nv k/\¬A k
 nd:L.Nodup
 v6:∀j,j<L.length->(ndL L j).op=1->(ndL L j).num<6
 base:B<=w.heap.size
section
variable {w w':World} {B gb mb W:Nat} {L:List Nd} {off off':Nat->Prop}
theorem GS.frame(h:GS w B gb mb W L off)(hs:w.heap.size<=w'.heap.size)(hk:∀k,k<w.heap.size->¬off k->w'.heap[k]? =w.heap[k]?):GS w' B gb mb W L (cX w w' off):=by obtain⟨A,l,d,g⟩:=h.ex;refine⟨⟨A,l,d.frame hs λk j=> ?_,λk j=> ?_⟩,h.nd,h.v6,A9 h.base hs⟩;{rcases j with q|q;{exact hk k (d.lo k q).2 λc=>(g k c).2.1 q};exact hk k (d.ar k q).2.1 λc=>(g k c).2.2 q};rcases j with q|⟨q1,q2⟩;{exact⟨A8 (g k q).1 hs,(g k q).2⟩};exact⟨q2,λc=>by have:=(d.lo k c).2;omega,λc=>by have:=(d.ar k c).2.1;omega⟩
theorem GS.less(h:GS w B gb mb W L off)(g:∀k,off' k->off k):GS w B gb mb W L off':=by obtain⟨A,j,d,c⟩:=h.ex;exact⟨⟨A,j,d,λk hk=>c k (g k hk)⟩,h.nd,h.v6,h.base⟩
def GS.below(h:GS w B gb mb W L off)(hb:Below w.heap.size w w'):=h.frame hb.size λk hk _=>hb.block k hk
theorem GS.rv(h:GS w B gb mb W L off):RV w gb W L:=by obtain⟨A,nv,c,-⟩:=h.ex;exact c.rv
theorem GS.lt(h:GS w B gb mb W L off){k}(hk:off k):k<w.heap.size:=by obtain⟨A,nv,hp,c⟩:=h.ex;exact(c k hk).1
theorem JC{n}(h:L.Nodup):(dW n L).Nodup:=by unfold dW;split;{exact h};rename_i g;rw[List.nodup_append];refine⟨h,by simp,λa c b d=> ?_⟩;rw[List.mem_singleton.1 d];intro e;exact g (e▸c)
theorem JD{n}(h:∀j,j<L.length->(ndL L j).op=1->(ndL L j).num<6)(g:n.op=1->n.num<6):∀j,j<(dW n L).length->(ndL (dW n L) j).op=1->(ndL (dW n L) j).num<6:=by unfold dW;split;{exact h};intro j d;by_cases e:j<L.length;{have c:ndL (L++[n]) j=ndL L j:=by{unfold ndL;simp[List.getD_eq_getElem?_getD,List.getElem?_append_left e]};rw[c];exact h j e};have c:ndL (L++[n]) j=n:=by{have:j=L.length:=by{simp at d;omega};subst this;unfold ndL;simp[List.getD_eq_getElem?_getD]};rw[c];exact g
def GP(w:World)(B gb mb W:Nat)(L:List Nd)(off:Nat->Prop)(n:Nd)(e:Ending)(w':World):=e= .returned (.tuple #[.int .i64 (dO n L:Nat),.int .i64 0])/\GS w' B gb mb W (dW n L) off/\cP B off w w'
theorem GS.post{A A':Nat->Prop}{nv n e}(h:GS w B gb mb W L off)(G:PG w B A gb mb nv W L)(l:∀k,off k->k<w.heap.size/\¬eL gb (some mb) nv k/\¬A k)(z:∀k,A' k->w.heap.size<=k)(F:n.op=1->n.num<6) (K:jn w B A A' gb mb nv W L n e w'):GP w B gb mb W L off n e w':=by obtain⟨N,E,H,hm,D⟩:=K;refine⟨E,⟨⟨_,N,H,λk hk=> ?_⟩,JC h.nd,JD h.v6 F,A9 h.base hm.size⟩,⟨hm.os,hm.tape,hm.output,hm.size,λk hk=>hm.block k (l k hk).1 (l k hk).2.1,λk hk=>hm.block k (by have:=h.base;omega) λd=>by have:=(G.lo k d).1;omega⟩⟩;obtain⟨t,c,d⟩:=l k hk;refine⟨A8 t hm.size,λg=> ?_,λg=> ?_⟩;{rcases g with q|q|q;{exact c (.inl q)};{exact c (.inr (.inl q))};rcases D with r|⟨j,r1,r2⟩;{exact c (.inr (.inr (r▸q)))};rw[r1] at q;injection q with q;omega};rcases g with q|q;{exact d q};have:=z k q;omega
theorem Bw(h:GS w B gb mb W L off)(hL:L.length<=900)(d:1<=W)(g:W<=64)(v:Nat)(n:v<18446744073709551616):Calls Tryz.prog 16 #[.pointer (some ⟨gb,0,none⟩),.int .u64 v] w (GP w B gb mb W L off ⟨0,v%2^W,[]⟩):=by obtain⟨A,nv,c,j⟩:=h.ex;exact(I5 c h.base (by omega) d g v n).mono λe w' l=>h.post c j (λk hk=>hk.elim) (λe=>by cases e) l
theorem Bx(h:GS w B gb mb W L off)(hL:L.length<=900)(v:Nat)(j:v<6):Calls Tryz.prog 15 #[.pointer (some ⟨gb,0,none⟩),.int .i64 v] w (GP w B gb mb W L off ⟨1,v,[]⟩):=by obtain⟨A,nv,c,d⟩:=h.ex;exact(I6 c h.base (by omega) v (by omega)).mono λe w' g=>h.post c d (λk hk=>hk.elim) (λ _=>j) g
theorem By(h:GS w B gb mb W L off)(hL:L.length<=900) o(t:2<=o)(z:o<=21) args(l:args.length=arN o)(j:∀a∈args,a<L.length){a cap len}(n:args.length=len)(k:(Lay.int .i64).At 0 w a (cT args))(r:a=none->cap=0):Calls Tryz.prog 17 #[.pointer (some ⟨gb,0,none⟩),.int .u8 o,.slice a len cap] w (GP w B gb mb W L off ⟨o,0,args⟩):=by obtain⟨A,nv,d,D⟩:=h.ex;refine(Jd d h.base (by omega) o t z args l j n k r).mono λe w' c=> ?_;obtain⟨A',g,c⟩:=c;exact h.post d D g (λe=>by have:o=1:=e;omega) c
def mf(h:GS w B gb mb W L off):=vS h.rv
theorem nF w n(m:Nat)(g:1<=m)(h:m<=1000):Calls Tryz.prog 9 #[.int .i64 n,.int .i64 m] w λe w'=>e= .returned (.int .i64 (n%m))/\w=w':=by have b1: -(m:Int)<n.tmod m:=by{have:=Int.lt_tmod_of_pos n (show(0:Int)<m by omega);omega};have b2:n.tmod m<m:=Int.tmod_lt_of_pos n (by omega);have c:(n.tmod m+m)%m=n%m:=by{rw[Int.add_emod_right,Int.tmod_def,Int.sub_mul_emod_self_left]};have hm:(1:Int)<=m:=by{omega};have hm2:(m:Int)<=1000:=by{omega};have d:=Z c;clear c g h;go_enter Tryz.func9,Tryz.ntmps9;go_wp2_with fail;go_ret;exact⟨by rw[<-d.o];rfl,rfl⟩
theorem JE w(W:Nat)(h1:1<=W)(h4:W<=4):Calls Tryz.prog 18 #[.int .i64 W] w λe w'=>e= .returned (.int .u64 ((2^W-1:Nat):Int))/\w=w':=by have:W=1\/W=2\/W=3\/W=4:=by{omega};rcases this with rfl|rfl|rfl|rfl;all_goals go_enter Tryz.func18,Tryz.ntmps18;go_wp2_with fail;go_ret;exact⟨rfl,rfl⟩
end
def Bz(w:World)(B gb mb W:Nat)(L:List Nd)(off:Nat->Prop)(e:Ending)(w':World):=∃(n:Nd) (t:Nat),e= .returned (.tuple #[.int .i64 t,.int .i64 0])/\GS w' B gb mb W (dW n L) off/\cP B off w w'
section
variable {w w1 w':World} {B gb mb W:Nat} {L:List Nd} {off:Nat->Prop}
theorem GP.add{n e}(h:GS w B gb mb W L off)(j:Below w.heap.size w w1)(l:GP w1 B gb mb W L off n e w'):Bz w B gb mb W L off e w':=by obtain⟨c,d,g⟩:=l;exact⟨n,_,c,d,(cP.of_below j (λk hk=>h.lt hk) h.base).trans g λ _ h=>h⟩
def GS.keep(h:GS w B gb mb W L off)(hb:Below w.heap.size w w1):=(h.below hb).less λ _=>.inl
theorem JF{α}{L:Lay α}{e base v xs}(h:L.Own e w base v xs)(hb:Below w.heap.size w w1):L.Own e w1 base v xs:=World.ownsRow.kept (row:=none) h ⟨hb.os,hb.tape,hb.output,hb.size,λk hk _=>hb.block k hk⟩ (by cases hk:v.ownBlock with|none=>exact .inl rfl|some k=>exact .inr (λe=>by cases e))
set_option maxRecDepth 100000 in
set_option maxHeartbeats 8000000 in
theorem JG(h:GS w B gb mb W L off)(hL:L.length<=60)(h1:1<=W)(h2:W<=64){what op num z ac:Nat}{n N xs}(hwt:what<256)(hop:op<256)(aP:num<18446744073709551616)(aw:(Lay.int .i64).At 0 w N xs)(au:xs.length=z):
  Calls Tryz.prog 64 #[.pointer (some ⟨gb,0,none⟩),.agg #[.int .u8 what,.int .u8 op,.int .u64 num,.int .i64 n,.slice N z ac]] w (Bz w B gb mb W L off):=by
 have ax:Below w.heap.size w (w.alloc (.cells #[.int .u8 what,.int .u8 op,.int .u64 num,.int .i64 n,.slice N z ac] 57)):=cU (A4 _ _) _;have aD:cN (w.alloc (.cells #[.int .u8 what,.int .u8 op,.int .u64 num,.int .i64 n,.slice N z ac] 57)) w.heap.size [.int .u8 what,.int .u8 op,.int .u64 num,.int .i64 n,.slice N z ac]:=cN.made rfl;obtain⟨code,aN⟩:∃code,code=2+op%20:=⟨_,rfl⟩
 have ay:2<=code/\code<=21:=by omega
 have aF:Int.tmod (op:Int) 20=((op%20:Nat):Int):=by rw[AX (by omega)];omega
 have t4:Int.tmod (what:Int) 4=((what%4:Nat):Int):=by rw[AX (by omega)];omega
 have ec:((op%20:Nat):Int)=(code:Int)-2:=by omega
 rw[ec] at aF;have wc:IntKind.u8.wrap (2+((code:Int)-2))=code:=by rw[IntKind.wrap_u8];omega
 have ar:=Z (nB code (by omega) (w:=w.alloc (.cells #[.int .u8 what,.int .u8 op,.int .u64 num,.int .i64 n,.slice N z ac] 57)));have H0:=Z h;have aI:=Z aw;have aG:=Z au;have ab:=Z hL;obtain⟨c,hc⟩:∃c,c=what%4:=⟨_,rfl⟩
 rw[<-hc] at t4;have hc4:c<4:=by omega
 clear h aw au hL aN ec hc;have HP:=Z aD;have ae:=Z ax;clear aD ax;go_enter Tryz.func64,Tryz.ntmps64
 go_upto_region 3 with(first
  |(go_at_call 36
    refine ar.o.mono ?_;rintro e t ⟨rfl,ai⟩;have A:Hid (cN t w.heap.size [.int .u8 what,.int .u8 op,.int .u64 num,.int .i64 n,.slice N z ac]/\Below w.heap.size w t):=Z ⟨HP.o.keep ai,ae.o.trans (ai.mono ae.o.size)⟩;obtain⟨c0,-⟩:=A.o.1.at_ 0 _ rfl;obtain⟨c2,-⟩:=A.o.1.at_ 2 _ rfl;obtain⟨c3,-⟩:=A.o.1.at_ 3 _ rfl;obtain⟨c4,-⟩:=A.o.1.at_ 4 _ rfl;clear ai)
  |fail)
 clear ar ae HP wc aF;have O:=Z (H0.o.keep A.o.2);have HC:=Z (Bw O.o (by have:=ab.o;omega) h1 h2 num aP);by_cases hz0:c=0
 ·subst hz0
  go_wp2_with(first
   |(go_at_call 16
     refine HC.o.mono ?_;rintro e F D;have K:=Z (D.add H0.o A.o.2);obtain⟨rfl,-,-⟩:=D)
   |fail)
  go_ret2
  exact K.o
 have dz0:((c:Int)==0)=false:=by rw[beq_eq_false_iff_ne];omega
 obtain⟨g,ao⟩:∃g,g=L.length:=⟨_,rfl⟩
 have E:=mf O.o;rw[<-ao] at E;have af:=Z E;have ad:=Z ao;have hll60:g<=60:=by have:=ab.o;omega
 clear E ao;by_cases hz1:c=1
 ·subst hz1;have d1:decide ((1:Int)<1)=false:=rfl;obtain⟨v,V⟩:∃v:Nat,n%((6:Nat):Int)=v:=⟨(n%6).toNat,by omega⟩
  have aS:v<6:=by omega
  have G:=Z (nF t n 6 (by decide) (by decide));rw[V] at G;have HV:=Z (Bx O.o (by have:=ab.o;omega) v aS);clear V;rcases Nat.eq_zero_or_pos g with hl0|hl0
  all_goals
   have dl:((g:Int)==0)=decide (g=0):=by
    by_cases q:g=0
    ·subst q;rfl
    simp[q]
   first|(subst hl0)|(have dl2:decide (g=0)=false:=decide_eq_false (by omega))
   go_wp2_with(first
    |(go_at_call 13
      refine af.o.mono ?_;rintro e F ⟨rfl,rfl⟩)
    |(go_at_call 9
      refine G.o.mono ?_;rintro e F ⟨rfl,rfl⟩)
    |(go_at_call 15
      refine HV.o.mono ?_;rintro e F D;have K:=Z (D.add H0.o A.o.2);obtain⟨rfl,-,-⟩:=D)
    |fail)
   go_ret2
   exact K.o
 have dz1:((c:Int)==1)=false:=by rw[beq_eq_false_iff_ne];omega
 have dg:decide ((1:Int)<c)=true:=decide_eq_true (by omega);rcases Nat.eq_zero_or_pos g with hl0|hl0
 ·subst hl0
  go_wp2_with(first
   |(go_at_call 13
     refine af.o.mono ?_;rintro e F ⟨rfl,rfl⟩)
   |(go_at_call 16
     refine HC.o.mono ?_;rintro e F D;have K:=Z (D.add H0.o A.o.2);obtain⟨rfl,-,-⟩:=D)
   |fail)
  go_ret2
  exact K.o
 have dl:((g:Int)==0)=false:=by rw[beq_eq_false_iff_ne];omega
 go_wp2_with(first
  |(go_at_call 13
    refine af.o.mono ?_;rintro e F ⟨rfl,rfl⟩)
  |fail)
 have har:1<=arN code/\arN code<=3:=by
  have:arN code=1\/arN code=2\/arN code=3:=by unfold arN;(repeat' split)<;>omega
  omega
 generalize han:arN code=an at*;have aH:=Z han;clear han
 go_loopw [9,10] (λav iv wr=>∃(k:Nat) (l:List Nat),iv= .int .i64 k/\k<=an/\Hid (l.length=k/\(∀a∈l,a<L.length)/\(Lay.int .i64).Own 3 wr t.heap.size av (cT l)/\Below t.heap.size t wr)) (λ _ iv _=>an-(intOf iv).toNat)
 case atStart=>exact⟨0,[],rfl,by omega,Z ⟨rfl,by simp,Lay.Own.nil _ _,A4 _ _⟩⟩
 case round=>
  obtain⟨k,l,rfl,hk,r⟩:=hrel;generalize wr=wo at*;have aE:t.heap.size<=wo.heap.size:=r.o.2.2.2.size;by_cases hlt:k<an
  ·have hki:(k:Int)<an:=by omega
   obtain⟨aK,-⟩:=(A.o.1.keep r.o.2.2.2).at_ 4 _ rfl;rcases Nat.eq_zero_or_pos z with hz|hz
   ·subst hz;have E:=mf (O.o.keep r.o.2.2.2);rw[<-ad.o] at E;have ah:=Z E;have G:=Z (nF wo 0 g hl0 (by omega));rw[show(0:Int)%(g:Int)=((0:Nat):Int) by simp] at G;clear E
    go_upto_region 14 with(fail)
    go_wp2_with(first
     |(go_at_call 13
       refine ah.o.mono ?_;rintro e F ⟨rfl,rfl⟩)
     |(go_at_call 9
       refine G.o.mono ?_;rintro e F ⟨rfl,rfl⟩)
     |(at_builtin;suffices hzz:id (wpList _ _ _ _ _ _) from hzz)
     |fail)
    show wpList _ _ _ _ _ _;refine sk Tryz.elemI [(0:Int)] rfl _ _ rfl rfl r.o.2.2.1 rfl (by simp) rfl (by have:=r.o.1;rw[ed];omega) aE ?_;intro v5 Y U R;have H6:Hid ((l++[0]).length=k+1/\(∀a∈l++[0],a<L.length)/\(Lay.int .i64).Own 3 Y t.heap.size v5 (cT (l++[0]))/\Below t.heap.size t Y):=Z ⟨by simp[r.o.1],λa ha=>by
     rcases A6.1 ha with q|q
     ·exact r.o.2.1 a q
     rw[List.mem_singleton.1 q,<-ad.o];exact hl0,by simpa[cT] using U,r.o.2.2.2.trans R⟩
    clear U R
    go_wp2_with fail
    go_roundw
    case rel=>exact⟨k+1,_,by go_num,by omega,H6⟩
    case measure=>simp[intOf];omega
   obtain⟨j,hj⟩:∃j,j=k%z:=⟨_,rfl⟩
   have aO:j<z:=by rw[hj];exact Av _ hz
   have tj:Int.tmod (k:Int) (z:Int)=(j:Int):=by rw[AX (by omega),hj,Int.natCast_emod]
   have hji:(j:Int)<z:=by omega
   have aL:decide ((0:Int)<z)=true:=decide_eq_true (by omega);have aM:((z:Int)==0)=false:=by rw[beq_eq_false_iff_ne];omega
   obtain⟨qb,qo,rfl,aR,hq⟩:=aI.o.int (i:=j) (by rw[aG.o];exact aO);have aQ:wo.cell? ⟨qb,qo+j,none⟩=some (.int .i64 (xs.getD j 0)):=((A.o.2.trans (r.o.2.2.2.mono A.o.2.size)).cell (p:=⟨qb,qo+j,none⟩) aR).trans hq;generalize xs.getD j 0=x at*;clear hj hq
   go_wp2_with fail
   go_quiet(fail)
   have aj:Below wo.heap.size wo (wo.drewN nq):=pO (A4 _ _) _;have aC:(Lay.int .i64).Own 3 (wo.drewN nq) t.heap.size u9 (cT l):=JF r.o.2.2.1 aj;have H:=Z (And.intro r.o.1 (And.intro r.o.2.1 (And.intro aC (r.o.2.2.2.trans (aj.mono aE)))));clear aC aj r aK aQ tj aL aM;generalize wo.drewN nq=w6 at*;have aV:t.heap.size<=w6.heap.size:=H.o.2.2.2.size;have E:=mf (O.o.keep H.o.2.2.2);rw[<-ad.o] at E;have ah:=Z E;have G:=Z (nF w6 x g hl0 (by omega));obtain⟨v,V⟩:∃v:Nat,x%(g:Int)=v:=⟨(x%(g:Int)).toNat,by have:=Int.emod_nonneg x (show(g:Int)≠0 by omega);omega⟩
   have aT:v<g:=by have:=Int.emod_lt_of_pos x (show(0:Int)<g by omega);omega
   rw[V] at G;clear E V
   go_wp2_with(first
    |(go_at_call 13
      refine ah.o.mono ?_;rintro e F ⟨rfl,rfl⟩)
    |(go_at_call 9
      refine G.o.mono ?_;rintro e F ⟨rfl,rfl⟩)
    |(at_builtin;suffices hzz:id (wpList _ _ _ _ _ _) from hzz)
    |fail)
   show wpList _ _ _ _ _ _;refine sk Tryz.elemI [(v:Int)] rfl _ _ rfl rfl H.o.2.2.1 rfl (by simp) rfl (by have:=H.o.1;rw[ed];omega) aV ?_;intro v5 Y U R;have H6:Hid ((l++[v]).length=k+1/\(∀a∈l++[v],a<L.length)/\(Lay.int .i64).Own 3 Y t.heap.size v5 (cT (l++[v]))/\Below t.heap.size t Y):=Z ⟨by simp[H.o.1],λa ha=>by
    rcases A6.1 ha with q|q
    ·exact H.o.2.1 a q
    rw[List.mem_singleton.1 q,<-ad.o];exact aT,by simpa[cT] using U,H.o.2.2.2.trans R⟩
   clear U R
   go_wp2_with fail
   go_roundw
   case rel=>exact⟨k+1,_,by go_num,by omega,H6⟩
   case measure=>simp[intOf];omega
  obtain rfl:k=an:=by omega
  obtain⟨T,az,aB,am⟩:=r.o;obtain⟨va,vc,rfl,aq,aU,_⟩:=aB.at_ (d:=0);have aA:(cT l).length=k:=by simp[cT,T]
  rw[aA];have HA:=Z (By (O.o.keep am) (by have:=ab.o;omega) code ay.1 ay.2 l (T.trans aH.o.symm) az T aq (cap:=vc) (λe=>by obtain⟨_,_,e2,_⟩:=aq.int (i:=0) (by rw[ed,T];omega);rw[e2] at e;cases e));have aJ:=Z (A.o.2.trans (am.mono A.o.2.size));clear T az aB am aq aU aA
  go_wp2_with(first
   |(go_at_call 17
     refine HA.o.mono ?_;rintro e F D;have K:=Z (D.add H0.o aJ.o);obtain⟨rfl,-,-⟩:=D)
   |fail)
  go_ret2
  exact K.o
end
open Go
section
variable {P:Program} {ops:Array Oper} {Q:Exit->Act->World->Prop} {md:Region.Mode} {S:World->Prop} {late:Nat->Bool}
def eo(P:Program)(md:Region.Mode)(ops:Array Oper)(Q:Exit->Act->World->Prop)(S:World->Prop)(late:Nat->Bool):Nat->Array Bool->Act->World->Prop|0,ls,a,w=>Region.ready md ops ls=[]/\Q .normal a w|f+1,ls,a,w=>(Region.ready md ops ls=[]->Q .normal a w)/\∀i∈Region.ready md ops ls,wpOp P ops Q i (λa' w'=>(late i=false->S w->S w')/\eo P md ops Q S late f (ls.setIfInBounds i true) a' w') a w
theorem vT:∀f ls a w,eo P md ops Q S late f ls a w->wpAny P md ops Q f ls a w|0,_,_,_,h=>h|f+1,_,_,_,h=>⟨h.1,λi hi=>wpOp_mono (λa' w' h'=>vT f _ a' w' h'.2) (h.2 i hi)⟩
def BA(md:Region.Mode)(ops:Array Oper)(late:Nat->Bool)(i:Nat):=∀j oj,ops[j]? =some oj->late j=true->j≠i->∃e∈oj.after,Region.binds md e=true/\e.on=i
theorem vU{i oi v}(G:ops[i]? =some oi)(T:∀(j:Nat) o cs b,ops[j]? =some o->o.op≠ .select cs b)(hQ:∀c a w,Q (.panic c) (a.put oi.dst v) w->Q (.panic c) a w){S0} (ad:(∀w,S0 w)\/(BA md ops late i/\S0=S)):∀f ls a w,(∀j d,ops[j]? =some d->j≠i->ls.getD j true=false->(∀e∈d.after,Region.binds md e=true->e.on≠i)->oi.apart ops d=true)->i∈Region.ready md ops ls->YieldsIf P ops S0 oi v a->S0 w->eo P md ops Q S late f (ls.setIfInBounds i true) (a.put oi.dst v) w->eo P md ops Q S late (f+1) ls a w:=by intro f;induction f with|zero=>intro ls a w _ l A r H;refine⟨λh=>(by rw[h] at l;cases l),λj t=> ?_⟩;by_cases hji:j=i;{subst hji;exact A.wpOp G r ⟨λ _ h=>h,H⟩};have:=ready_mono t hji;rw[H.1] at this;cases this|succ f ih=>intro ls a w N l A r H;refine⟨λh=>(by rw[h] at l;cases l),λj t=> ?_⟩;by_cases hji:j=i;{subst hji;exact A.wpOp G r ⟨λ _ h=>h,H⟩};have g:=H.2 j (ready_mono t hji);obtain⟨O,d,z,aa⟩:=mem_ready.1 t;have R:∀e∈d.after,Region.binds md e=true->e.on≠i:=λe E D F=>by{have g:=aa e E D;have K:=(mem_ready.1 l).1;rw[F] at g;rcases Nat.lt_or_ge i ls.size with h'|h';{simp[h'] at K g;rw[K] at g;cases g};simp[Array.getElem?_eq_none h'] at g};have Y:=wpOp_putIf z (N j d z hji O R) (λcs b=>T i oi cs b G) (λcs b=>T j d cs b z) hQ A g;have ab:∀k ok,ops[k]? =some ok->k≠i->(ls.setIfInBounds j true).getD k true=false->(∀e∈ok.after,Region.binds md e=true->e.on≠i)->oi.apart ops ok=true:=λk ok hk ac U ae=>by{refine N k ok hk ac ?_ ae;by_cases hjk:j=k;{subst hjk;exact O};rw[getD_set_ne true hjk] at U;exact U};refine wpOp_mono (λV w' n=>⟨n.2.1,?_⟩) Y;have af:S0 w':=by{rcases ad with q|⟨q,rfl⟩;{exact q w'};refine n.2.1 ?_ r;cases hl:late j with|false=>rfl|true=>obtain⟨e,E,D,F⟩:=q j d z hl hji;exact absurd F (R e E D)};exact ih (ls.setIfInBounds j true) V w' ab (ready_mono l (Ne.symm hji)) n.1 af (by rw[Array.setIfInBounds_comm _ _ hji];exact n.2.2)
def sC(md:Region.Mode)(ops:Array Oper)(late:Nat->Bool)(i:Nat):=(List.range ops.size).all λj=> !late j||j==i||Region.waitsFor md ops j i
theorem JH{i}(h:sC md ops late i=true):BA md ops late i:=λj oj hj hl hji=>by have h1:=AE.1 h j (List.mem_range.2 (Al.1 hj).1);rw[hl] at h1;simp only[Bool.not_true,Bool.false_or,Bool.or_eq_true,beq_iff_eq] at h1;obtain⟨oj',hj',e,he,hb,hon⟩:=Region.waitsFor_spec (h1.resolve_left hji);rw[hj] at hj';obtain rfl:=Option.some.inj hj';exact⟨e,he,hb,hon⟩
def JI{i:Nat}{oi:Oper}{v:Value}{f:Nat}{ls:Array Bool}{a:Act}{w:World}(hi':ops.toList[i]? =some oi)(hs:Region.noSelect ops=true)(hf:Region.free md ops ls i=true)(hr:(Region.ready md ops ls).contains i=true)(hl:sC md ops late i=true) (hQ:∀c a w,Q (.panic c) (a.put oi.dst v) w->Q (.panic c) a w)(hw:Region.wanted oi (yielded ops a.tmps)=true)(hy:∀w,S w->(execOp a.eval oi).run P w= .ok (.value v) w)(hS:S w) (h:eo P md ops Q S late f (ls.setIfInBounds i true) (a.put oi.dst v) w):=have hi:ops[i]? =some oi:=(AN ..).symm.trans hi';vU hi (Region.noSelect_spec hs) hQ (S0:=S) (.inr ⟨JH hl,rfl⟩) f ls a w (Region.free_spec hi hf) (by simpa using hr) (.inl ⟨hw,hy⟩) hS h
def BB{i:Nat}{oi:Oper}{v:Value}{f:Nat}{ls:Array Bool}{a:Act}{w:World}(hi':ops.toList[i]? =some oi)(hs:Region.noSelect ops=true)(hf:Region.free md ops ls i=true)(hr:(Region.ready md ops ls).contains i=true) (hQ:∀c a w,Q (.panic c) (a.put oi.dst v) w->Q (.panic c) a w)(hw:Region.wanted oi (yielded ops a.tmps)=true)(hy:∀w,(execOp a.eval oi).run P w= .ok (.value v) w) (h:eo P md ops Q S late f (ls.setIfInBounds i true) (a.put oi.dst v) w):=have hi:ops[i]? =some oi:=(AN ..).symm.trans hi';vU hi (Region.noSelect_spec hs) hQ (S0:=λ _=>True) (.inl λ _=>trivial) f ls a w (Region.free_spec hi hf) (by simpa using hr) (.inl ⟨hw,λw _=>hy w⟩) trivial h
def fc{i:Nat}{oi:Oper}{f:Nat}{ls:Array Bool}{a:Act}{w:World}(hi':ops.toList[i]? =some oi)(hs:Region.noSelect ops=true)(hf:Region.free md ops ls i=true)(hr:(Region.ready md ops ls).contains i=true) (hQ:∀c a w,Q (.panic c) (a.put oi.dst undef) w->Q (.panic c) a w)(hw:Region.wanted oi (yielded ops a.tmps)=false) (h:eo P md ops Q S late f (ls.setIfInBounds i true) (a.put oi.dst undef) w):=have hi:ops[i]? =some oi:=(AN ..).symm.trans hi';vU hi (Region.noSelect_spec hs) hQ (S0:=λ _=>True) (.inl λ _=>trivial) f ls a w (Region.free_spec hi hf) (by simpa using hr) (.inr ⟨hw,rfl⟩) trivial h
def eM(P:Program)(md:Region.Mode)(ops:Array Oper)(Q:Exit->Act->World->Prop)(S:World->Prop)(late:Nat->Bool)(f:Nat)(ls:Array Bool)(a:Act)(w:World)(rs:List Nat):=∀i∈rs,wpOp P ops Q i (λa' w'=>(late i=false->S w->S w')/\eo P md ops Q S late f (ls.setIfInBounds i true) a' w') a w
theorem eM.nil{f ls a w}:eM P md ops Q S late f ls a w []:=λ _ h=>by cases h
def nG(p:Prop):=p
theorem nG.o{p}(h:nG p):p:=h
theorem nG.out{p}(h:nG p):p:=h
theorem eM.cons{f ls a w i o rs}(ho':ops.toList[i]? =some o) (h:∀K',nG (∀a w',(late i=false->S w->S w')->((late i=false->S w->S w')->eo P md ops Q S late f (ls.setIfInBounds i true) a w')->K' a w')->if Region.wanted o (yielded ops a.tmps)=true then Oper.wp P o a w K' Q else K' (a.put o.dst undef) w) (hs:eM P md ops Q S late f ls a w rs):eM P md ops Q S late f ls a w (i::rs):=λj hj=>by have ho:ops[i]? =some o:=(AN ..).symm.trans ho';rcases List.mem_cons.1 hj with rfl|hj;{exact wpOp_step ho (λK' hK=>h K' (λa w' hS hW=>hK a w' ⟨hS,hW hS⟩))};exact hs j hj
theorem mg{rs f ls a w}(hr:Region.ready md ops ls=rs)(hne:rs≠[])(h:eM P md ops Q S late f ls a w rs):eo P md ops Q S late (f+1) ls a w:=⟨λh0=>absurd (hr▸h0) hne,hr▸h⟩
theorem eN{ls a w}(hr:Region.ready md ops ls=[])(h:Q .normal a w):∀f,eo P md ops Q S late f ls a w|0=>⟨hr,h⟩|_+1=>⟨λ _=>h,by rw[hr];simp⟩
theorem BC{f0}(Inv:Nat->Array Bool->Act->World->Prop)(h0:∀ls a w,Inv 0 ls a w->eo P md ops Q S late f0 ls a w) (step:∀n ls a w,Inv (n+1) ls a w->Region.ready md ops ls≠[]/\∀i∈Region.ready md ops ls,wpOp P ops Q i (λa' w'=>(late i=false->S w->S w')/\Inv n (ls.setIfInBounds i true) a' w') a w):∀n ls a w,Inv n ls a w->eo P md ops Q S late (f0+n) ls a w|0,ls,a,w,h=>h0 ls a w h|n+1,ls,a,w,h=>⟨λe=>absurd e (step n ls a w h).1,λi hi=>wpOp_mono (λa' w' h'=>⟨h'.1,BC Inv h0 step n _ a' w' h'.2⟩) ((step n ls a w h).2 i hi)⟩
def gU(K:Act->World->Prop):Exit->Act->World->Prop| .normal,a,w=>K a w|_,_,_=>False
theorem pS t ds d v:Act.put ⟨t,ds⟩ (some d) v=⟨t.setIfInBounds d v,ds⟩:=rfl
theorem pN a v:Act.put a none v=a:=rfl
theorem pA{α:Type}(l:List α) i a:l.toArray.setIfInBounds i a=(l.set i a).toArray:=List.setIfInBounds_toArray ..
theorem pZ{α:Type} a b(l:List α):(a::l).set 0 b=b::l:=rfl
theorem pC{α:Type} a b(l:List α) n:(a::l).set (n+1) b=a::l.set n b:=rfl
def nH md ops ls i:=Region.noSelect ops&&Region.free md ops ls i&&(Region.ready md ops ls).contains i
theorem BD{ls i}(h:nH md ops ls i=true):Region.noSelect ops=true/\Region.free md ops ls i=true/\(Region.ready md ops ls).contains i=true:=by unfold nH at h;rw[A7,A7] at h;exact⟨h.1.1,h.1.2,h.2⟩
def sD md ops ls i:=nH md ops ls i&&(match ops.toList[i]? with|some o=>o.guard.isNone|none=>false)
theorem BE{ls i oi}(h:sD md ops ls i=true)(d:ops.toList[i]? =some oi)(a:Act):nH md ops ls i=true/\Region.wanted oi (yielded ops a.tmps)=true:=by unfold sD at h;rw[d,A7] at h;have c:oi.guard=none:=by{simpa using h.2};exact⟨h.1,by simp[Region.wanted,c]⟩
def nI(ops:Array Oper)(ls:Array Bool)(i:Nat):=bif ls.getD i true then none else ops.toList[i]?
theorem sE{ls i oi}(h:nI ops ls i=some oi):ops.toList[i]? =some oi:=by unfold nI at h;cases hb:ls.getD i true with|true=>rw[hb] at h;cases h|false=>rw[hb] at h;exact h
section
variable {J:Act->World->Prop} {oi:Oper} {v:Value} {f:Nat} {ls:Array Bool} {a:Act} {w:World}
def tk1(i:Nat)(hi':nI ops ls i=some oi)(hc:nH md ops ls i=true)(hw:Region.wanted oi (yielded ops a.tmps)=true)(hy:∀w,True->(execOp a.eval oi).run P w= .ok (.value v) w) (h:eo P md ops (gU J) S late f (ls.setIfInBounds i true) (a.put oi.dst v) w):=have hi:=sE hi';have k:=BD hc;BB hi k.1 k.2.1 k.2.2 (λ _ _ _ h=>h) hw (λw=>hy w trivial) h
def tk3(i:Nat)(hi':nI ops ls i=some oi)(hc:(nH md ops ls i&&sC md ops late i)=true)(hw:Region.wanted oi (yielded ops a.tmps)=true)(hS:S w)(hy:∀w,S w->(execOp a.eval oi).run P w= .ok (.value v) w) (h:eo P md ops (gU J) S late f (ls.setIfInBounds i true) (a.put oi.dst v) w):=have hi:=sE hi';have q:=(A7 ..).mp hc;have k:=BD q.1;JI hi k.1 k.2.1 k.2.2 q.2 (λ _ _ _ h=>h) hw hy hS h
def tk0(i:Nat)(hi':nI ops ls i=some oi)(hc:sD md ops ls i=true)(hy:∀w,True->(execOp a.eval oi).run P w= .ok (.value v) w) (h:eo P md ops (gU J) S late f (ls.setIfInBounds i true) (a.put oi.dst v) w):=have q:=BE hc (sE hi') a;tk1 i hi' q.1 q.2 hy h
def tk2(i:Nat)(hi':nI ops ls i=some oi)(hc:(sD md ops ls i&&sC md ops late i)=true)(hS:S w)(hy:∀w,S w->(execOp a.eval oi).run P w= .ok (.value v) w) (h:eo P md ops (gU J) S late f (ls.setIfInBounds i true) (a.put oi.dst v) w):=have q:=(A7 ..).mp hc;have k:=BE q.1 (sE hi') a;tk3 i hi' ((A7 ..).mpr ⟨k.1,q.2⟩) k.2 hS hy h
def tk5(i:Nat){o:Oper}(hr:Region.ready md ops ls=[i])(ho':ops.toList[i]? =some o) (h:∀K':Act->World->Prop,nG (∀a w',(late i=false->S w->S w')->((late i=false->S w->S w')->eo P md ops (gU J) S late f (ls.setIfInBounds i true) a w')->K' a w')->if Region.wanted o (yielded ops a.tmps)=true then Oper.wp P o a w K' (gU J) else K' (a.put o.dst undef) w):=mg hr (by simp) (eM.cons ho' h eM.nil)
end
theorem gV S late{id a}{w:World}(hm:P.follows .mixedOrders=true) (h:∀J:Act->World->Prop,nG (∀a w,Q .normal a w->J a w)->eo P .any ops (gU J) S late ops.size (Array.replicate ops.size false) a w.drew):(Code.region id ops true).wp P Q a w:=by refine wp_mono (Q:=gU (Q .normal)) (wp_region_any hm (vT _ _ _ _ (h (Q .normal) (λ _ _ h=>h)))) λe a w h=> ?_;cases e<;>first|exact h|exact(h:False).elim
end
