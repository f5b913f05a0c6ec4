/- Walk: the reference's words. -/
import Derived.Test.YtgdpkkjfcdhmdaaGreatDoorR45
import Derived.Test.YtgdpkkjfcdhmdaaGreatDoorR28
set_option maxHeartbeats 8000000
namespace Go.Proofs.YtgdpkkjfcdhmdaaGreatDoor
open Go Go.RowKit
def Pr(w:World)(L:List Nd)(ts:List Nat)(e:Ending)(w':World):Prop:=∃b:Bool,e= .returned (.bool b)/\(b=true↔∃n:Nat,jE L ts n/\n%2=1)/\Below w.heap.size w w'
set_option maxRecDepth 100000 in
theorem Ps{w:World}{r W:Nat}{L:List Nd}(h:RV w r W L)(ae:VOk L)(hL:L.length<=100)(p:fM)(ap:p.Ok w)(V:p.short)(hr:∀t∈p.cs++p.os.map (·.2)++p.rs.map (·.2),0<=t/\t<L.length):
  Calls Tryz.prog 10 #[.pointer (some ⟨r,0,none⟩),p.v] w (Pr w L ((p.cs++p.os.map (·.2)++p.rs.map (·.2)).map Int.toNat)):=by
 obtain⟨ca,cc,f,st,sp,oa,oc,a,ra,rc,b,ba,bc,bs,ia,ic,is⟩:=p;have Q:=Z ap;have hl1:f.length<=12:=V.1;have hl2:a.length<=12:=V.2.1;have hl3:b.length<=12:=V.2.2.1;have al:Hid (∀P E c,Below w.heap.size w P->(Lay.int .i64).At 0 P E (f++a.map (·.2)++b.map (·.2))->Calls Tryz.prog 34 #[.pointer (some ⟨r,0,none⟩),.slice E (f++a.map (·.2)++b.map (·.2)).length c] P (Fm P L ((f++a.map (·.2)++b.map (·.2)).map Int.toNat))):=Z λ P E c g U=>by
  have e:fE ((f++a.map (·.2)++b.map (·.2)).map Int.toNat)=f++a.map (·.2)++b.map (·.2):=by
   unfold fE;rw[List.map_map];refine(List.map_congr_left λ t ht=> ?_).trans (List.map_id _);have:=(hr t ht).1;simp only[Function.comp,id];omega
  have:=Pq (h.below g) ae ((f++a.map (·.2)++b.map (·.2)).map Int.toNat) (λ t ht=>by obtain⟨x,K,rfl⟩:=AF.1 ht;have:=hr x K;omega) hL (by simp only[Ak,Av];omega) E c (by rw[e];exact U);rwa[Ak] at this
 have aI:Hid (∀n,jE L ((f++a.map (·.2)++b.map (·.2)).map Int.toNat) n->0<=n/\n<12):=Z λ n ⟨j,_,G,h2⟩=>by have:=ae j G;omega
 generalize(f++a.map (·.2)++b.map (·.2)).map Int.toNat=TS at*;clear h ae hL hr ap V;simp only[fM.v];have Y:Hid (Below w.heap.size w (w.alloc (.cells #[.slice ca f.length cc,.int .u8 st,.int .i64 sp,.slice oa a.length oc,.slice ra b.length rc,.slice ba bs.length bc,.slice ia is.length ic] 28))):=Z ((A6 _ _).alloc (A8 _) _);have au:=Z (Q.o.c.below Y.o);have ay:Hid (ca=none->cc=0):=Z Q.o.cn;go_enter Tryz.func10,Tryz.ntmps10
 go_wp2_with(first
  |(at_builtin
    refine lY Tryz.elemI (d:=0) (qs:=f) rfl _ _ rfl rfl (Lay.Own.nil _ (w.heap.size+1)) rfl ay.o rfl au.o (by show 0+f.length<=1000000;omega) (by simp) ?_;intro v1 w1 r1 r2;have aE:=Z r1;have ah:=Z r2;have S:=(r2.cell (p:=⟨w.heap.size,3,none⟩) (B3 _)).trans (show World.cell? _ _=some (.slice oa a.length oc) by rw[Ah];rfl);have b4:=(r2.cell (p:=⟨w.heap.size,4,none⟩) (B3 _)).trans (show World.cell? _ _=some (.slice ra b.length rc) by rw[Ah];rfl);have aN:=r2.size;simp at aN;clear r1 r2))
 have aw:=Z S;have ax:=Z b4;clear S b4;have aF:Hid (∀k,k<a.length->(a.map (·.2)).take (k+1)=(a.map (·.2)).take k++[(a.getD k (0,0)).2]):=Z λ k z=>by
  rw[gZ 0 _ k (by simpa using z)]
  congr 2
  rw[Aa,Aa,AM,Ab z];rfl
 have aG:Hid (∀k,k<b.length->(b.map (·.2)).take (k+1)=(b.map (·.2)).take k++[(b.getD k (0,0)).2]):=Z λ k z=>by
  rw[gZ 0 _ k (by simpa using z)]
  congr 2
  rw[Aa,Aa,AM,Ab z];rfl
 have aB:Hid (∀k,(f++(a.map (·.2)).take k).length<=24):=Z λ k=>by rw[Av,AO,Ak];omega
 have aC:Hid (∀k,(f++a.map (·.2)++(b.map (·.2)).take k).length<=36):=Z λ k=>by rw[Av,Av,AO,Ak,Ak];omega
 have az:Hid ((a.map (·.2)).take a.length=a.map (·.2)):=Z (List.take_of_length_le (by simp));have aA:Hid ((b.map (·.2)).take b.length=b.map (·.2)):=Z (List.take_of_length_le (by simp))
 go_loopw [5,6] (λ v i wr=>∃k:Nat,k<=a.length/\i= .int .i64 k/\Hid ((Lay.int .i64).Own 3 wr (w.heap.size+1) v (f++(a.map (·.2)).take k))/\Below (w.heap.size+1) w1 wr) (λ _ i _=>a.length-(intOf i).toNat)
 case atStart=>exact⟨0,by omega,rfl,Z (by simpa using aE.o),A6 _ _⟩
 case round=>
  obtain⟨k,z,rfl,I,g⟩:=hrel;have A:=Z g;have ab:=Z I.o;have hzw:=g.size;have ai:=Z (Y.o.trans ((ah.o.trans A.o).mono (AL _)));have S:=(A.o.cell (p:=⟨w.heap.size,3,none⟩) (B3 _)).trans aw.o;clear g I;by_cases hlt:k<a.length
  ·obtain⟨pb,O,rfl,J,M,N⟩:=Q.o.o.sev hlt;have c0:=(ai.o.cell (p:=⟨pb,O+k*2,none⟩) J).trans M;have c1:=(ai.o.cell (p:=⟨pb,O+k*2+1,none⟩) J).trans N;have ad:=Z (aF.o k hlt);have an:(k:Int)<a.length:=by omega
   have ao:=aB.o k;have aa:=Z ao;clear M N ao;generalize(a.getD k (0,0)).1=n at*;generalize(a.getD k (0,0)).2=t at*
   go_wp2_with(first
    |(at_builtin
      refine jF Tryz.elemI [t] rfl _ _ rfl rfl ab.o rfl (by simp) rfl (by have:=aa.o;show _+1<=1000000;omega) (by omega) ?_;intro v' w5 r1 r2;have C:=Z r1;have B:=Z (A.o.trans r2);clear r1 r2))
   go_roundw
   case rel=>exact⟨k+1,by omega,by go_num,Z (by rw[ad.o,<-B8];exact C.o),B.o⟩
   case measure=>simp[intOf]<;>omega
  obtain rfl:k=a.length:=by omega
  rw[az.o] at ab
  go_wp2_with fail
  clear S;have hz2:=A.o.size;generalize wr=w2 at*
  go_loopw [5,7] (λ v i wr=>∃k:Nat,k<=b.length/\i= .int .i64 k/\Hid ((Lay.int .i64).Own 3 wr (w.heap.size+1) v (f++a.map (·.2)++(b.map (·.2)).take k))/\Below (w.heap.size+1) w2 wr) (λ _ i _=>b.length-(intOf i).toNat)
  case atStart=>exact⟨0,by omega,rfl,Z (by simpa using ab.o),A6 _ _⟩
  case round=>
   obtain⟨k,z,rfl,I,g⟩:=hrel;have X:=Z g;have R:=Z I.o;have hzx:=g.size;have F:=Z (Y.o.trans ((ah.o.trans (A.o.trans X.o)).mono (AL _)));have b4:=((A.o.trans X.o).cell (p:=⟨w.heap.size,4,none⟩) (B3 _)).trans ax.o;clear g I;by_cases hlt:k<b.length
   ·obtain⟨pb,O,rfl,J,M,N⟩:=Q.o.r.sev hlt;have c0:=(F.o.cell (p:=⟨pb,O+k*2,none⟩) J).trans M;have c1:=(F.o.cell (p:=⟨pb,O+k*2+1,none⟩) J).trans N;have ad:=Z (aG.o k hlt);have an:(k:Int)<b.length:=by omega
    have aa:=Z (aC.o k);clear M N;generalize(b.getD k (0,0)).1=n at*;generalize(b.getD k (0,0)).2=t at*
    go_wp2_with(first
     |(at_builtin
       refine jF Tryz.elemI [t] rfl _ _ rfl rfl R.o rfl (by simp) rfl (by have:=aa.o;show _+1<=1000000;omega) (by omega) ?_;intro v' w5 r1 r2;have C:=Z r1;have B:=Z (X.o.trans r2);clear r1 r2))
    go_roundw
    case rel=>exact⟨k+1,by omega,by go_num,Z (by rw[ad.o,<-B8];exact C.o),B.o⟩
    case measure=>simp[intOf]<;>omega
   obtain rfl:k=b.length:=by omega
   rw[aA.o] at R;obtain⟨E,tc,rfl,U,_,_⟩:=R.o.at_ (d:=0);have aH:=Z (al.o _ E tc F.o U);clear U R al;generalize(f++a.map (·.2)++b.map (·.2)).length=tn at*
   go_wp2_with(go_at_call 34
               refine aH.o.mono ?_;rintro e w5 ⟨v,q,rfl,ho,D,hl,g⟩;have B:=Z (F.o.trans (g.mono F.o.size));have C:=Z ho;have aj:=Z D;have aJ:=Z hl;clear ho D hl g)
   obtain⟨xa,xc,rfl,ar,_,_⟩:=C.o.at_ (d:=0);have aK:=Z ar;have am:Hid (∀j,j<q.length->∃n:Nat,q.getD j 0=n/\n<12/\jE L TS n):=Z λ j H=>by
    have G:=(aj.o (q.getD j 0)).1 (gE 0 q j H);obtain⟨h2,h3⟩:=aI.o _ G;exact⟨(q.getD j 0).toNat,by omega,by omega,by rwa[show(((q.getD j 0).toNat:Nat):Int)=q.getD j 0 by omega]⟩
   have aM:=aJ.o;clear ar C;obtain⟨m,D⟩:∃m,q.length=m:=⟨_,rfl⟩
   have ak:=Z D;rw[D] at am aM⊢;clear D
   (try go_wp2_with fail)
   go_loop [10] (λ i=>∃k:Nat,k<=m/\i= .int .i64 k/\Hid (∀j,j<k->(q.getD j 0)%2≠1)) (λ i=>m-(intOf i).toNat)
   case atStart=>exact⟨0,by omega,rfl,Z λ j H=>by omega⟩
   case round=>
    obtain⟨k,z,rfl,af⟩:=hrel;by_cases hkm:k<m
    ·have an:(k:Int)<m:=by omega
     obtain⟨ob,oo,rfl,hob,c0⟩:=aK.o.int (i:=k) (by have:=ak.o;omega);obtain⟨x,K,aq,hv⟩:=am.o k hkm;have HV:=Z hv;have aL:=Z K;rw[K] at c0;clear hv K;have t3:decide ((4194302:Int)<x)=false:=decide_eq_false (by omega);have t4:decide (4194302<x)=false:=decide_eq_false (by omega);by_cases he:x%2=1
     ·have t1:Int.tmod (x:Int) 2=1:=by rw[Bj (by omega)];omega
      have t2:(x:Int)%2=1:=by omega
      have HE:=Z he;clear he aq
      go_wp2_with fail
      go_ret
      exact⟨true,rfl,iff_of_true rfl ⟨x,HV.o,HE.o⟩,B.o⟩
     have t1:Int.tmod (x:Int) 2=0:=by rw[Bj (by omega)];omega
     have t2:(x:Int)%2=0:=by omega
     have HE:=Z he;have av:Hid (∀j,j<k+1->(q.getD j 0)%2≠1):=Z λ j H=>by
      by_cases e:j=k
      ·subst e;rw[aL.o];have:=HE.o;omega
      exact af.o j (by omega)
     clear he aq
     go_wp2_with fail
     go_round
     case rel=>exact⟨k+1,by omega,by go_num,av⟩
     case measure=>simp[intOf]<;>omega
    obtain rfl:k=m:=by omega
    have aD:Hid (¬∃n:Nat,jE L TS n/\n%2=1):=Z λ⟨n,G,h2⟩=>by
     have h3:=(aj.o n).2 G;obtain⟨j,H,e⟩:=List.getElem_of_mem h3;have:=af.o j (by have:=ak.o;omega);rw[Aa,Ab H,e] at this;simp only[Option.getD_some] at this;omega
    go_wp2_with fail
    go_ret
    exact⟨false,rfl,iff_of_false (by simp) aD.o,B.o⟩
open Go.RowKit
theorem Pt(w x y:Nat)(a:Option Addr)(cap:Nat)(W:World)(d:1<=w)(h:w<=64)(n:x<18446744073709551616)(f:(Lay.int .u64).At 0 W a [(x:Int)]):Calls Tryz.prog 179 #[.int .u8 2,.int .i64 w,.slice a 1 cap] W (kJ 2 w x y W):=by have c:=Z (te 2 (by omega) W);rw[show arN 2=1 from rfl] at c;have q:=Z (vw w W d h);have C:=Z (mW w x W h n);have j:0<2^w:=Aw w;have HR:=Z (ID w (x%2^w) 0 W h (Ay x j) 0);have B:=Z (λ r hr=>mW w r W h hr);obtain⟨pb,D,rfl,hpb,k⟩:=f.int (i:=0) (by simp);have hc0:W.cell? ⟨pb,D,none⟩=some (.int .u64 x):=k;clear n j k f d h;generalize hmx:x%2^w=mx at*;have t:=Z hmx;clear hmx;go_enter Tryz.func179,Tryz.ntmps179;go_wp2_with(first|(go_at_call 183;refine q.o.mono ?_;rintro e b ⟨rfl,rfl⟩)|(go_at_call 116;refine c.o.mono ?_;rintro e b ⟨rfl,rfl⟩)|(go_at_call 185;refine HR.o.mono ?_;rintro e b ⟨r,rfl,hr,g,rfl⟩;have z:=Z hr;have A:=Z g;clear hr g)|(go_at_call 184;first|((with_reducible refine C.o.mono ?_);rintro e b ⟨rfl,rfl⟩)|((with_reducible refine(B.o _ z.o).mono ?_);rintro e b ⟨rfl,rfl⟩)));go_ret2;exact⟨congrArg Ending.returned (px (by rw[vx,A.o,t.o];rfl)),A6 _ _⟩
theorem Pu(w x y:Nat)(a:Option Addr)(cap:Nat)(W:World)(d:1<=w)(h:w<=64)(n:x<18446744073709551616)(f:(Lay.int .u64).At 0 W a [(x:Int)]):Calls Tryz.prog 179 #[.int .u8 3,.int .i64 w,.slice a 1 cap] W (kJ 3 w x y W):=by have c:=Z (te 3 (by omega) W);rw[show arN 3=1 from rfl] at c;have q:=Z (vw w W d h);have C:=Z (mW w x W h n);have j:0<2^w:=Aw w;have HR:=Z (IE w (x%2^w) 0 W h (Ay x j) 0);have B:=Z (λ r hr=>mW w r W h hr);obtain⟨pb,D,rfl,hpb,k⟩:=f.int (i:=0) (by simp);have hc0:W.cell? ⟨pb,D,none⟩=some (.int .u64 x):=k;clear n j k f d h;generalize hmx:x%2^w=mx at*;have t:=Z hmx;clear hmx;go_enter Tryz.func179,Tryz.ntmps179;go_wp2_with(first|(go_at_call 183;refine q.o.mono ?_;rintro e b ⟨rfl,rfl⟩)|(go_at_call 116;refine c.o.mono ?_;rintro e b ⟨rfl,rfl⟩)|(go_at_call 185;refine HR.o.mono ?_;rintro e b ⟨r,rfl,hr,g,rfl⟩;have z:=Z hr;have A:=Z g;clear hr g)|(go_at_call 184;first|((with_reducible refine C.o.mono ?_);rintro e b ⟨rfl,rfl⟩)|((with_reducible refine(B.o _ z.o).mono ?_);rintro e b ⟨rfl,rfl⟩)));go_ret2;exact⟨congrArg Ending.returned (px (by rw[vx,A.o,t.o];rfl)),A6 _ _⟩
theorem Pv(o w a b:Nat)(W:World)(h4:4<=o)(h20:o<=20)(f:1<=w)(h:w<=64)(c:a<2^w)(d:b<2^w):Calls Tryz.prog 185 #[.int .u8 o,.int .i64 w,.int .u64 a,.int .u64 b,.int .u64 0] W (fV o w a b W):=by have g:o=4\/o=5\/o=6\/o=7\/o=8\/o=9\/o=10\/o=11\/o=12\/o=13\/o=14\/o=15\/o=16\/o=17\/o=18\/o=19\/o=20:=by{omega};rcases g with rfl|rfl|rfl|rfl|rfl|rfl|rfl|rfl|rfl|rfl|rfl|rfl|rfl|rfl|rfl|rfl|rfl;{exact IF w a b W h 0};{exact IG w a b W h d 0};{exact IH w a b W h 0};{exact IO w a b W h c 0};{exact IP w a b W h c 0};{exact II w a b W h c d 0};{exact IJ w a b W h c d 0};{exact IK w a b W h c d 0};{exact IL w a b W f h c d 0};{exact IM w a b W f h c d 0};{exact IN w a b W f h c d 0};{exact IQ w a b W f 0};{exact IR w a b W f 0};{exact IS w a b W f 0};{exact IT w a b W f 0};{exact IU w a b W f h c d 0};exact IV w a b W f h c d 0
theorem Pw(o w x y:Nat)(a:Option Addr)(cap:Nat)(W:World)(n:4<=o)(k:o<=20)(c:1<=w)(h:w<=64)(B:x<18446744073709551616)(C:y<18446744073709551616)(d:(Lay.int .u64).At 0 W a [(x:Int),(y:Int)]):Calls Tryz.prog 179 #[.int .u8 o,.int .i64 w,.slice a 2 cap] W (kJ o w x y W):=by have q:arN o=2:=by{unfold arN;(repeat' split)<;>omega};have j:=Z (te o (by omega) W);rw[q] at j;have E:=Z (vw w W c h);have K:=Z (mW w x W h B);have L:=Z (mW w y W h C);have f:0<2^w:=Aw w;have HR:=Z (Pv o w (x%2^w) (y%2^w) W n k c h (Ay x f) (Ay y f));have J:=Z (λ r hr=>mW w r W h hr);obtain⟨pb,D,rfl,hpb,z⟩:=d.int (i:=0) (by simp);obtain⟨qb,qo,g,_,A⟩:=d.int (i:=1) (by simp);injection g with g;injection g with e1 e2;subst e1 e2;have hc0:W.cell? ⟨pb,D,none⟩=some (.int .u64 x):=z;have hc1:W.cell? ⟨pb,D+1,none⟩=some (.int .u64 y):=A;have d1:decide ((o:Int)<2)=false:=by{simp;omega};clear B C f z A d c h q n k;generalize hmx:x%2^w=mx at*;have F:=Z hmx;generalize hmy:y%2^w=my at*;have G:=Z hmy;clear hmx hmy;go_enter Tryz.func179,Tryz.ntmps179;go_wp2_with(first|(go_at_call 183;refine E.o.mono ?_;rintro e b ⟨rfl,rfl⟩)|(go_at_call 116;refine j.o.mono ?_;rintro e b ⟨rfl,rfl⟩)|(go_at_call 185;refine HR.o.mono ?_;rintro e b ⟨r,rfl,hr,t,rfl⟩;have H:=Z hr;have I:=Z t;clear hr t)|(go_at_call 184;first|((with_reducible refine K.o.mono ?_);rintro e b ⟨rfl,rfl⟩)|((with_reducible refine L.o.mono ?_);rintro e b ⟨rfl,rfl⟩)|((with_reducible refine(J.o _ H.o).mono ?_);rintro e b ⟨rfl,rfl⟩)));all_goals go_ret2;exact⟨congrArg Ending.returned (px (by rw[vx,I.o,F.o,G.o])),A6 _ _⟩
theorem Px{w i:Nat}{n:Nd}(hn:iQ w i n)(ho:2<=n.op)(h1:1<=w)(h:w<=64){vals p:List Nat}(hp:∀a,p.getD a 0<2^w){W:World}{a:Option Addr}{cap len:Nat}(hlen:n.args.length=len)(hat:(Lay.int .u64).At 0 W a ((gY p n).map λ(x:Nat)=>(x:Int))):Calls Tryz.prog 179 #[.int .u8 n.op,.int .i64 w,.slice a len cap] W λ e W'=>e= .returned (.tuple #[.int .u64 (fZ w vals p n:Nat),.int .i64 0])/\Below W.heap.size W W':=DY (λ o w x y a cap W ho h1 h hx hat=>by rcases ho with rfl|rfl;exact Pt w x y a cap W h1 h hx hat;exact Pu w x y a cap W h1 h hx hat) (λ o w x y a cap W h4 h20 h1 h hx hy hat=>Pw o w x y a cap W h4 h20 h1 h hx hy hat) hn ho h1 h hp hlen hat
