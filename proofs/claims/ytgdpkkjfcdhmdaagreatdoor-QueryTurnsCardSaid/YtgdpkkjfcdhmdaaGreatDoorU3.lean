/- Evaluation of terms: what lies in memory on the way (all56), and the whole of eval.All. -/
import Derived.Test.YtgdpkkjfcdhmdaaGreatDoorS0
import Derived.Test.YtgdpkkjfcdhmdaaGreatDoorU1
import Derived.Test.YtgdpkkjfcdhmdaaGreatDoorS31
import Derived.Deep.RegionHeld3
import Derived.Handy
namespace Go.Proofs.YtgdpkkjfcdhmdaaGreatDoor
open Go.RowKit
theorem node75{w:World}{r W:Nat}{L:List Nd}(h:RV w r W L)(t:Nat)(ht:t<L.length):
  Calls Tryz.prog 71 #[.pointer (some ⟨r,0,none⟩),.int .i64 t] w λ e w'=>∃ha hc,e= .returned (.tuple #[.agg #[.int .u8 ((L.getD t default).op:Int),.int .u64 ((L.getD t default).num:Int),.slice ha (L.getD t default).args.length hc],.int .i64 0])/\(Lay.int .i64).At 0 w' ha (intsN (L.getD t default).args)/\(∀ad,ha=some ad->w.heap.size<=ad.block)/\Below w.heap.size w w':=
 (node70 h t ht).mono λ _ _ ⟨ha,hc,a,b,c,_,d⟩=>⟨ha,hc,a,b,c,d⟩
def inG(n:Nat)(t:Int):Bool:=decide (0<=t)&&decide (t<n)
def argsOf(p:List Nat)(n:Nd):List Nat:=n.args.map λ a=>p.getD a 0
theorem ap_any{f:Nat}(h2:∀(o w x y:Nat) (a:Option Addr) (cap:Nat) (W:World),(o=2\/o=3)->1<=w->w<=64->x<18446744073709551616->(Lay.int .u64).At 0 W a [(x:Int)]->Calls Tryz.prog f #[.int .u8 o,.int .i64 w,.slice a 1 cap] W (ApPost o w x y W))
  (h4:∀(o w x y:Nat) (a:Option Addr) (cap:Nat) (W:World),4<=o->o<=20->1<=w->w<=64->x<18446744073709551616->y<18446744073709551616->(Lay.int .u64).At 0 W a [(x:Int),(y:Int)]->Calls Tryz.prog f #[.int .u8 o,.int .i64 w,.slice a 2 cap] W (ApPost o w x y W))
  {w i:Nat}{n:Nd}(hn:NdOk w i n)(ho:2<=n.op)(h1:1<=w)(h:w<=64){vals p:List Nat}(hp:∀a,p.getD a 0<2^w){W:World}{a:Option Addr}{cap len:Nat}(hlen:n.args.length=len)(hat:(Lay.int .u64).At 0 W a ((argsOf p n).map λ(x:Nat)=>(x:Int))):
  Calls Tryz.prog f #[.int .u8 n.op,.int .i64 w,.slice a len cap] W λ e W'=>e= .returned (.tuple #[.int .u64 (valN w vals p n:Nat),.int .i64 0])/\Below W.heap.size W W':=by
 obtain⟨op,num,args⟩:=n;have hop:=hn.1;have har:=hn.2.2.2.2.1;have hl:=pow_le h;simp only at hop har ho hlen;have hv:valN w vals p ⟨op,num,args⟩=appN op w (p.getD (args.getD 0 0) 0) (p.getD (args.getD 1 0) 0):=by
  unfold valN;rw[if_neg (by simp only;omega),if_neg (by simp only;omega)]
 have small:∀a,p.getD a 0<18446744073709551616:=λ a=>Nat.lt_of_lt_of_le (hp a) hl
 by_cases h23:op=2\/op=3
 ·have hl1:args.length=1:=by rw[har];rcases h23 with rfl|rfl<;>rfl
  obtain⟨x,rfl⟩:∃x,args=[x]:=by
   match args,hl1 with
   |[x],_=>exact⟨x,rfl⟩
  obtain rfl:len=1:=by simpa using hlen.symm
  refine(h2 op w (p.getD x 0) (p.getD 0 0) a cap W h23 h1 h (small x) hat).mono λ e W' ⟨he,hb⟩=>⟨?_,hb⟩
  rw[he,hv,Nat.mod_eq_of_lt (hp x),Nat.mod_eq_of_lt (hp 0)]
  rfl
 ·have h4':4<=op:=by omega
  have hl2:args.length=2:=by rw[har];unfold arN;(repeat' split)<;>omega
  obtain⟨x,y,rfl⟩:∃x y,args=[x,y]:=by
   match args,hl2 with
   |[x,y],_=>exact⟨x,y,rfl⟩
  obtain rfl:len=2:=by simpa using hlen.symm
  refine(h4 op w (p.getD x 0) (p.getD y 0) a cap W h4' hop h1 h (small x) (small y) hat).mono λ e W' ⟨he,hb⟩=>⟨?_,hb⟩
  rw[he,hv,Nat.mod_eq_of_lt (hp x),Nat.mod_eq_of_lt (hp y)]
  rfl
theorem apply77{w i:Nat}{n:Nd}(hn:NdOk w i n)(ho:2<=n.op)(h1:1<=w)(h:w<=64){vals p:List Nat}(hp:∀a,p.getD a 0<2^w){W:World}{a:Option Addr}{cap len:Nat}(hlen:n.args.length=len)(hat:(Lay.int .u64).At 0 W a ((argsOf p n).map λ(x:Nat)=>(x:Int))):
  Calls Tryz.prog 75 #[.int .u8 n.op,.int .i64 w,.slice a len cap] W λ e W'=>e= .returned (.tuple #[.int .u64 (valN w vals p n:Nat),.int .i64 0])/\Below W.heap.size W W':=
 ap_any (λ o w x y a cap W ho h1 h hx hat=>by rcases ho with rfl|rfl;exact apply_not w x y a cap W h1 h hx hat;exact apply_neg w x y a cap W h1 h hx hat) (λ o w x y a cap W h4 h20 h1 h hx hy hat=>apply_two o w x y a cap W h4 h20 h1 h hx hy hat) hn ho h1 h hp hlen hat
theorem Lay.Own.putI{k:IntKind}{e:TypeId}{w:World}{base:Nat}{v:Value}{xs:List Int}(h:(Lay.int k).Own e w base v xs){j:Nat}(hj:j<xs.length)(x:Int):
  ∃g cap u,v= .slice (some ⟨g,0,none⟩) xs.length cap/\base<=g/\w.cell? ⟨g,j,none⟩=some u/\w.frozen? ⟨g,j,none⟩=false/\(Lay.int k).Own e (w.setCell ⟨g,j,none⟩ (.int k x)) base v (xs.set j x)/\w.grownBy (w.setCell ⟨g,j,none⟩ (.int k x)) (some g):=by
 have h':w.ownsRow base e 1 v xs.length ((Lay.int k).flat xs):=h;have hfl:((Lay.int k).flat xs).length=xs.length:=by rw[Lay.flat_length];exact Nat.mul_one _
 obtain⟨g,cap,hv,hb⟩:∃g cap,v= .slice (some ⟨g,0,none⟩) xs.length cap/\base<=g:=by
  rcases h'.2 with⟨_,h0⟩|⟨g,cap,cur,hv,hb,_⟩
  ·omega
  ·exact⟨g,cap,hv,hb⟩
 subst hv;have hflat:((Lay.int k).flat xs).set j (.int k x)=(Lay.int k).flat (xs.set j x):=by
  have e1:∀ys:List Int,(Lay.int k).flat ys=ys.map (Value.int k):=λ ys=>by
   induction ys with
   |nil=>rfl
   |cons y ys ih=>exact congrArg (Value.int k y::·) ih
  rw[e1,e1,List.map_set]
 obtain⟨s1,s2⟩:=World.ownsRow.stored h' j (.int k x);rw[hflat] at s1;have s3:(Lay.int k).Own e (w.setCell ⟨g,j,none⟩ (.int k x)) base (.slice (some ⟨g,0,none⟩) xs.length cap) (xs.set j x):=by
  unfold Lay.Own;rw[List.length_set];exact s1
 exact⟨g,cap,((Lay.int k).flat xs)[j]'(by omega),rfl,hb,by rw[World.ownsRow.cellAt h' j (by omega)];exact List.getElem?_eq_getElem (by omega),World.ownsRow.frozenAt h' j,s3,s2⟩
set_option maxRecDepth 100000 in
set_option maxHeartbeats 8000000 in
theorem value76{w:World}{W i:Nat}(n:Nd)(hn:NdOk W i n)(h1:1<=W)(h2:W<=64){vals U:List Nat}(hU:∀t,U.getD t 0<2^W)(hi:i<=U.length){ha:Option Addr}{m hc:Nat}(hm:n.args.length=m)(hat:(Lay.int .i64).At 0 w ha (intsN n.args))
  {p1 p2 p3:Nat}(l1:p1<w.heap.size)(l2:p2<w.heap.size)(l3:p3<w.heap.size){av au:Option Addr}{lv cv lu cu:Nat}(hlv:vals.length=lv)(hlu:U.length=lu)(hv1:lv<=100)
  (c1:w.cell? ⟨p1,0,none⟩=some (.slice av lv cv))(c2:w.cell? ⟨p2,0,none⟩=some (.int .i64 W))(c3:w.cell? ⟨p3,0,none⟩=some (.slice au lu cu))
  (hav:(Lay.int .u64).At 0 w av (intsN vals))(hau:(Lay.int .u64).At 0 w au (intsN U))(hsm:∀v∈vals,v<18446744073709551616):
  Calls Tryz.prog 73 #[.agg #[.int .u8 n.op,.int .u64 n.num,.slice ha m hc],.pointer (some ⟨p1,0,none⟩),.pointer (some ⟨p2,0,none⟩),.pointer (some ⟨p3,0,none⟩)] w λ e w'=>e= .returned (.int .u64 (valN W vals U n:Nat))/\Below w.heap.size w w':=by
 subst hm hlv hlu;have HAT:=Z hat;have HAV:=Z hav;have HAU:=Z hau;have HSM:=Z hsm;have HOK:=Z hn;have HU:=Z hU;clear hat hav hau hsm hn hU;obtain⟨op,num,args⟩:=n;have hnum:num<18446744073709551616:=HOK.o.2.2.1;have hop:op<=20:=HOK.o.1;have HBA:Hid (Below w.heap.size w (w.alloc (.cells #[.int .u8 op,.int .u64 num,.slice ha args.length hc] 148))):=Z ((Below.refl _ _).alloc (Nat.le_refl _) _);have x0:(w.alloc (.cells #[.int .u8 op,.int .u64 num,.slice ha args.length hc] 148)).cell? ⟨w.heap.size,0,none⟩=some (.int .u8 op):=by rw[World.cell?_alloc_new];rfl
 have x1:(w.alloc (.cells #[.int .u8 op,.int .u64 num,.slice ha args.length hc] 148)).cell? ⟨w.heap.size,1,none⟩=some (.int .u64 num):=by rw[World.cell?_alloc_new];rfl
 have x2:(w.alloc (.cells #[.int .u8 op,.int .u64 num,.slice ha args.length hc] 148)).cell? ⟨w.heap.size,2,none⟩=some (.slice ha args.length hc):=by rw[World.cell?_alloc_new];rfl
 have y1:=(HBA.o.cell (p:=⟨p1,0,none⟩) l1).trans c1;have y2:=(HBA.o.cell (p:=⟨p2,0,none⟩) l2).trans c2;have y3:=(HBA.o.cell (p:=⟨p3,0,none⟩) l3).trans c3;by_cases ho0:op=0
 ·subst ho0;have HVN:Hid (valN W vals U ⟨0,num,args⟩=num):=Z rfl;generalize valN W vals U ⟨0,num,args⟩=z at*;obtain rfl:=HVN.o;go_enter Tryz.func73,Tryz.ntmps73
  go_wp2_with fail
  go_ret
  exact⟨rfl,HBA.o⟩
 by_cases ho1:op=1
 ·subst ho1;by_cases hnv:num<vals.length
  ·have HVN:Hid (valN W vals U ⟨1,num,args⟩=vals.getD num 0%2^W):=Z (by unfold valN;rw[if_neg (by simp),if_pos rfl,if_pos hnv]);obtain⟨vb,vo,rfl,hvb,hv0⟩:=HAV.o.int (i:=num) (by rw[intsN_len];exact hnv);rw[intsN_getD] at hv0;have hvs:vals.getD num 0<18446744073709551616:=HSM.o _ (by rw[List.getD_eq_getElem?_getD,List.getElem?_eq_getElem hnv];exact List.getElem_mem hnv);have HM:=Z (λ W'=>trim68 W (vals.getD num 0) W' h1 h2 hvs);have hni:(num:Int)<vals.length:=by omega
   have hv1:=(HBA.o.cell (p:=⟨vb,vo+num,none⟩) hvb).trans hv0;have hzA:(w.alloc (.cells #[.int .u8 1,.int .u64 num,.slice ha args.length hc] 148)).heap.size=w.heap.size+1:=by simp
   clear hv0 HAV;generalize vals.getD num 0=x at*;generalize x%2^W=z at*;generalize valN W vals U ⟨1,num,args⟩=z' at*;obtain rfl:=HVN.o;have HS:Hid (∀w',Below (w.alloc (.cells #[.int .u8 1,.int .u64 num,.slice ha args.length hc] 148)).heap.size (w.alloc (.cells #[.int .u8 1,.int .u64 num,.slice ha args.length hc] 148)) w'->w'.cell? ⟨w.heap.size,1,none⟩=some (.int .u64 num)/\w'.cell? ⟨vb,vo+num,none⟩=some (.int .u64 (x:Int))/\w'.cell? ⟨p2,0,none⟩=some (.int .i64 W)/\w'.cell? ⟨p1,0,none⟩=some (.slice (some ⟨vb,vo,none⟩) vals.length cv)/\Below (w.alloc (.cells #[.int .u8 1,.int .u64 num,.slice ha args.length hc] 148)).heap.size (w.alloc (.cells #[.int .u8 1,.int .u64 num,.slice ha args.length hc] 148)) w'):=Z λ w' hb=>
    ⟨(hb.cell (p:=⟨w.heap.size,1,none⟩) (by show w.heap.size<_;simp)).trans x1,(hb.cell (p:=⟨vb,vo+num,none⟩) (Nat.lt_of_lt_of_le hvb HBA.o.size)).trans hv1,(hb.cell (p:=⟨p2,0,none⟩) (Nat.lt_of_lt_of_le l2 HBA.o.size)).trans y2,(hb.cell (p:=⟨p1,0,none⟩) (Nat.lt_of_lt_of_le l1 HBA.o.size)).trans y1,hb⟩
   go_enter Tryz.func73,Tryz.ntmps73
   go_wp2_with fail
   go_region_held3(λ w'=>w'.cell? ⟨w.heap.size,1,none⟩=some (.int .u64 num)/\w'.cell? ⟨vb,vo+num,none⟩=some (.int .u64 (x:Int))/\w'.cell? ⟨p2,0,none⟩=some (.int .i64 W)/\w'.cell? ⟨p1,0,none⟩=some (.slice (some ⟨vb,vo,none⟩) vals.length cv)/\Below (w.alloc (.cells #[.int .u8 1,.int .u64 num,.slice ha args.length hc] 148)).heap.size (w.alloc (.cells #[.int .u8 1,.int .u64 num,.slice ha args.length hc] 148)) w')
    (first|exact HS.o _ (Below.refl _ _)|exact HS.o _ (Below.refl _ _).drew|exact HS.o _ (‹_/\_/\_/\_/\Below _ _ _›).2.2.2.2|exact HS.o _ (‹_/\_/\_/\_/\Below _ _ _›).2.2.2.2.drew)
    (first
      |(go_at_call 74
        refine(HM.o _).mono ?_;rintro e wB ⟨rfl,rfl⟩))
   all_goals
    as_aux_lemma=>
     go_wp2_with fail
     go_ret
     exact⟨rfl,by first|exact HBA.o|exact HBA.o.drew|exact below_drewN HBA.o _⟩
  ·have HVN:Hid (valN W vals U ⟨1,num,args⟩=0):=Z (by unfold valN;rw[if_neg (by simp),if_pos rfl,if_neg hnv]);have hni:(vals.length:Int)<=num:=by omega
   go_enter Tryz.func73,Tryz.ntmps73
   go_wp2_with fail
   go_ret
   exact⟨by rw[HVN.o];rfl,HBA.o⟩
 ·have ho2:2<=op:=by omega
  have HAP:Hid ((argsOf U ⟨op,num,args⟩).length=args.length):=Z (by simp[argsOf]);have HAG:Hid (∀t,t<args.length->args.getD t 0<i/\((argsOf U ⟨op,num,args⟩).take t++List.replicate (args.length-t) 0).set t (U.getD (args.getD t 0) 0)=(argsOf U ⟨op,num,args⟩).take (t+1)++List.replicate (args.length-(t+1)) 0):=Z λ t ht=>⟨HOK.o.2.2.2.2.2.2 _ (by rw[List.getD_eq_getElem?_getD,List.getElem?_eq_getElem ht];exact List.getElem_mem ht),by
   rw[take_snoc' 0 _ (by rw[HAP.o];exact ht),show args.length-t=(args.length-(t+1))+1 by omega,List.replicate_succ,List.set_append_right _ _ (by rw[List.length_take,HAP.o];omega),show t-((argsOf U ⟨op,num,args⟩).take t).length=0 by rw[List.length_take,HAP.o];omega,List.set_cons_zero,List.append_assoc]
   congr 2
   simp[argsOf,List.getD_eq_getElem?_getD,List.getElem?_eq_getElem ht]⟩
  have HAL:Hid (args.length<=2):=Z (by rw[HOK.o.2.2.2.2.1];simp only[arN];(repeat' split)<;>omega);have hA2:=HAL.o;have hzA:(w.alloc (.cells #[.int .u8 op,.int .u64 num,.slice ha args.length hc] 148)).heap.size=w.heap.size+1:=by simp
  have HATA:=Z (HAT.o.below HBA.o);have HAUA:=Z (HAU.o.below HBA.o);have HVN:Hid (∀(w':World) (g:Nat),(Lay.int .u64).At 0 w' (some ⟨g,0,none⟩) (intsN (argsOf U ⟨op,num,args⟩))->Calls Tryz.prog 75 #[.int .u8 op,.int .i64 W,.slice (some ⟨g,0,none⟩) args.length args.length] w' λ e W''=>e= .returned (.tuple #[.int .u64 (valN W vals U ⟨op,num,args⟩:Nat),.int .i64 0])/\Below w'.heap.size w' W''):=Z λ w' g h=>
   apply77 (n:=⟨op,num,args⟩) HOK.o ho2 h1 h2 HU.o rfl h
  clear HAT HAU x1 y1 c1 c2 c3;generalize valN W vals U ⟨op,num,args⟩=z at HVN⊢;go_enter Tryz.func73,Tryz.ntmps73
  go_wp2_with(refine make_lay Tryz.elemU 0 rfl rfl _ _ rfl (w.heap.size+1) args.length _ rfl rfl rfl (by omega) (w.heap.size+1) (by simp) (Nat.le_refl _) ?_)
  intro wM hoM hbM;have z0:=(hbM.cell (p:=⟨w.heap.size,0,none⟩) (Nat.lt_succ_self _)).trans x0;have z2:=(hbM.cell (p:=⟨w.heap.size,2,none⟩) (Nat.lt_succ_self _)).trans x2;have z3:=(hbM.cell (p:=⟨p2,0,none⟩) (Nat.lt_succ_of_lt l2)).trans y2;have z4:=(hbM.cell (p:=⟨p3,0,none⟩) (Nat.lt_succ_of_lt l3)).trans y3;have HOM:=Z hoM;have HBM:=Z hbM;have HSZ:=Z hbM.size;clear x0 x2 y2 y3 hoM hbM;generalize hub:w.heap.size=ub at*
  go_wp2_with fail
  go_loopw [45] (λ i wi=>∃t:Nat,t<=args.length/\i= .int .i64 t/\Hid ((Lay.int .u64).Own 46 wi (ub+1) (.slice (some ⟨ub+1,0,none⟩) args.length args.length) (intsN ((argsOf U ⟨op,num,args⟩).take t++List.replicate (args.length-t) 0)))/\Below (ub+1) wM wi) (λ i _=>args.length-(intOf i).toNat)
  case atStart=>exact⟨0,by omega,rfl,Z (by simpa[intsN] using HOM.o),Below.refl _ _⟩
  case round=>
   obtain⟨t,ht,rfl,hown,hbi⟩:=hrel;have q0:=(hbi.cell (p:=⟨ub,0,none⟩) (Nat.lt_succ_self _)).trans z0;have q2:=(hbi.cell (p:=⟨ub,2,none⟩) (Nat.lt_succ_self _)).trans z2;have q3:=(hbi.cell (p:=⟨p2,0,none⟩) (Nat.lt_succ_of_lt l2)).trans z3;have q4:=(hbi.cell (p:=⟨p3,0,none⟩) (Nat.lt_succ_of_lt l3)).trans z4;have HBW:=Z (HBM.o.trans hbi);have HBI:=Z hbi;have hsi:=Nat.le_trans HSZ.o hbi.size;clear hbi;by_cases hta:t<args.length
   ·obtain⟨haj,hsn⟩:=HAG.o t hta;have HSN:=Z hsn;obtain⟨ib,io,rfl,hib,hi0⟩:=HATA.o.int (i:=t) (by rw[intsN_len];exact hta);rw[intsN_getD] at hi0;obtain⟨jb,jo,rfl,hjb,hj0⟩:=HAUA.o.int (i:=args.getD t 0) (by rw[intsN_len];omega);rw[intsN_getD] at hj0;have i0:=(HBW.o.cell (p:=⟨ib,io+t,none⟩) (by show ib<_;omega)).trans hi0;have j0:=(HBW.o.cell (p:=⟨jb,jo+args.getD t 0,none⟩) (by show jb<_;omega)).trans hj0;have hvs:U.getD (args.getD t 0) 0<2^W:=HU.o _;have hIL:(intsN ((argsOf U ⟨op,num,args⟩).take t++List.replicate (args.length-t) 0)).length=args.length:=by rw[intsN_len,List.length_append,List.length_take,List.length_replicate,HAP.o];omega
    have hti:(t:Int)<args.length:=by omega
    have haji:((args.getD t 0:Nat):Int)<U.length:=by omega
    obtain⟨g,cap8,u,hv,hg,hcl,hfz,hown2,hgr⟩:=Lay.Own.putI hown.o (j:=t) (by rw[hIL];exact hta) (U.getD (args.getD t 0) 0:Nat);rw[hIL] at hv;injection hv with hv1 _ _;injection hv1 with hv1;injection hv1 with hv1 _ _;subst hv1;have HO2:=Z hown2;have HB2:=Z (HBI.o.grown hgr (by omega) (λ q hq=>by injection hq with hq;omega));clear hi0 hj0 hsn hown hown2 hgr hIL;rw[show(intsN ((argsOf U ⟨op,num,args⟩).take t++List.replicate (args.length-t) 0)).set t ((U.getD (args.getD t 0) 0:Nat):Int)=intsN ((argsOf U ⟨op,num,args⟩).take (t+1)++List.replicate (args.length-(t+1)) 0) by rw[<-HSN.o];simp[intsN]] at HO2;generalize U.getD (args.getD t 0) 0=q at*;generalize args.getD t 0=aj at*
    as_aux_lemma=>
     go_wp2_with fail
     go_roundw
     case rel=>exact⟨t+1,by omega,by go_num,Z HO2.o,HB2.o⟩
     case measure=>simp[intOf];omega
   ·obtain rfl:t=args.length:=by omega
    have hat9:(Lay.int .u64).At 0 wr (some ⟨ub+1,0,none⟩) (intsN (argsOf U ⟨op,num,args⟩)):=by
     obtain⟨a9,c9,e9,h9,_,_⟩:=hown.o.at_;injection e9 with e9 _ _;subst e9;rwa[show(argsOf U ⟨op,num,args⟩).take args.length++List.replicate (args.length-args.length) 0=argsOf U ⟨op,num,args⟩ by rw[<-HAP.o,List.take_length];simp] at h9
    have HCALL:Hid (Calls Tryz.prog 75 #[.int .u8 op,.int .i64 W,.slice (some ⟨ub+1,0,none⟩) args.length args.length] wr λ e W''=>e= .returned (.tuple #[.int .u64 (z:Nat),.int .i64 0])/\Below wr.heap.size wr W''):=Z (HVN.o wr (ub+1) hat9);clear hat9 HAG HAP hown
    go_wp2_with(first
     |(go_at_call 75
       refine HCALL.o.mono ?_;rintro e wB ⟨rfl,hB⟩))
    go_ret
    exact⟨rfl,by rw[hub];exact HBA.o.trans ((HBW.o.trans (hB.mono (by omega))).mono (Nat.le_succ _))⟩
theorem Lay.Own.keep{α:Type}{L:Lay α}{e:TypeId}{w w':World}{base g n c:Nat}{xs:List α}{row:Option Nat}(h:L.Own e w base (.slice (some ⟨g,0,none⟩) n c) xs)(hg:w.grownBy w' row)(hne:row≠some g):L.Own e w' base (.slice (some ⟨g,0,none⟩) n c) xs:=by
 obtain⟨h1,h2⟩:=(h:w.ownsRow base e L.sz _ xs.length (L.flat xs))
 refine⟨h1,?_⟩;rcases h2 with h2|⟨g',cap,cur,hv,hb,hh,hr⟩
 ·exact .inl h2
 ·injection hv with hv1 hv2 hv3;injection hv1 with hv1;injection hv1 with hv1 _ _;subst hv1;have hlt:g<w.heap.size:=(Array.getElem?_eq_some_iff.1 hh).1;exact .inr ⟨g,cap,cur,by rw[hv2,hv3],hb,(hg.block g hlt λ e=>hne e.symm).trans hh,hr⟩
theorem len74{w:World}{r W:Nat}{L:List Nd}(h:RV w r W L):Calls Tryz.prog 59 #[.pointer (some ⟨r,0,none⟩)] w λ e w'=>e= .returned (.int .i64 L.length)/\w=w':=by
 obtain⟨na,ncap,cn,_⟩:=h.nodes;clear h;go_enter Tryz.func59,Tryz.ntmps59
 go_wp2_with fail
 go_ret
 exact⟨rfl,rfl⟩
theorem width41{w:World}{r W:Nat}{L:List Nd}(h:RV w r W L):Calls Tryz.prog 72 #[.pointer (some ⟨r,0,none⟩)] w λ e w'=>e= .returned (.int .i64 W)/\w=w':=by
 have c0:=h.c0;clear h;go_enter Tryz.func72,Tryz.ntmps72
 go_wp2_with fail
 go_ret
 exact⟨rfl,rfl⟩
def lastT(l:List Int):Int:=l.foldl max (-1)
theorem lastT_snoc(l:List Int)(x:Int):lastT (l++[x])=max (lastT l) x:=by simp[lastT]
theorem lastT_ge(l:List Int): -1<=lastT l:=by
 rw[<-List.reverse_reverse l]
 induction l.reverse with
 |nil=>simp[lastT]
 |cons x l ih=>rw[List.reverse_cons,lastT_snoc];omega
theorem lastT_le(l:List Int):∀t∈l,t<=lastT l:=by
 rw[<-List.reverse_reverse l]
 induction l.reverse with
 |nil=>simp
 |cons x l ih=>
  rw[List.reverse_cons,lastT_snoc];intro t ht;rw[List.mem_append] at ht;rcases ht with ht|ht
  ·have:=ih t ht;omega
  ·simp at ht;omega
theorem lastT_lt(l:List Int)(n:Nat):(∀t∈l,t<n)->lastT l<n:=by
 rw[<-List.reverse_reverse l]
 induction l.reverse with
 |nil=>intro _;simp[lastT];omega
 |cons x l ih=>
  rw[List.reverse_cons,lastT_snoc];intro h;have h1:=ih λ t ht=>h t (List.mem_append_left _ ht)
  have h2:=h x (by simp);omega
section
variable {α:Type} {L:Lay α}
end
theorem getD_set_same{α:Type}(d x:α)(xs:List α)(i:Nat)(h:i<xs.length):(xs.set i x).getD i d=x:=by
 rw[List.getD_eq_getElem?_getD,List.getElem?_set_self h];rfl
theorem getD_set_ne{α:Type}(d x:α)(xs:List α)(i j:Nat)(h:i≠j):(xs.set i x).getD j d=xs.getD j d:=by
 rw[List.getD_eq_getElem?_getD,List.getElem?_set_ne h,List.getD_eq_getElem?_getD]
theorem nd_set3(x:NdH):∀(xs:List NdH) (t:Nat),(((Lay.nd.flat xs).set (t*3) (.int .u8 (x.1:Int))).set (t*3+1) (.int .u64 (x.2.1:Int))).set (t*3+2) (.slice x.2.2.1 x.2.2.2.1 x.2.2.2.2)=Lay.nd.flat (xs.set t x)
 |[],t=>by simp[Lay.flat]
 |y::ys,0=>by simp[Lay.flat,Lay.nd]
 |y::ys,t+1=>by
  have h:=nd_set3 x ys t;have e:∀zs:List NdH,Lay.nd.flat (y::zs)= .int .u8 (y.1:Int):: .int .u64 (y.2.1:Int):: .slice y.2.2.1 y.2.2.2.1 y.2.2.2.2::Lay.nd.flat zs:=λ zs=>by simp[Lay.flat,Lay.nd]
  rw[List.set_cons_succ,e,e,<-h,show(t+1)*3=t*3+1+1+1 by omega];simp only[List.set_cons_succ,show t*3+1+1+1+1=(t*3+1)+1+1+1 by omega,show t*3+1+1+1+2=(t*3+2)+1+1+1 by omega]
theorem At.keep{α:Type}{L:Lay α}{d:α}{w w':World}{a:Option Addr}{xs:List α}(h:L.At d w a xs)(hs:w.heap.size<=w'.heap.size)(hk:∀ad,a=some ad->ad.block<w.heap.size->w'.heap[ad.block]? =w.heap[ad.block]?):L.At d w' a xs:=λ i hi=>by
 obtain⟨b,o,e,h0,h1⟩:=h i hi;exact⟨b,o,e,Nat.lt_of_lt_of_le h0 hs,λ j hj=>(World.cell?_of_block (a:=⟨b,o+i*L.sz+j,none⟩) (hk ⟨b,o,none⟩ e h0)).trans (h1 j hj)⟩
theorem Own.put3{w:World}{base g n cap:Nat}{xs:List NdH}(h:Lay.nd.Own 148 w base (.slice (some ⟨g,0,none⟩) n cap) xs)(hn:xs.length=n)(x:NdH)(t:Nat)(ht:t<n):
  Lay.nd.Own 148 (((w.setCell ⟨g,t*3,none⟩ (.int .u8 (x.1:Int))).setCell ⟨g,t*3+1,none⟩ (.int .u64 (x.2.1:Int))).setCell ⟨g,t*3+2,none⟩ (.slice x.2.2.1 x.2.2.2.1 x.2.2.2.2)) base (.slice (some ⟨g,0,none⟩) n cap) (xs.set t x)/\
   (∀j,j<3->∃u,w.cell? ⟨g,t*3+j,none⟩=some u/\w.frozen? ⟨g,t*3+j,none⟩=false):=by
 subst hn;have h':w.ownsRow base 148 3 (.slice (some ⟨g,0,none⟩) xs.length cap) xs.length (Lay.nd.flat xs):=h;have s1:=(World.ownsRow.stored h' (t*3) (.int .u8 (x.1:Int))).1;have s2:=(World.ownsRow.stored s1 (t*3+1) (.int .u64 (x.2.1:Int))).1;have s3:=(World.ownsRow.stored s2 (t*3+2) (.slice x.2.2.1 x.2.2.2.1 x.2.2.2.2)).1;rw[nd_set3] at s3;refine⟨by unfold Lay.Own;rw[List.length_set];exact s3,λ j hj=> ?_⟩;have hl:t*3+j<(Lay.nd.flat xs).length:=by rw[Lay.flat_length];show _<xs.length*3;omega
 exact⟨(Lay.nd.flat xs)[t*3+j],(World.ownsRow.cellAt h' (t*3+j) (by omega)).trans (List.getElem?_eq_getElem hl),World.ownsRow.frozenAt h' (t*3+j)⟩
abbrev nd0:NdH:=(0,0,(none,0,0))
def HeadAt(w:World)(nb:Nat)(h:NdH)(n:Nd):Prop:=h.1=n.op/\h.2.1=n.num/\h.2.2.2.1=n.args.length/\(Lay.int .i64).At 0 w h.2.2.1 (intsN n.args)/\∀ad,h.2.2.1=some ad->nb<ad.block
theorem HeadAt.keep{w w':World}{nb:Nat}{h:NdH}{n:Nd}(hh:HeadAt w nb h n)(hs:w.heap.size<=w'.heap.size)(hk:∀k,nb<k->k<w.heap.size->w'.heap[k]? =w.heap[k]?):HeadAt w' nb h n:=
 ⟨hh.1,hh.2.1,hh.2.2.1,At.keep hh.2.2.2.1 hs λ ad e hl=>hk _ (hh.2.2.2.2 ad e) hl,hh.2.2.2.2⟩
structure NeedP (w:World) (L:List Nd) (ts:List Int) (nb g n t:Nat) (N:List Bool) (NH:List NdH):Prop where
 len:N.length=n
 hlen:NH.length=n
 own:Lay.bool.Own 4 w nb (.slice (some ⟨nb,0,none⟩) n n) N
 nds:Lay.nd.Own 148 w g (.slice (some ⟨g,0,none⟩) n n) NH
 ne:g<nb
 marks:∀j,j<ts.length->N.getD (ts.getD j 0).toNat false=true
 closed:∀j,t<=j->j<n->N.getD j false=true->∀a∈(L.getD j default).args,N.getD a false=true
 heads:∀j,t<=j->j<n->N.getD j false=true->HeadAt w nb (NH.getD j nd0) (L.getD j default)
theorem NeedP.below{w w':World}{L:List Nd}{ts:List Int}{nb g n t:Nat}{N:List Bool}{NH:List NdH}(h:NeedP w L ts nb g n t N NH)(hb:Below w.heap.size w w'):NeedP w' L ts nb g n t N NH:=
 ⟨h.len,h.hlen,h.own.grown hb,h.nds.grown hb,h.ne,h.marks,h.closed,λ j h1 h2 h3=>(h.heads j h1 h2 h3).keep hb.size λ k _ hl=>hb.block k hl⟩
theorem NeedP.skip{w:World}{L:List Nd}{ts:List Int}{nb g n t:Nat}{N:List Bool}{NH:List NdH}(h:NeedP w L ts nb g n (t+1) N NH)(hf:N.getD t false=false):NeedP w L ts nb g n t N NH:=
 ⟨h.len,h.hlen,h.own,h.nds,h.ne,h.marks,λ j h1 h2 h3=>by
   by_cases e:j=t
   ·subst e;rw[hf] at h3;cases h3
   ·exact h.closed j (by omega) h2 h3,λ j h1 h2 h3=>by
   by_cases e:j=t
   ·subst e;rw[hf] at h3;cases h3
   ·exact h.heads j (by omega) h2 h3⟩
structure MarkP (w:World) (L:List Nd) (ts:List Int) (nb g n t k:Nat) (N:List Bool) (NH:List NdH):Prop where
 len:N.length=n
 hlen:NH.length=n
 own:Lay.bool.Own 4 w nb (.slice (some ⟨nb,0,none⟩) n n) N
 nds:Lay.nd.Own 148 w g (.slice (some ⟨g,0,none⟩) n n) NH
 ne:g<nb
 marks:∀j,j<ts.length->N.getD (ts.getD j 0).toNat false=true
 closed:∀j,t+1<=j->j<n->N.getD j false=true->∀a∈(L.getD j default).args,N.getD a false=true
 heads:∀j,t<=j->j<n->N.getD j false=true->HeadAt w nb (NH.getD j nd0) (L.getD j default)
 first:∀i,i<k->N.getD ((L.getD t default).args.getD i 0) false=true
 here:N.getD t false=true
theorem MarkP.done{w:World}{L:List Nd}{ts:List Int}{nb g n t:Nat}{N:List Bool}{NH:List NdH}(h:MarkP w L ts nb g n t (L.getD t default).args.length N NH):NeedP w L ts nb g n t N NH:=
 ⟨h.len,h.hlen,h.own,h.nds,h.ne,h.marks,λ j h1 h2 h3=>by
   by_cases e:j=t
   ·subst e;intro a ha;obtain⟨i,hi,rfl⟩:=List.mem_iff_getElem.1 ha;have:=h.first i hi;rwa[List.getD_eq_getElem?_getD (l:=(L.getD j default).args),List.getElem?_eq_getElem hi] at this
   ·exact h.closed j (by omega) h2 h3,h.heads⟩
theorem MarkP.mark{w w':World}{L:List Nd}{ts:List Int}{nb g n t k:Nat}{N:List Bool}{NH:List NdH}(h:MarkP w L ts nb g n t k N NH)(ht:t<n){x:Nat}(hx:(L.getD t default).args.getD k 0=x)(hxt:x<t)
  (ho:Lay.bool.Own 4 w' nb (.slice (some ⟨nb,0,none⟩) n n) (N.set x true))(hg:w.grownBy w' (some nb)):MarkP w' L ts nb g n t (k+1) (N.set x true) NH:=by
 have hne:=h.ne;have hback:∀j,t<=j->(N.set x true).getD j false=N.getD j false:=λ j hj=>getD_set_ne _ _ _ _ _ (by omega)
 refine⟨by rw[List.length_set];exact h.len,h.hlen,ho,h.nds.keep hg (λ e=>by injection e with e;omega),h.ne,λ j hj=>getD_set_true _ _ _ (h.marks j hj),λ j h1 h2 h3 a ha=>getD_set_true _ _ _ (h.closed j h1 h2 (by rwa[hback j (by omega)] at h3) a ha),λ j h1 h2 h3=>(h.heads j h1 h2 (by rwa[hback j h1] at h3)).keep hg.size λ k hk hl=>hg.block k hl (λ e=>by injection e with e;omega),λ i hi=> ?_,getD_set_true _ _ _ h.here⟩
 ·by_cases e:i=k
  ·subst e;rw[hx];exact getD_set_same _ _ _ _ (by rw[h.len];omega)
  ·exact getD_set_true _ _ _ (h.first i (by omega))
theorem NeedP.copy{w w':World}{L:List Nd}{ts:List Int}{nb g n t:Nat}{N:List Bool}{NH:List NdH}(h:NeedP w L ts nb g n (t+1) N NH)(ht:t<n)(hN:N.getD t false=true){x:NdH}(hx:HeadAt w nb x (L.getD t default))
  (ho:Lay.nd.Own 148 w' g (.slice (some ⟨g,0,none⟩) n n) (NH.set t x))(hg:w.grownBy w' (some g)):MarkP w' L ts nb g n t 0 N (NH.set t x):=by
 have hne:=h.ne;refine⟨h.len,by rw[List.length_set];exact h.hlen,h.own.keep hg (λ e=>by injection e with e;omega),ho,h.ne,h.marks,h.closed,λ j h1 h2 h3=> ?_,λ i hi=>absurd hi (by omega),hN⟩;by_cases e:t=j
 ·subst e;rw[getD_set_same _ _ _ _ (by rw[h.hlen];exact ht)];exact hx.keep hg.size λ k hk hl=>hg.block k hl (λ e=>by injection e with e;omega)
 ·rw[getD_set_ne _ _ _ _ _ e];exact(h.heads j (by omega) h2 h3).keep hg.size λ k hk hl=>hg.block k hl (λ e=>by injection e with e;omega)
theorem Own.put3g{w:World}{base g n cap:Nat}{xs:List NdH}(h:Lay.nd.Own 148 w base (.slice (some ⟨g,0,none⟩) n cap) xs)(hn:xs.length=n)(x:NdH)(t:Nat):
  w.grownBy (((w.setCell ⟨g,t*3,none⟩ (.int .u8 (x.1:Int))).setCell ⟨g,t*3+1,none⟩ (.int .u64 (x.2.1:Int))).setCell ⟨g,t*3+2,none⟩ (.slice x.2.2.1 x.2.2.2.1 x.2.2.2.2)) (some g):=by
 subst hn;have h':w.ownsRow base 148 3 (.slice (some ⟨g,0,none⟩) xs.length cap) xs.length (Lay.nd.flat xs):=h;have s1:=World.ownsRow.stored h' (t*3) (.int .u8 (x.1:Int));have s2:=World.ownsRow.stored s1.1 (t*3+1) (.int .u64 (x.2.1:Int));have s3:=World.ownsRow.stored s2.1 (t*3+2) (.slice x.2.2.1 x.2.2.2.1 x.2.2.2.2);exact(s1.2.trans s2.2).trans s3.2
theorem store_nd{ops:Array Oper}{rest:List Oper}{op:Oper}{a:Act}{w:World}{Q:Exit->Act->World->Prop}(hgd:op.guard=none)(x y:Operand)(ho:op.op= .store 148 x y)
  {base g n cap:Nat}{xs:List NdH}(own:Lay.nd.Own 148 w base (.slice (some ⟨g,0,none⟩) n cap) xs)(hn:xs.length=n)(h:NdH)(t:Nat)(ht:t<n)(o:Nat)(hot:o=t*3)
  (hx:a.eval x= .pointer (some ⟨g,o,none⟩))(hy:a.eval y= .agg #[.int .u8 (h.1:Int),.int .u64 (h.2.1:Int),.slice h.2.2.1 h.2.2.2.1 h.2.2.2.2])
  (hK:∀w',Lay.nd.Own 148 w' base (.slice (some ⟨g,0,none⟩) n cap) (xs.set t h)->w.grownBy w' (some g)->wpList Tryz.prog ops Q rest (a.put op.dst undef) w'):wpList Tryz.prog ops Q (op::rest) a w:=by
 subst hot;obtain⟨p1,p2⟩:=Own.put3 own hn h t ht;have p3:=Own.put3g own hn h t;refine wpList_store_mid hgd 148 x y ho g (t*3) _ hx hy (λ j hj=> ?_) (by kernel_rfl) (all_oneCell_toArray (cs:=[_,_,_]) (by intro v hv;simp at hv;rcases hv with rfl|rfl|rfl<;>rfl)) (hK _ p1 p3);obtain⟨u,h1,h2⟩:=p2 j hj;exact⟨by rw[h1];rfl,h2⟩
theorem ndCells{w:World}{base g n cap:Nat}{N:List NdH}(h:Lay.nd.Own 148 w base (.slice (some ⟨g,0,none⟩) n cap) N){t:Nat}(ht:t<N.length):
  w.cell? ⟨g,t*3,none⟩=some (.int .u8 ((N.getD t nd0).1:Int))/\w.cell? ⟨g,t*3+1,none⟩=some (.int .u64 ((N.getD t nd0).2.1:Int))/\w.cell? ⟨g,t*3+2,none⟩=some (.slice (N.getD t nd0).2.2.1 (N.getD t nd0).2.2.2.1 (N.getD t nd0).2.2.2.2):=by
 obtain⟨a2,c2,e2,hat2,_,_⟩:=h.at_ (d:=nd0);injection e2 with e2 _ _;subst e2;obtain⟨b',o',e',_,hc'⟩:=hat2 t ht;injection e' with e';injection e' with e3 e4 _;subst e3 e4;have h0:=hc' 0 (by decide);have h1:=hc' 1 (by decide);have h2:=hc' 2 (by decide);refine⟨?_,?_,?_⟩
 ·simpa[Lay.nd] using h0
 ·simpa[Lay.nd] using h1
 ·simpa[Lay.nd] using h2
structure ValP (W:Nat) (vals:List Nat) (L:List Nd) (N:List Bool) (n t:Nat) (U:List Nat):Prop where
 len:U.length=n
 low:∀j,U.getD j 0<2^W
 vals:∀j,j<t->N.getD j false=true->U.getD j 0=(valuesN W vals L).getD j 0
theorem ValP.start(W:Nat)(vals:List Nat)(L:List Nd)(N:List Bool)(n:Nat):ValP W vals L N n 0 (List.replicate n 0):=
 ⟨List.length_replicate,λ j=>by
   rw[show(List.replicate n 0).getD j 0=0 by rw[List.getD_eq_getElem?_getD,List.getElem?_replicate];split<;>rfl];exact Nat.pow_pos (by decide),λ j hj=>absurd hj (by omega)⟩
theorem ValP.skip{W:Nat}{vals:List Nat}{L:List Nd}{N:List Bool}{n t:Nat}{U:List Nat}(h:ValP W vals L N n t U)(hf:N.getD t false=false):ValP W vals L N n (t+1) U:=
 ⟨h.len,h.low,λ j hj hN=>by
   by_cases e:j=t
   ·subst e;rw[hf] at hN;cases hN
   ·exact h.vals j (by omega) hN⟩
theorem ValP.val{W:Nat}{vals:List Nat}{L:List Nd}{N:List Bool}{n t:Nat}{U:List Nat}(h:ValP W vals L N n t U)(hg:GOk W L)(ht:t<L.length)(hcl:∀a∈(L.getD t default).args,N.getD a false=true):
  valN W vals U (L.getD t default)=(valuesN W vals L).getD t 0:=by
 rw[valuesN_at W vals L ht];have hn:=hg t ht;refine valN_args hn λ a ha=> ?_
 have hat:=hn.2.2.2.2.2.2 a ha;rw[getD_take 0 _ hat];exact h.vals a hat (hcl a ha)
theorem ValP.next{W:Nat}{vals:List Nat}{L:List Nd}{N:List Bool}{n t:Nat}{U:List Nat}(h:ValP W vals L N n t U)(ht:t<n){x:Nat}(hx:x=(valuesN W vals L).getD t 0)(hlt:x<2^W):ValP W vals L N n (t+1) (U.set t x):=
 ⟨by rw[List.length_set];exact h.len,λ j=>by
   by_cases e:t=j
   ·subst e;rw[getD_set_same _ _ _ _ (by rw[h.len];exact ht)];exact hlt
   ·rw[getD_set_ne _ _ _ _ _ e];exact h.low j,λ j hj hN=>by
   by_cases e:t=j
   ·subst e;rw[getD_set_same _ _ _ _ (by rw[h.len];exact ht),hx]
   ·rw[getD_set_ne _ _ _ _ _ e];exact h.vals j (by omega) hN⟩
theorem intsN_set(U:List Nat)(t x:Nat):intsN (U.set t x)=(intsN U).set t (x:Int):=by simp[intsN,List.map_set]
theorem intsN_rep(n:Nat):intsN (List.replicate n 0)=List.replicate n 0:=by simp[intsN]
theorem two_boxes'(w:World)(x y:Value)(t u:TypeId):((w.alloc (.cells #[x] t)).alloc (.cells #[y] u)).cell? ⟨w.heap.size,0,none⟩=some x/\((w.alloc (.cells #[x] t)).alloc (.cells #[y] u)).cell? ⟨w.heap.size+1,0,none⟩=some y:=by
 have hz:(w.alloc (.cells #[x] t)).heap.size=w.heap.size+1:=by simp
 refine⟨?_,?_⟩
 ·rw[World.cell?_alloc_past _ _ _ (by simp),World.cell?_alloc_new];rfl
 ·have:=World.cell?_alloc_new (w.alloc (.cells #[x] t)) #[y] u 0;rw[hz] at this;rw[this];rfl
theorem set_fill(F:List Nat){k m:Nat}(hm:F.length=m)(hk:k<m):(F.take k++List.replicate (m-k) 0).set k (F.getD k 0)=F.take (k+1)++List.replicate (m-(k+1)) 0:=by
 rw[take_snoc' 0 F (by omega),show m-k=(m-(k+1))+1 by omega,List.replicate_succ,List.set_append_right _ _ (by rw[List.length_take];omega),show k-(F.take k).length=0 by rw[List.length_take];omega,List.set_cons_zero,List.append_assoc]
 rfl
structure L4R (w3:World) (W:Nat) (vals:List Nat) (L:List Nd) (N:List Bool) (n t p2 p3:Nat) (w':World):Prop where
 bel:Below w3.heap.size w3 w'
 c2:w'.cell? ⟨p2,0,none⟩=some (.int .i64 W)
 c3:w'.cell? ⟨p3,0,none⟩=some (.slice (some ⟨w3.heap.size,0,none⟩) n n)
 l2:p2<w'.heap.size
 l3:p3<w'.heap.size
 n2:w3.heap.size<p2
 n3:w3.heap.size<p3
 u:∃U,ValP W vals L N n t U/\(Lay.int .u64).Own 46 w' w3.heap.size (.slice (some ⟨w3.heap.size,0,none⟩) n n) (intsN U)
section
variable {w3 w' w'':World} {W:Nat} {vals:List Nat} {L:List Nd} {N:List Bool} {n t p2 p3:Nat}
theorem L4R.below(h:L4R w3 W vals L N n t p2 p3 w')(hb:Below w'.heap.size w' w''):L4R w3 W vals L N n t p2 p3 w'':=by
 obtain⟨U,h1,h2⟩:=h.u;exact⟨h.bel.trans (hb.mono h.bel.size),(hb.cell (p:=⟨p2,0,none⟩) h.l2).trans h.c2,(hb.cell (p:=⟨p3,0,none⟩) h.l3).trans h.c3,Nat.lt_of_lt_of_le h.l2 hb.size,Nat.lt_of_lt_of_le h.l3 hb.size,h.n2,h.n3,U,h1,h2.grown hb⟩
theorem L4R.drew(h:L4R w3 W vals L N n t p2 p3 w'):L4R w3 W vals L N n t p2 p3 w'.drew:=h.below (Below.refl _ _).drew
theorem L4R.skip(h:L4R w3 W vals L N n t p2 p3 w')(hf:N.getD t false=false):L4R w3 W vals L N n (t+1) p2 p3 w':=by
 obtain⟨U,h1,h2⟩:=h.u;exact⟨h.bel,h.c2,h.c3,h.l2,h.l3,h.n2,h.n3,U,h1.skip hf,h2⟩
theorem L4R.back(h:L4R w3 W vals L N n (t+1) p2 p3 w'):L4R w3 W vals L N n t p2 p3 w':=by
 obtain⟨U,h1,h2⟩:=h.u;exact⟨h.bel,h.c2,h.c3,h.l2,h.l3,h.n2,h.n3,U,⟨h1.len,h1.low,λ j hj=>h1.vals j (by omega)⟩,h2⟩
theorem L4R.store(h:L4R w3 W vals L N n t p2 p3 w')(ht:t<n){z:Nat}(hz:(valuesN W vals L).getD t 0=z)(hlt:z<2^W):L4R w3 W vals L N n (t+1) p2 p3 (w'.setCell ⟨w3.heap.size,t,none⟩ (.int .u64 (z:Nat))):=by
 obtain⟨U,h1,h2⟩:=h.u;obtain⟨o1,o2,_⟩:=h2.put1 rfl (by rw[intsN_len];exact h1.len) (x:=(z:Int)) (u:=.int .u64 (z:Nat)) rfl t;have hne2:(⟨w3.heap.size,t,none⟩:Addr).block≠(⟨p2,0,none⟩:Addr).block:=by show w3.heap.size≠p2;have:=h.n2;omega
 have hne3:(⟨w3.heap.size,t,none⟩:Addr).block≠(⟨p3,0,none⟩:Addr).block:=by show w3.heap.size≠p3;have:=h.n3;omega
 have hs:=o2.size;exact⟨h.bel.grown o2 (Nat.le_of_lt (h2.lt _ rfl).2) (λ q hq=>by injection hq with hq;omega),(o2.cell h.c2 (λ e=>by injection e with e;exact hne2 e.symm)),(o2.cell h.c3 (λ e=>by injection e with e;exact hne3 e.symm)),Nat.lt_of_lt_of_le h.l2 hs,Nat.lt_of_lt_of_le h.l3 hs,h.n2,h.n3,U.set t z,h1.next ht hz.symm hlt,by rw[intsN_set];exact o1⟩
theorem L4R.cell(h:L4R w3 W vals L N n t p2 p3 w')(ht:t<n):(∃u,w'.cell? ⟨w3.heap.size,t,none⟩=some u)/\w'.frozen? ⟨w3.heap.size,t,none⟩=false:=by
 obtain⟨U,h1,h2⟩:=h.u;exact⟨⟨_,wordCell h2 (t:=t) (by rw[intsN_len,h1.len];exact ht)⟩,(h2.put1 rfl (by rw[intsN_len];exact h1.len) (x:=0) (u:=.int .u64 0) rfl t).2.2⟩
theorem L4R.call(h:L4R w3 W vals L N n t p2 p3 w')(h1:1<=W)(h2:W<=64)(hg:GOk W L)(ht:t<L.length)(htn:t<n){op num:Nat}{args:List Nat}(hn:L.getD t default=⟨op,num,args⟩)(hcl:∀a∈args,N.getD a false=true){ha:Option Addr}{hc:Nat}(hat:(Lay.int .i64).At 0 w3 ha (intsN args))
  {p1:Nat}(l1:p1<w3.heap.size){av:Option Addr}{lv cv:Nat}(hlv:vals.length=lv)(hv1:lv<=100)(c1:w3.cell? ⟨p1,0,none⟩=some (.slice av lv cv))(hav:(Lay.int .u64).At 0 w3 av (intsN vals))(hsm:∀v∈vals,v<18446744073709551616){z:Nat}(hz:(valuesN W vals L).getD t 0=z):
  Calls Tryz.prog 73 #[.agg #[.int .u8 op,.int .u64 num,.slice ha args.length hc],.pointer (some ⟨p1,0,none⟩),.pointer (some ⟨p2,0,none⟩),.pointer (some ⟨p3,0,none⟩)] w' λ e w''=>e= .returned (.int .u64 (z:Nat))/\Below w'.heap.size w' w'':=by
 obtain⟨U,u1,u2⟩:=h.u;obtain⟨au,cu,e9,hatU,_,_⟩:=u2.at_ (d:=0);injection e9 with e9 _ _;subst e9;have hv:=u1.val hg ht (by rw[hn];exact hcl);rw[hn,hz] at hv;have hok:=hg t ht;rw[hn] at hok;have hbs:=h.bel.size;have:=value76 (w:=w') ⟨op,num,args⟩ hok h1 h2 (vals:=vals) (U:=U) u1.low (by rw[u1.len];omega) (m:=args.length) (hc:=hc) rfl (hat.below h.bel) (p1:=p1) (p2:=p2) (p3:=p3) (Nat.lt_of_lt_of_le l1 hbs) h.l2 h.l3 hlv u1.len hv1
  ((h.bel.cell (p:=⟨p1,0,none⟩) l1).trans c1) h.c2 h.c3 (hav.below h.bel) hatU hsm
 rw[hv] at this;exact this
end
@[go_sem] theorem run_makeFunc' (P : Program) (fn : Fn) (first cap : Array Value) (w : World) : (Instr.makeFunc fn first cap).run P w = .ok (.func fn first cap) w := rfl
@[go_sem] theorem events_makeFunc' (P : Program) (fn : Fn) (first cap : Array Value) (w : World) (es : Array Event) : (Instr.makeFunc fn first cap).events P w es = es := rfl
set_option maxRecDepth 100000 in
set_option maxHeartbeats 8000000 in
theorem all56{w:World}{r W:Nat}{L:List Nd}(h:RV w r W L)(h1:1<=W)(h2:W<=64)(ts:List Int){a b:Option Addr}{m c l d:Nat}(hm:ts.length=m)(hm2:m<=1000)(hat:(Lay.int .i64).At 0 w a ts)(hgood:∀t∈ts,inG L.length t=true)(hL:L.length<=999)
  (vals:List Nat)(hlen:vals.length=l)(hvl:l<=100)(hatv:(Lay.int .u64).At 0 w b (intsN vals))(hsm:∀v∈vals,v<18446744073709551616):
  Calls Tryz.prog 35 #[.pointer (some ⟨r,0,none⟩),.slice a m c,.slice b l d] w λ e w'=>∃v,e= .returned (.tuple #[v,.int .i64 0])/\(Lay.int .u64).Own 46 w' w.heap.size v (intsN (ts.map λ t=>(valuesN W vals L).getD t.toNat 0))/\Below w.heap.size w w':=by
 subst hm;have HRV:=Z h;have HATV:=Z hatv;have HSM:=Z hsm;have HVLEN:=Z hlen;have HVL:=Z hvl;have HW1:=Z h1;have HW2:=Z h2;have HL:=Z hL;clear hatv hsm hlen hvl h1 h2;have HA:=Z hat;have HBAD:=Z hgood;have HBA:Hid (Below w.heap.size w (w.alloc (.cells #[.slice b l d] 31))):=Z ((Below.refl _ _).alloc (Nat.le_refl _) _);have HLEN:=Z (len74 (h.below HBA.o));have HTK:Hid (∀k,k<ts.length->lastT (ts.take (k+1))=max (lastT (ts.take k)) (ts.getD k 0)):=Z λ k hk=>by rw[take_snoc' 0 ts hk,lastT_snoc]
 clear hat hgood h;have HLE:Hid (-1<=lastT ts/\lastT ts<L.length):=Z ⟨lastT_ge ts,lastT_lt ts L.length λ t ht=>by have:=HBAD.o t ht;simp[inG] at this;omega⟩;have HLK:Hid (∀k,-1<=lastT (ts.take k)):=Z λ k=>lastT_ge _
 go_enter Tryz.func35,Tryz.ntmps35
 go_wp2_with fail
 go_loopw [8,29] (λ v i wr=>∃k:Nat,k<=ts.length/\i= .int .i64 k/\v= .int .i64 (lastT (ts.take k))/\Hid (wr=w.alloc (.cells #[.slice b l d] 31))) (λ _ i _=>ts.length-(intOf i).toNat)
 case atStart=>exact⟨0,by omega,rfl,rfl,Z rfl⟩
 case round=>
  obtain⟨k,hk,rfl,rfl,hw⟩:=hrel;obtain rfl:=hw.o.symm;by_cases hlk:k<ts.length
  ·obtain⟨ib,io,rfl,hib,hi0⟩:=HA.o.int (i:=k) hlk;have i0:=(HBA.o.cell (p:=⟨ib,io+k,none⟩) hib).trans hi0;have HT:=Z (HTK.o k hlk);have hki:(k:Int)<ts.length:=by omega
   clear hi0;generalize hx:ts.getD k 0=x at*;have hxm:x∈ts:=by
    rw[<-hx,List.getD_eq_getElem?_getD,List.getElem?_eq_getElem hlk];exact List.getElem_mem hlk
   have hxg:=HBAD.o x hxm;simp only[inG,Bool.and_eq_true,decide_eq_true_eq] at hxg;obtain⟨h0,hn⟩:=hxg;have d1:decide ((L.length:Int)<=x)=false:=decide_eq_false (by omega);have d2:decide (x<0)=false:=decide_eq_false (by omega);clear hxm
   go_wp2_with(first
    |(go_at_call 59
      refine HLEN.o.mono ?_;rintro e wB ⟨rfl,rfl⟩))
   go_roundw
   case rel=>exact⟨k+1,by omega,by go_num,by rw[HT.o];first|done|(congr 1;split<;>omega),by first|exact Z rfl|exact Z trivial⟩
   case measure=>simp[intOf];omega
  ·obtain rfl:k=ts.length:=by omega
   rw[List.take_length];have hl1:=HLE.o.1;have hl2:=HLE.o.2;have hl3:((lastT ts+1).toNat:Int)=lastT ts+1:=by omega
   have hZ:∀j,j<ts.length->0<=ts.getD j 0/\ts.getD j 0<=lastT ts:=λ j hj=>by
    have hm:ts.getD j 0∈ts:=by rw[List.getD_eq_getElem?_getD,List.getElem?_eq_getElem hj];exact List.getElem_mem hj
    have h1:=HBAD.o _ hm;have h2:=lastT_le ts _ hm;simp[inG] at h1;exact⟨by simpa using h1.1,h2⟩
   generalize lastT ts=z at*
   go_wp2_with(first
    |(refine make_lay Tryz.elemN (0,0,(none,0,0)) rfl rfl _ _ rfl (w.heap.size+1) (z+1).toNat _ rfl rfl (by first|exact hl3.symm|(simp;omega)) (by omega) (w.heap.size+1) (by simp) (Nat.le_refl _) ?_
      intro wN hoN hbN)
    |(refine make_lay Tryz.elemB false rfl rfl _ _ rfl wN.heap.size (z+1).toNat _ rfl rfl (by first|exact hl3.symm|(simp;omega)) (by omega) wN.heap.size rfl (Nat.le_refl _) ?_
      intro wM hoM hbM))
   have HN:=Z hoN;have HM:=Z hoM;have HBN:=Z hbN;have HBM:=Z hbM;have HZ:Hid (∀j,j<ts.length->0<=ts.getD j 0/\ts.getD j 0<=z):=Z λ j hj=>hZ j hj
   clear hoN hoM hbN hbM
   go_loopw [53] (λ i wi=>∃(k:Nat) (N:List Bool),k<=ts.length/\i= .int .i64 k/\N.length=(z+1).toNat/\(∀j,j<k->N.getD (ts.getD j 0).toNat false=true)/\Hid (Lay.bool.Own 4 wi wN.heap.size (.slice (some ⟨wN.heap.size,0,none⟩) (z+1).toNat (z+1).toNat) N)/\Below wN.heap.size wM wi) (λ i _=>ts.length-(intOf i).toNat)
   case atStart=>exact⟨0,List.replicate (z+1).toNat false,by omega,rfl,List.length_replicate,λ j hj=>absurd hj (by omega),Z HM.o,Below.refl _ _⟩
   case round=>
    obtain⟨k,N,hk,rfl,hNl,hmk,hown,hbi⟩:=hrel;have HBW:=Z (HBA.o.trans ((HBN.o.mono (Nat.le_succ _)).trans ((HBM.o.trans hbi).mono (by have:=HBN.o.size;simp at this;omega))));have HBI:=Z hbi;have HOW:=Z hown.o;have HMK:=Z hmk;clear hown hbi hmk;by_cases hlk:k<ts.length
    ·obtain⟨ib,io,rfl,hib,hi0⟩:=HA.o.int (i:=k) hlk;have i0:=(HBW.o.cell (p:=⟨ib,io+k,none⟩) hib).trans hi0;have hki:(k:Int)<ts.length:=by omega
     obtain⟨hx0,hxz⟩:=HZ.o k hlk;clear hi0;generalize hx:ts.getD k 0=x at*;have hcl:∃u,wr.cell? ⟨wN.heap.size,x.toNat,none⟩=some u:=by
      obtain⟨a2,c2,e2,hat2,_,_⟩:=HOW.o.at_ (d:=false);injection e2 with e2 _ _;subst e2;obtain⟨b',o',e',_,hc'⟩:=hat2 x.toNat (by rw[hNl];omega);injection e' with e';injection e' with e3 e4 _;subst e3 e4;have h0:=hc' 0 (by decide);exact⟨.bool (N.getD x.toNat false),by simpa[Lay.bool] using h0⟩
     obtain⟨u,hcl⟩:=hcl;obtain⟨o1,o2,hfz⟩:=HOW.o.put1 rfl hNl (x:=true) (u:=.bool true) rfl x.toNat;have HO2:=Z o1;have HB2:=Z (HBI.o.grown o2 (Nat.le_of_lt (HOW.o.lt wN.heap.size rfl).2) (λ q hq=>by injection hq with hq;omega));have hxn:x<((z+1).toNat:Int):=by omega
     clear o1 o2
     go_wp2_with fail
     go_roundw
     case rel=>exact⟨k+1,N.set x.toNat true,by omega,by go_num,by rw[List.length_set];exact hNl,λ j hj=>by
      by_cases e:(ts.getD j 0).toNat=x.toNat
      ·rw[e,getD_set_same _ _ _ _ (by rw[hNl];omega)]
      ·rw[getD_set_ne _ _ _ _ _ (λ h=>e h.symm)];by_cases e2:j=k
       ·subst e2;exact absurd (by rw[hx]) e
       ·exact HMK.o j (by omega),Z HO2.o,HB2.o⟩
     case measure=>simp[intOf];omega
    ·obtain rfl:k=ts.length:=by omega
     have hzN:=(HN.o.lt (w.heap.size+1) rfl).2;have HBX:Hid (Below (w.heap.size+1) (w.alloc (.cells #[.slice b l d] 31)) wr):=Z (HBN.o.trans ((HBM.o.trans HBI.o).mono (by omega)));have HNP:Hid (NeedP wr L ts wN.heap.size (w.heap.size+1) (z+1).toNat (z+1).toNat N (List.replicate (z+1).toNat nd0)):=Z
      ⟨hNl,List.length_replicate,HOW.o,HN.o.grown (HBM.o.trans HBI.o),hzN,λ j hj=>HMK.o j hj,λ j g1 g2=>absurd g2 (by omega),λ j g1 g2=>absurd g2 (by omega)⟩
     have HRV2:=Z (HRV.o.below HBW.o);have HX0:Hid (wr.cell? ⟨w.heap.size,0,none⟩=some (.slice b l d)):=Z ((HBX.o.cell (p:=⟨w.heap.size,0,none⟩) (Nat.lt_succ_self _)).trans (by rw[World.cell?_alloc_new];rfl));have hz4:=HBW.o.size;clear HOW HMK HBI HBX HN HM HBN HBM HLEN HTK HBA;generalize wN.heap.size=nb at*;have hn1:(z+1).toNat<=L.length:=by omega
     have hz1:z=((z+1).toNat:Int)-1:=by omega
     generalize(z+1).toNat=n1 at*;subst hz1;clear hl1 hl2 hl3;have hnbr:=(HNP.o.own.lt nb rfl).2;clear HRV2;generalize wr=w2 at*;simp only[show(n1:Int)-1+1=n1 by omega]
     go_wp2_with fail
     go_loopw [15] (λ i wi=>∃(x:Int) (t:Nat) (N:List Bool) (NH:List NdH),i= .int .i64 x/\Hid (x=(t:Int)-1)/\t<=n1/\Hid (NeedP wi L ts nb (w.heap.size+1) n1 t N NH)/\Below (w.heap.size+1) w2 wi) (λ i _=>(intOf i+1).toNat)
     case atStart=>exact⟨_,n1,N,_,rfl,Z rfl,Nat.le_refl _,Z HNP.o,Below.refl _ _⟩
     case round=>
      clear HNP;obtain⟨x,t,N,NH,rfl,hx,htn,hnp,hbi⟩:=hrel;have HNP2:=Z hnp.o;have HB2:=Z hbi;have hzi:=hbi.size;have HRVi:=Z (HRV.o.below (HBW.o.trans (hbi.mono (Nat.le_succ _))));clear hnp hbi;cases t with
      |zero=>
       obtain rfl:x= -1:=by have:=hx.o;omega
       have HB0:=Z (HBW.o.trans (HB2.o.mono (Nat.le_succ _)));have HX1:Hid (wr.cell? ⟨w.heap.size,0,none⟩=some (.slice b l d)):=Z ((HB2.o.cell (p:=⟨w.heap.size,0,none⟩) (Nat.lt_succ_self _)).trans HX0.o);have HAV:=Z (HATV.o.below HB0.o);have hzw:w.heap.size<wr.heap.size:=by omega
       clear HB2 HX0 hx hzi hnbr hz4 HBW hzN;generalize wr=w3 at*
       go_wp2_with(first
        |(refine make_lay Tryz.elemU 0 rfl rfl _ _ rfl w3.heap.size n1 _ rfl rfl (by first|rfl|simp|omega) (by omega) w3.heap.size rfl (Nat.le_refl _) ?_
          intro wU hoU hbU;have HOU:=Z hoU;have HBU:=Z hbU;have HRVU:=Z (HRVi.o.below hbU);clear hoU hbU)
        |(go_at_call 72
          refine(width41 (HRVU.o.below (by first|exact(Below.refl _ _).alloc (Nat.le_refl _) _))).mono ?_;rintro e wB ⟨rfl,rfl⟩))
       have hz3:=HBU.o.size;have hB4:Below wU.heap.size wU ((wU.alloc (.cells #[.slice (some ⟨w3.heap.size,0,none⟩) n1 n1] 31)).alloc (.cells #[.int .i64 W] 3)):=((Below.refl _ _).alloc (Nat.le_refl _) _).alloc (by simp) _;have HB4:=Z (HBU.o.trans (hB4.mono hz3));have HO4:=Z (HOU.o.grown hB4);obtain⟨q1,q2⟩:=two_boxes' wU (.slice (some ⟨w3.heap.size,0,none⟩) n1 n1) (.int .i64 W) 31 3;have Q1:=Z q1;have Q2:=Z q2;have hz5:wU.heap.size+2=((wU.alloc (.cells #[.slice (some ⟨w3.heap.size,0,none⟩) n1 n1] 31)).alloc (.cells #[.int .i64 W] 3)).heap.size:=by simp
       have hg4:=(HOU.o.lt w3.heap.size rfl).2;clear q1 q2 hB4 HOU HBU HRVU HRVi;generalize((wU.alloc (.cells #[.slice (some ⟨w3.heap.size,0,none⟩) n1 n1] 31)).alloc (.cells #[.int .i64 W] 3))=w4 at*;generalize wU.heap.size=p3 at*;clear wU;have HR0:Hid (L4R w3 W vals L N n1 0 (p3+1) p3 w4):=Z ⟨HB4.o,Q2.o,Q1.o,by omega,by omega,by omega,by omega,List.replicate n1 0,ValP.start W vals L N n1,by rw[intsN_rep];exact HO4.o⟩
       go_loopw [101] (λ i wi=>∃t:Nat,t<=n1/\i= .int .i64 t/\Hid (L4R w3 W vals L N n1 t (p3+1) p3 wi)) (λ i _=>n1-(intOf i).toNat)
       case atStart=>exact⟨0,by omega,rfl,Z HR0.o⟩
       case round=>
        clear HR0 HO4 Q1 Q2 HB4;obtain⟨t,ht,rfl,hr⟩:=hrel;have HR:=Z hr.o;have C3:=hr.o.c3;have HNPi:=Z (HNP2.o.below hr.o.bel);clear hr;by_cases htn:t<n1
        ·have cb:=boolCell HNPi.o.own (t:=t) (by rw[HNPi.o.len];exact htn);have hti:(t:Int)<n1:=by omega
         cases hNt:N.getD t false with
         |false=>
          rw[hNt] at cb;have HSK:=Z (HR.o.skip hNt);clear hNt
          go_wp2_with fail
          go_roundw
          case rel=>exact⟨t+1,by omega,by go_num,Z HSK.o⟩
          case measure=>simp[intOf]<;>omega
         |true=>
          rw[hNt] at cb;have htL:t<L.length:=by omega
          obtain⟨e1,e2,e3,hatA,_⟩:=HNP2.o.heads t (Nat.zero_le _) htn hNt;obtain⟨c0,c1,c2⟩:=ndCells HNP2.o.nds (t:=t) (by rw[HNP2.o.hlen];exact htn);have HCL:=Z (HNP2.o.closed t (Nat.zero_le _) htn hNt);have HZL:Hid ((valuesN W vals L).getD t 0<2^W):=Z (valuesN_lt vals HW1.o HRV.o.ok t);clear hNt;rcases hn:L.getD t default with⟨op,num,args⟩
          rw[hn] at e1 e2 e3 hatA HCL;have HN:=Z hn;generalize NH.getD t nd0=nh at*;obtain⟨op',num',ha,al,hc⟩:=nh;simp only at e1 e2 e3 c0 c1 c2 hatA HCL;subst e1 e2 e3;have HATA:=Z hatA;clear hn hatA;have HST:Hid (∀z w',(valuesN W vals L).getD t 0=z->L4R w3 W vals L N n1 t (p3+1) p3 w'->L4R w3 W vals L N n1 (t+1) (p3+1) p3 (w'.setCell ⟨w3.heap.size,t,none⟩ (.int .u64 (z:Nat)))):=Z λ z w' e h=>h.store htn e (e▸HZL.o)
          have HCALL:Hid (∀z w',(valuesN W vals L).getD t 0=z->L4R w3 W vals L N n1 t (p3+1) p3 w'->Calls Tryz.prog 73 #[.agg #[.int .u8 op',.int .u64 num',.slice ha args.length hc],.pointer (some ⟨w.heap.size,0,none⟩),.pointer (some ⟨p3+1,0,none⟩),.pointer (some ⟨p3,0,none⟩)] w' λ e w''=>e= .returned (.int .u64 (z:Nat))/\Below w'.heap.size w' w''):=Z λ z w' e h=>
           h.call HW1.o HW2.o HRV.o.ok htL htn HN.o HCL.o HATA.o hzw HVLEN.o HVL.o HX1.o HAV.o HSM.o e
          generalize(valuesN W vals L).getD t 0=z at*;have hgn:=(HNP2.o.nds.lt (w.heap.size+1) rfl).2;have HS:Hid (∀w',L4R w3 W vals L N n1 t (p3+1) p3 w'->w'.cell? ⟨p3,0,none⟩=some (.slice (some ⟨w3.heap.size,0,none⟩) n1 n1)/\w'.cell? ⟨w.heap.size+1,t*3,none⟩=some (.int .u8 op')/\w'.cell? ⟨w.heap.size+1,t*3+1,none⟩=some (.int .u64 num')/\w'.cell? ⟨w.heap.size+1,t*3+2,none⟩=some (.slice ha args.length hc)/\L4R w3 W vals L N n1 t (p3+1) p3 w'):=Z λ w' h=>
           ⟨h.c3,(h.bel.cell (p:=⟨w.heap.size+1,t*3,none⟩) hgn).trans c0,(h.bel.cell (p:=⟨w.heap.size+1,t*3+1,none⟩) hgn).trans c1,(h.bel.cell (p:=⟨w.heap.size+1,t*3+2,none⟩) hgn).trans c2,h⟩
          clear C3 c0 c1 c2
          go_wp2_with fail
          go_region_held3(λ w'=>w'.cell? ⟨p3,0,none⟩=some (.slice (some ⟨w3.heap.size,0,none⟩) n1 n1)/\w'.cell? ⟨w.heap.size+1,t*3,none⟩=some (.int .u8 op')/\w'.cell? ⟨w.heap.size+1,t*3+1,none⟩=some (.int .u64 num')/\w'.cell? ⟨w.heap.size+1,t*3+2,none⟩=some (.slice ha args.length hc)/\L4R w3 W vals L N n1 t (p3+1) p3 w')
           (first|exact HS.o _ HR.o|exact HS.o _ HR.o.drew|exact HS.o _ KR.o|exact HS.o _ KR.o.drew|exact HS.o _ (HST.o _ _ rfl KR.o).back|exact HS.o _ (HST.o _ _ rfl KR.o.drew).back|exact HS.o _ (‹_/\_/\_/\_/\L4R _ _ _ _ _ _ _ _ _ _›).2.2.2.2|exact HS.o _ (‹_/\_/\_/\_/\L4R _ _ _ _ _ _ _ _ _ _›).2.2.2.2.drew)
           (first
             |(go_at_call 73
               refine(HCALL.o _ _ rfl (‹_/\_/\_/\_/\L4R _ _ _ _ _ _ _ _ _ _›).2.2.2.2).mono ?_;rintro e wB ⟨rfl,hB⟩;have KR:=Z ((‹_/\_/\_/\_/\L4R _ _ _ _ _ _ _ _ _ _›).2.2.2.2.below hB);obtain⟨⟨uw,cw⟩,fw⟩:=KR.o.cell htn))
          all_goals
           have HF:=Z (HST.o _ _ rfl KR.o)
           (try simp only[Exit.inBlock,Exit.then])
           go_wp2_with fail
           go_roundw
           case rel=>exact⟨t+1,by omega,by go_num,Z HF.o⟩
           case measure=>simp[intOf]<;>omega
        ·obtain rfl:t=n1:=by omega
         obtain⟨U,hU1,hU2⟩:=HR.o.u;have HFL:Hid ((ts.map λ x=>(valuesN W vals L).getD x.toNat 0).length=ts.length):=Z (List.length_map _);have HFG:Hid (∀k,k<ts.length->(ts.map λ x=>(valuesN W vals L).getD x.toNat 0).getD k 0=U.getD (ts.getD k 0).toNat 0):=Z λ k hk=>by
          rw[hU1.vals _ (by have:=HZ.o k hk;omega) (HNP2.o.marks k hk),List.getD_eq_getElem?_getD,List.getElem?_map,List.getD_eq_getElem?_getD (l:=ts),List.getElem?_eq_getElem hk];rfl
         have HUL:=Z hU1.len;have HU2:=Z hU2;have HBW5:=Z (HB0.o.trans (HR.o.bel.mono (Nat.le_of_lt hzw)));have hl3:=HR.o.l3;have hg5:=(hU2.lt w3.heap.size rfl).2;have HC3:=Z C3;clear hU1 hU2 C3 HNPi HR;generalize hF:(ts.map λ x=>(valuesN W vals L).getD x.toNat 0)=F at*;have HFE:=Z hF;clear hF;generalize wr=w5 at*
         go_wp2_with(first
          |(refine make_lay Tryz.elemU 0 rfl rfl _ _ rfl w5.heap.size ts.length _ rfl rfl rfl (by omega) w5.heap.size rfl (Nat.le_refl _) ?_
            intro wO hoO hbO;have HOO:=Z hoO;have HBO:=Z hbO;clear hoO hbO))
         go_loopw [123] (λ i wi=>∃k:Nat,k<=ts.length/\i= .int .i64 k/\Hid ((Lay.int .u64).Own 46 wi w5.heap.size (.slice (some ⟨w5.heap.size,0,none⟩) ts.length ts.length) (intsN (F.take k++List.replicate (ts.length-k) 0)))/\Below w5.heap.size w5 wi) (λ i _=>ts.length-(intOf i).toNat)
         case atStart=>exact⟨0,by omega,rfl,Z (by simpa[intsN] using HOO.o),HBO.o⟩
         case round=>
          clear HOO HBO;obtain⟨k,hk,rfl,hou,hbi⟩:=hrel;have HO:=Z hou.o;have HBI:=Z hbi;have c3:=(hbi.cell (p:=⟨p3,0,none⟩) hl3).trans HC3.o;clear hou hbi;by_cases hkm:k<ts.length
          ·obtain⟨ib,io,rfl,hib,hi0⟩:=HA.o.int (i:=k) hkm;have hzz:=HBW5.o.size;have i0:=(HBI.o.cell (p:=⟨ib,io+k,none⟩) (by show ib<_;omega)).trans ((HBW5.o.cell (p:=⟨ib,io+k,none⟩) hib).trans hi0);have hx:=HZ.o k hkm;have HFK:=Z (HFG.o k hkm);have HSF:=Z (set_fill F HFL.o hkm);have hki:(k:Int)<ts.length:=by omega
           clear hi0;generalize ts.getD k 0=x at*;obtain⟨hx0,hx1⟩:=hx;obtain⟨y,rfl⟩:=Int.eq_ofNat_of_zero_le hx0;have hyt:y<t:=by omega
           have hyi:(y:Int)<t:=by omega
           rw[show((y:Nat):Int).toNat=y from rfl] at HFK;have v0:=(HBI.o.cell (p:=⟨w3.heap.size,y,none⟩) hg5).trans (wordCell HU2.o (t:=y) (by rw[intsN_len,HUL.o];exact hyt));rw[intsN_getD,<-HFK.o] at v0;have hIL:(intsN (F.take k++List.replicate (ts.length-k) 0)).length=ts.length:=by rw[intsN_len,List.length_append,List.length_take,List.length_replicate,HFL.o];omega
           have cw:=wordCell HO.o (t:=k) (by rw[hIL];exact hkm);obtain⟨o1,o2,fw⟩:=HO.o.put1 rfl hIL (x:=((F.getD k 0:Nat):Int)) (u:=.int .u64 (F.getD k 0:Nat)) rfl k;rw[<-intsN_set,HSF.o] at o1;have HO2:=Z o1;have HB2:=Z (HBI.o.grown o2 HBI.o.size (λ q hq=>by injection hq with hq;omega));clear o1 o2 hIL;generalize F.getD k 0=z at*;generalize(intsN (F.take k++List.replicate (ts.length-k) 0)).getD k 0=zz at*
           go_wp2_with fail
           go_roundw
           case rel=>exact⟨k+1,by omega,by go_num,Z HO2.o,HB2.o⟩
           case measure=>simp[intOf]<;>omega
          ·obtain rfl:k=ts.length:=by omega
           have HO2:=HO.o;rw[Nat.sub_self,<-HFL.o,List.take_length,List.replicate_zero,List.append_nil,HFL.o] at HO2;have HO3:=Z HO2;clear HO2
           go_wp2_with fail
           go_ret2
           have hzz:=HBW5.o.size;exact⟨_,rfl,by rw[HFE.o];exact HO3.o.lower hzz,HBW5.o.trans (HBI.o.mono hzz)⟩
      |succ t=>
       obtain rfl:x=(t:Int):=by have:=hx.o;omega
       clear hx;have ht:t<n1:=by omega
       have cb:=boolCell HNP2.o.own (t:=t) (by rw[HNP2.o.len];exact ht);have HNbi:=Z (HNP2.o.own.lt nb rfl).2;cases hNt:N.getD t false with
       |false=>
        rw[hNt] at cb;have HSK:=Z (HNP2.o.skip hNt);clear HNP2 hNt
        go_wp2_with fail
        go_roundw
        case rel=>exact⟨(t:Int)-1,t,N,NH,by go_num,Z rfl,by omega,Z HSK.o,HB2.o⟩
        case measure=>simp[intOf]<;>omega
       |true=>
        rw[hNt] at cb;have HNt:=Z hNt;have htL:t<L.length:=by omega
        have HARG:Hid (∀a∈(L.getD t default).args,a<t):=Z (HRV.o.ok t htL).2.2.2.2.2.2;have HNODE:=Z (node75 HRVi.o t htL);have HAL:Hid ((L.getD t default).args.length<=2):=Z (by have:=HRV.o.ok t htL;have h5:=this.2.2.2.2.1;have h6:=this.1;rw[h5];simp only[arN];(repeat' split)<;>omega);clear hNt;rcases hn:L.getD t default with⟨op,num,args⟩
        rw[hn] at HNODE HARG HAL;simp only at HNODE HARG HAL;have hal2:=HAL.o;have HN:=Z hn;clear hn
        go_wp2_with(first
         |(go_at_call 71
           refine HNODE.o.mono ?_;rintro e wB ⟨ha,hc,rfl,hatB,hbB,hB⟩;have HX:Hid (HeadAt wB nb (op,num,(ha,args.length,hc)) (L.getD t default)):=Z (by rw[HN.o];exact⟨rfl,rfl,rfl,hatB,λ ad e=>Nat.lt_of_lt_of_le HNbi.o (hbB ad e)⟩);have HNPB:=Z (HNP2.o.below hB);have HBB:=Z (HB2.o.trans (hB.mono (by omega)));clear hatB hbB hB)
         |(refine store_nd rfl _ _ rfl HNPB.o.nds HNPB.o.hlen (op,num,(ha,args.length,hc)) t ht _ rfl rfl rfl ?_
           intro w5 ho5 hg5;have cA:w5.cell? ⟨w.heap.size+1,t*3+2,none⟩=some (.slice ha args.length hc):=by
            have:=(ndCells ho5 (t:=t) (by rw[List.length_set,HNPB.o.hlen];exact ht)).2.2;rw[getD_set_same _ _ _ _ (by rw[HNPB.o.hlen];exact ht)] at this;exact this
           have HMP:=Z (HNPB.o.copy ht HNt.o HX.o ho5 hg5);have HHA:Hid ((NH.set t (op,num,(ha,args.length,hc))).getD t nd0=(op,num,(ha,args.length,hc))):=Z (getD_set_same _ _ _ _ (by rw[HNPB.o.hlen];exact ht));have HB5:=Z (HBB.o.grown hg5 (by have:=(HNPB.o.nds.lt (w.heap.size+1) rfl).2;omega) (λ q hq=>by injection hq with hq;omega));clear ho5 hg5))
        generalize NH.set t (op,num,(ha,args.length,hc))=NH2 at*
        go_loopw [85] (λ i wj=>∃(k:Nat) (N2:List Bool),k<=args.length/\i= .int .i64 k/\Hid (MarkP wj L ts nb (w.heap.size+1) n1 t k N2 NH2)/\Below (w.heap.size+1) w2 wj) (λ i _=>args.length-(intOf i).toNat)
        case atStart=>exact⟨0,N,by omega,rfl,Z HMP.o,HB5.o⟩
        case round=>
         clear HMP HB5;obtain⟨k,N2,hk,rfl,hmp,hbj⟩:=hrel;have HMP:=Z hmp.o;have HB6:=Z hbj;have hzj:=hbj.size;clear hmp hbj;by_cases hka:k<args.length
         ·have hhd:=(HMP.o.heads t (Nat.le_refl _) ht HMP.o.here).2.2.2.1;rw[HHA.o,HN.o] at hhd;obtain⟨ib,io,rfl,hib,i0⟩:=hhd.int (i:=k) (by rw[intsN_len];exact hka);rw[intsN_getD] at i0;have hxt:=HARG.o (args.getD k 0) (by rw[List.getD_eq_getElem?_getD,List.getElem?_eq_getElem hka];exact List.getElem_mem hka);have HXE:Hid ((L.getD t default).args.getD k 0=args.getD k 0):=Z (by rw[HN.o]);clear hhd;generalize args.getD k 0=y at*;obtain⟨o1,o2,hfz⟩:=HMP.o.own.put1 rfl HMP.o.len (x:=true) (u:=.bool true) rfl y;have hcl:=boolCell HMP.o.own (t:=y) (by rw[HMP.o.len];omega);have HM2:=Z (HMP.o.mark ht HXE.o hxt o1 o2);have HB7:=Z (HB6.o.grown o2 (by omega) (λ q hq=>by injection hq with hq;have:=HMP.o.ne;omega));have hki:(k:Int)<args.length:=by omega
          have hyi:(y:Int)<n1:=by omega
          clear o1 o2
          go_wp2_with fail
          go_roundw
          case rel=>exact⟨k+1,N2.set y true,by omega,by go_num,Z HM2.o,HB7.o⟩
          case measure=>simp[intOf];omega
         ·obtain rfl:k=args.length:=by omega
          have HD:=HMP.o;rw[show args.length=(L.getD t default).args.length by rw[HN.o]] at HD;have HD2:=Z HD.done;clear HD
          go_wp2_with fail
          go_roundw
          case rel=>exact⟨(t:Int)-1,t,N2,NH2,by go_num,Z rfl,by omega,Z HD2.o,HB6.o⟩
          case measure=>simp[intOf]<;>omega
end Go.Proofs.YtgdpkkjfcdhmdaaGreatDoor
