/- QueryTurns: both leaks of what was made. -/
import Derived.Test.YtgdpkkjfcdhmdaaGreatDoorS0
import Derived.Test.YtgdpkkjfcdhmdaaGreatDoorU24
import Derived.Test.YtgdpkkjfcdhmdaaGreatDoorU17
import Derived.Test.YtgdpkkjfcdhmdaaGreatDoorU11
import Derived.Test.YtgdpkkjfcdhmdaaGreatDoorU3
import Derived.Test.YtgdpkkjfcdhmdaaGreatDoorU18
import Derived.Test.YtgdpkkjfcdhmdaaGreatDoorU21
import Derived.Test.YtgdpkkjfcdhmdaaGreatDoorU20
import Derived.BigRegion
import Derived.ChangeAlike
namespace Go.Proofs.YtgdpkkjfcdhmdaaGreatDoor
open Go.ChangeShapes Go.WideShapes Go.ChangeAt Go.RowKit
theorem readable31b:Tryz.prog.readableRec 31=true:=by kernel_rfl
theorem row31b:31<Tryz.prog.types.size:=of_decide_eq_true (by kernel_rfl)
section
variable {H:Type} {enc:TypeId×Value->H} {W:World} {base:Nat}
set_option maxRecDepth 100000 in
theorem open_vals2{v:Value}{d:DataW H}{p:List MemPlace}(hv:Value.okWide Tryz.prog W .any base 31 v)(h:DataW.Trod enc Tryz.prog W 0 (λ _=>true) true 31 v d p):
  ∃a n cap xs,v= .slice a n cap/\xs.length=n/\(Lay.int .u64).At 0 W a (intsN xs)/\(∀v∈xs,v<18446744073709551616)/\(a=none->cap=0):=by
 obtain⟨a0,len,cap,rfl⟩:=okWide_slice Tryz.underlying31 hv;obtain⟨fuel,hf⟩:=h;obtain⟨a,len',cap',xs,hcs,h1,h2,h3,h4,h5,h6⟩:=nums_of Tryz.underlying31 Tryz.underlying46 cells46 hf;simp only[Value.cells,List.cons.injEq,Value.slice.injEq,and_true] at hcs;obtain⟨rfl,rfl,rfl⟩:=hcs;have hx:xs=intsN (xs.map Int.toNat):=by
  unfold intsN;rw[List.map_map];refine(List.map_id _).symm.trans (List.map_congr_left λ x hx=> ?_);have:=(bounds_u64 (h6 x hx)).1;simp only[Function.comp,id];rw[Int.toNat_of_nonneg this]
 refine⟨_,_,_,xs.map Int.toNat,rfl,by rw[List.length_map];exact h1,by rw[<-hx];exact h2,λ v hv=> ?_,h3⟩;obtain⟨x,hx,rfl⟩:=List.mem_map.1 hv;have:=bounds_u64 (h6 x hx);omega
end
end Go.Proofs.YtgdpkkjfcdhmdaaGreatDoor
namespace Go.Proofs.YtgdpkkjfcdhmdaaGreatDoor
open Go
def EvenT(L:List Nd)(t:Nat):Prop:=t<L.length/\∀j,Occ L t j->(L.getD j default).op=1->(L.getD j default).num%2=0
theorem even_val{W:Nat}{L:List Nd}(hg:GOk W L)(hv:VOk L){v1 v2:List Nat}(hs:∀n,n<12->n%2=0->varV W v1 n=varV W v2 n){t:Nat}(he:EvenT L t):vAt W v1 L t=vAt W v2 L t:=by
 have:∀j,Occ L t j->vAt W v1 L j=vAt W v2 L j:=by
  intro j
  induction j using Nat.strongRecOn with
  |ind j ih=>
   intro o;have hj:=o.lt hg he.1;have hn:=hg j hj;rw[vAt_node v1 hg hj,vAt_node v2 hg hj];by_cases h0:(L.getD j default).op=0
   ·unfold valN;rw[if_pos h0,if_pos h0]
   ·by_cases h1:(L.getD j default).op=1
    ·rw[valN_var h1,valN_var h1,hs _ (hv j h1) (he.2 j o h1)]
    ·refine Eq.trans (valN_args hn λ a ha=>ih a (hg.arg ha).1 (.arg o ha)) ?_;unfold valN;rw[if_neg h0,if_neg h1,if_neg h0,if_neg h1]
 exact this t .top
section
variable {W:Nat} {L:List Nd} {vals sec vals' sec':List Nat}
theorem begun2_turn(h1:∀t,EvenT L t->vAt W vals' L t=vAt W sec L t)(h2:∀t,EvenT L t->vAt W sec' L t=vAt W vals L t):∀{a b:List (Int×Nat)},(∀x∈a,EvenT L x.2)->(∀x∈b,EvenT L x.2)->(Begun2 W vals' sec' L b a↔Begun2 W vals sec L a b)
 |x::a,y::b,ha,hb=>by
  unfold Begun2;rw[begun2_turn h1 h2 (λ z hz=>ha z (List.mem_cons_of_mem _ hz)) (λ z hz=>hb z (List.mem_cons_of_mem _ hz)),h1 _ (hb y (by simp)),h2 _ (ha x (by simp))];constructor
  ·rintro⟨⟨e1,e2⟩,e3⟩;exact⟨⟨e1.symm,e2.symm⟩,e3⟩
  ·rintro⟨⟨e1,e2⟩,e3⟩;exact⟨⟨e1.symm,e2.symm⟩,e3⟩
 |[],[],_,_=>by unfold Begun2;exact Iff.rfl
 |[],_::_,_,_=>by unfold Begun2;exact Iff.rfl
 |_::_,[],_,_=>by unfold Begun2;exact Iff.rfl
theorem leakF_turn(hg:GOk W L)(hv:VOk L)(hsw:∀n,n<12->n%2=0->varV W vals' n=varV W sec n/\varV W sec' n=varV W vals n){mode sm:Bool}{ac bc:List Nat}{ao bo ar br:List (Int×Nat)}
  (hac:∀x∈ac,EvenT L x)(hbc:∀x∈bc,EvenT L x)(hao:∀x∈ao,EvenT L x.2)(hbo:∀x∈bo,EvenT L x.2)(har:∀x∈ar,EvenT L x.2)(hbr:∀x∈br,EvenT L x.2):
  LeakF W vals' sec' L mode sm bc ac bo ao br ar↔LeakF W vals sec L mode sm ac bc ao bo ar br:=by
 have h1:∀t,EvenT L t->vAt W vals' L t=vAt W sec L t:=λ t he=>even_val hg hv (λ n hn h2=>(hsw n hn h2).1) he
 have h2:∀t,EvenT L t->vAt W sec' L t=vAt W vals L t:=λ t he=>even_val hg hv (λ n hn h2=>(hsw n hn h2).2) he
 unfold LeakF Cmp2;rw[begun2_turn h1 h2 har hbr,begun2_turn h1 h2 hao hbo,show br.length=ar.length↔ar.length=br.length from eq_comm,show bo.length=ao.length↔ao.length=bo.length from eq_comm];have e1:(∀c∈bc,vAt W vals' L c≠0)↔∀c∈bc,vAt W sec L c≠0:=by
  constructor
  ·intro h c hc;rw[<-h1 c (hbc c hc)];exact h c hc
  ·intro h c hc;rw[h1 c (hbc c hc)];exact h c hc
 have e2:(∀c∈ac,vAt W sec' L c≠0)↔∀c∈ac,vAt W vals L c≠0:=by
  constructor
  ·intro h c hc;rw[<-h2 c (hac c hc)];exact h c hc
  ·intro h c hc;rw[h2 c (hac c hc)];exact h c hc
 rw[e1,e2];constructor
 ·rintro⟨a,b,r⟩;exact⟨b,a,r⟩
 ·rintro⟨a,b,r⟩;exact⟨b,a,r⟩
theorem swap_both{V:Nat->Bool}{f:Nat->Nat}(hs:Second W V vals sec)(hs':Second W V vals' sec')(hf:∀n,n<13->varV W vals' n=varV W vals (f n))(hf1:∀n,n%2=0->V n=true->f n=n)(hf2:∀n,n%2=0->V n=false->f n=n+1/\f (n+1)=n):
  ∀n,n<12->n%2=0->varV W vals' n=varV W sec n/\varV W sec' n=varV W vals n:=λ n hn he=>by
 rw[hs n hn,hs' n hn];cases hV:V n with
 |true=>simp only[if_true];rw[hf n (by omega),hf1 n he hV];exact⟨rfl,rfl⟩
 |false=>
  simp only[Bool.false_eq_true,if_false];rw[hf n (by omega),hf (n+1) (by omega),(hf2 n he hV).1,(hf2 n he hV).2];exact⟨rfl,rfl⟩
end
end Go.Proofs.YtgdpkkjfcdhmdaaGreatDoor
namespace Go.Proofs.YtgdpkkjfcdhmdaaGreatDoor
open Go Go.RowKit
section
variable {w:World} {lb N:Nat} {up dn:Nat->Nat} {level:Int} {ca:Option Addr} {cc:Nat} {xs:List Int}
set_option maxRecDepth 100000 in
set_option maxHeartbeats 4000000 in
theorem var43(hL:LatC w lb N up dn)(hlv:isB N level=true)(hx:(Lay.int .i64).At 0 w ca xs)(hok:xs.all (isB N)=true)(h1:1<=xs.length)(h2:xs.length<=32)(n:Nat)(hn:n<4194303)(he:n%2=0):
  Calls Tryz.prog 43 #[.pointer (some ⟨lb,0,none⟩),.int .i64 level,.slice ca xs.length cc,.int .i64 (n:Nat)] w λ e w'=>e= .returned (.tuple #[.int .i64 (twN (visB N up xs level) n:Nat),.int .i64 0])/\w=w':=by
 have HM:=Z (may62 hL hlv hx (cc:=cc) hok h1 h2);have HO:=Z (of64 hL hx h1 h2 (level:=level) (cc:=cc) n (by omega));generalize twN (visB N up xs level) n=y at*;have t1:Int.tmod (n:Int) 2=0:=by rw[Int.tmod_eq_emod_of_nonneg (by omega)];omega
 have t2:(n:Int)%2=0:=by omega
 have t3:decide ((4194302:Int)<n)=false:=decide_eq_false (by omega);have t4:decide (4194302<n)=false:=decide_eq_false (by omega);clear hL hlv hx hok h1 h2 he;generalize xs.length=m at*;go_enter Tryz.func43,Tryz.ntmps43
 go_wp2_with(first
  |(go_at_call 62;refine HM.o.mono ?_;rintro e w' ⟨rfl,rfl⟩)
  |(go_at_call 64;refine HO.o.mono ?_;rintro e w' ⟨rfl,rfl⟩))
 go_ret2
 exact⟨rfl,rfl⟩
end
def swF(V:Nat->Bool)(i:Nat):Nat:=if i%2=0 then twN V i else if V (i-1) then i else i-1
def swL(V:Nat->Bool)(vals:List Nat)(m k:Nat):List Nat:=(List.range m).map λ i=>vals.getD (if i<k then swF V i else i) 0
section
variable {V:Nat->Bool} {vals:List Nat} {m k:Nat}
theorem swL_len:(swL V vals m k).length=m:=by simp[swL]
theorem swL_get{i:Nat}(hi:i<m):(swL V vals m k).getD i 0=vals.getD (if i<k then swF V i else i) 0:=by
 unfold swL;rw[List.getD_eq_getElem?_getD,List.getElem?_map,List.getElem?_range hi];rfl
theorem getD_ext{l r:List Nat}(hl:l.length=r.length)(h:∀i,i<l.length->l.getD i 0=r.getD i 0):l=r:=by
 refine List.ext_getElem hl λ i h1 h2=> ?_
 have:=h i h1;rwa[List.getD_eq_getElem?_getD,List.getD_eq_getElem?_getD,List.getElem?_eq_getElem h1,List.getElem?_eq_getElem h2] at this
theorem swL_zero:swL V vals (vals.length+2) 0=vals++[0,0]:=by
 refine getD_ext (by rw[swL_len];simp) λ i hi=> ?_
 rw[swL_len] at hi;rw[swL_get hi,if_neg (Nat.not_lt_zero _),List.getD_eq_getElem?_getD,List.getD_eq_getElem?_getD];by_cases h:i<vals.length
 ·rw[List.getElem?_append_left h]
 ·rw[List.getElem?_append_right (by omega),List.getElem?_eq_none (by omega)];have:i-vals.length=0\/i-vals.length=1:=by omega
  rcases this with e|e<;>rw[e]<;>rfl
theorem swL_yes(he:k%2=0)(hV:V k=true):swL V vals m (k+2)=swL V vals m k:=by
 refine getD_ext (by rw[swL_len,swL_len]) λ i hi=> ?_
 rw[swL_len] at hi;rw[swL_get hi,swL_get hi];by_cases h:i<k
 ·rw[if_pos h,if_pos (by omega)]
 ·rw[if_neg h];by_cases h2:i<k+2
  ·rw[if_pos h2];unfold swF twN;by_cases h3:i=k
   ·subst h3;rw[if_pos he,if_pos hV]
   ·have h4:i=k+1:=by omega
    subst h4;rw[if_neg (by omega),Nat.add_sub_cancel,if_pos hV]
  ·rw[if_neg h2]
theorem swL_no(he:k%2=0)(hV:V k=false)(hk:k+1<m):swL V vals m (k+2)=((swL V vals m k).set k (vals.getD (k+1) 0)).set (k+1) (vals.getD k 0):=by
 refine getD_ext (by rw[swL_len,List.length_set,List.length_set,swL_len]) λ i hi=> ?_
 rw[swL_len] at hi;rw[swL_get hi];have hg:∀(l:List Nat) (j v:Nat),j<l.length->(l.set j v).getD i 0=if i=j then v else l.getD i 0:=λ l j v hj=>by
  rw[List.getD_eq_getElem?_getD,List.getD_eq_getElem?_getD,List.getElem?_set];by_cases e:i=j
  ·subst e;simp[hj]
  ·rw[if_neg (λ h=>e h.symm),if_neg e]
 rw[hg _ _ _ (by rw[List.length_set,swL_len];exact hk),hg _ _ _ (by rw[swL_len];omega),swL_get hi];by_cases h3:i=k
 ·subst h3;rw[if_pos (by omega),if_neg (by omega),if_pos rfl];unfold swF twN;rw[if_pos he,hV];rfl
 ·by_cases h4:i=k+1
  ·subst h4;rw[if_pos (by omega),if_pos rfl];unfold swF;rw[if_neg (by omega),Nat.add_sub_cancel,hV];rfl
  ·rw[if_neg h4,if_neg h3];by_cases h:i<k
   ·rw[if_pos h,if_pos (by omega)]
   ·rw[if_neg h,if_neg (by omega)]
theorem swL_end(hm:m=vals.length+2)(hk:m<=k+1)(n:Nat):(swL V vals m k).getD n 0=vals.getD (swF V n) 0:=by
 have hz:∀j,vals.length<=j->vals.getD j 0=0:=λ j hj=>by rw[List.getD_eq_getElem?_getD,List.getElem?_eq_none hj];rfl
 have hf:n<=swF V n+1:=by unfold swF twN;split<;>split<;>omega
 by_cases hn:n<m
 ·rw[swL_get hn];by_cases h:n<k
  ·rw[if_pos h]
  ·rw[if_neg h,hz n (by omega),hz _ (by omega)]
 ·rw[hz _ (by omega),List.getD_eq_getElem?_getD,List.getElem?_eq_none (by rw[swL_len];omega)];rfl
theorem swL_le{B:Nat}(hv:∀v∈vals,v<B)(hB:0<B):∀v∈swL V vals m k,v<B:=λ v h=>by
 obtain⟨i,_,rfl⟩:=List.mem_map.1 h;generalize(if i<k then swF V i else i)=j;by_cases hj:j<vals.length
 ·exact hv _ (getD_mem 0 vals j hj)
 ·rw[List.getD_eq_getElem?_getD,List.getElem?_eq_none (by omega)];exact hB
end
section
variable {w:World} {lb N:Nat} {up dn:Nat->Nat} {level:Int} {ca:Option Addr} {cc:Nat} {xs:List Int}
theorem setU{k:IntKind}{e:TypeId}{w:World}{base g n cap:Nat}{xs:List Int}(h:(Lay.int k).Own e w base (.slice (some ⟨g,0,none⟩) n cap) xs){j:Nat}(hj:j<xs.length)(x:Int):
  w.frozen? ⟨g,j,none⟩=false/\(Lay.int k).Own e (w.setCell ⟨g,j,none⟩ (.int k x)) base (.slice (some ⟨g,0,none⟩) n cap) (xs.set j x):=by
 obtain⟨g1,cap1,u1,hv,_,_,h1,h2,_⟩:=Lay.Own.putI h hj x;injection hv with hv _ _;injection hv with hv;injection hv with hv _ _;subst hv;exact⟨h1,h2⟩
theorem meas_two(m k:Nat)(z:Int)(hz:z=(k:Int)+2)(h:k+1<m):m-(intOf (.int .i64 z)).toNat<m-(intOf (.int .i64 (k:Int))).toNat:=by
 subst hz;show m-((k:Int)+2).toNat<m-((k:Int)).toNat;omega
def SwP(w:World)(V:Nat->Bool)(vals:List Nat)(vn:Nat)(e:Ending)(w':World):Prop:=
 ∃l:List Nat,l.length=vn+2/\(∀n,l.getD n 0=vals.getD (swF V n) 0)/\(∀v∈l,v<18446744073709551616)/\∃v,e= .returned v/\(Lay.int .u64).Own 46 w' w.heap.size v (intsN l)/\Below w.heap.size w w'
set_option maxRecDepth 100000 in
set_option maxHeartbeats 8000000 in
theorem swapped15(hL:LatC w lb N up dn)(hlv:isB N level=true)(hx:(Lay.int .i64).At 0 w ca xs)(hok:xs.all (isB N)=true)(h1:1<=xs.length)(h2:xs.length<=32)(vals:List Nat)(vn:Nat)(hvl:vals.length=vn)(h40:vn<=40){va:Option Addr}{vc:Nat}(hnv:va=none->vc=0)(hva:(Lay.int .u64).At 0 w va (intsN vals))(hvb:∀v∈vals,v<18446744073709551616):
  Calls Tryz.prog 15 #[.pointer (some ⟨lb,0,none⟩),.int .i64 level,.slice ca xs.length cc,.slice va vn vc] w (SwP w (visB N up xs level) vals vn):=by
 have HVR:Hid (∀wr k,Below w.heap.size w wr->k<100->k%2=0->Calls Tryz.prog 43 #[.pointer (some ⟨lb,0,none⟩),.int .i64 level,.slice ca xs.length cc,.int .i64 (k:Nat)] wr λ e w'=>e= .returned (.tuple #[.int .i64 (twN (visB N up xs level) k:Nat),.int .i64 0])/\wr=w'):=Z λ wr k hb hk he=>var43 (hL.below' hb) hlv (hx.below hb) hok h1 h2 k (by omega) he
 have HVA:=Z hva;have HNV:=Z hnv;obtain⟨m,hm⟩:∃m,m=vals.length+2:=⟨_,rfl⟩
 have HMV:Hid (m=vn+2):=Z (by omega);have HM:=Z hm;have HVL:=Z hvl;have HVB:=Z hvb;have HMM:Hid (m<=42):=Z (by omega);have HAP:Hid ((intsN vals).length+2<=1000000/\(intsN vals).length=vn):=Z (by rw[intsN_len];omega);have HZ:Hid (intsN vals++[0,0]=intsN (swL (visB N up xs level) vals m 0)):=Z (by rw[hm,swL_zero];simp[intsN]);clear hL hlv hx hok h1 h2 hva hvb hnv hm hvl;generalize visB N up xs level=V at*;generalize xs.length=xn at*;go_enter Tryz.func15,Tryz.ntmps15
 go_wp2_with(first
  |(at_builtin
    refine app_lay_new Tryz.elemU [0,0] rfl _ _ rfl rfl HO1.o rfl rfl HAP.o.1 HS1.o ?_;intro v2 w2 j1 j2;have HO2:=Z j1;have HB2:=Z (HB1.o.trans j2);clear j1 j2)
  |(at_builtin
    refine app_join (d:=0) Tryz.elemU (base:=w.heap.size) rfl _ _ rfl rfl (Lay.Own.nil _ _) rfl HNV.o HAP.o.2 HVA.o (by have:=HAP.o;simp only[List.length_nil];omega) (Nat.le_refl _) ?_;intro v1 w1 j1 j2 j3;rw[List.nil_append] at j1;have HO1:=Z j1;have HB1:=Z ((Below.refl w.heap.size w).grown j2 (Nat.le_refl _) λ k e=>by cases e);have HS1:=Z HB1.o.size;clear j1 j2 j3))
 rw[HZ.o] at HO2;have hlen:∀k,(intsN (swL V vals m k)).length=m:=λ k=>by rw[intsN_len,swL_len]
 obtain⟨g,cap,_,hv,hgb,-⟩:=Lay.Own.putI HO2.o (j:=0) (by rw[hlen];have:=HMV.o;omega) 0;rw[hlen] at hv;subst hv
 go_loopw [10] (λ i wr=>∃k:Nat,k<=m/\k%2=0/\i= .int .i64 k/\Hid ((Lay.int .u64).Own 46 wr w.heap.size (.slice (some ⟨g,0,none⟩) m cap) (intsN (swL V vals m k)))/\Below w.heap.size w wr) (λ i _=>m-(intOf i).toNat)
 case atStart=>exact⟨0,by omega,rfl,rfl,HO2,HB2.o⟩
 case round=>
  clear HO1 HB1 HS1 HO2 HB2;obtain⟨k,hk,he,rfl,hou,hbi⟩:=hrel;have HOU:=Z hou.o;have HBI:=Z hbi;clear hou;by_cases hlt:k+1<m
  ·have HC:=Z (HVR.o wr k hbi (by have:=HMM.o;omega) he);have c0:=wordCell HOU.o (t:=k) (by rw[hlen];omega);have c1:=wordCell HOU.o (t:=k+1) (by rw[hlen];omega);rw[intsN_getD,swL_get (by omega),if_neg (by omega)] at c0 c1;have hki:(k:Int)+1<m:=by omega
   have hk0:(k:Int)<m:=by omega
   have hw1:wrap64 ((k:Int)+1)=(k:Int)+1:=by have:=HMM.o;unfold wrap64;omega
   have hw2:wrap64 ((k:Int)+2)=(k:Int)+2:=by have:=HMM.o;unfold wrap64;omega
   have htn:((k:Int)+1).toNat=k+1:=by omega
   obtain⟨hf1,hown1⟩:=setU HOU.o (j:=k) (by rw[hlen];omega) (vals.getD (k+1) 0:Nat);obtain⟨-,hown2⟩:=setU hown1 (j:=k+1) (by rw[List.length_set,hlen];omega) (vals.getD k 0:Nat);obtain⟨hf2,-⟩:=setU HOU.o (j:=k+1) (by rw[hlen];omega) 0;have HOW:=Z hown2;have HYES:=Z (λ h=>swL_yes (V:=V) (vals:=vals) (m:=m) he h);have HNO:=Z (λ h=>swL_no (V:=V) (vals:=vals) he h hlt);have HE:=Z (And.intro hk (And.intro he hlt));clear hown1 hown2 hbi hk he hlt hlen;generalize vals.getD k 0=x0 at*;generalize vals.getD (k+1) 0=x1 at*;cases hV:V k with
   |true=>
    as_aux_lemma=>
     have HY:=Z (HYES.o hV);have ht:twN V k=k:=by unfold twN;rw[if_pos hV]
     rw[ht] at HC;clear ht hV HYES HNO HOW
     go_wp2_with(go_at_call 43;refine HC.o.mono ?_;rintro e w' ⟨rfl,rfl⟩)
     go_roundw
     case rel=>exact⟨k+2,by have:=HE.o;omega,by have:=HE.o;omega,by go_num,by rw[HY.o];exact HOU,HBI.o⟩
     case measure=>exact meas_two m k _ hw2 HE.o.2.2
   |false=>
    as_aux_lemma=>
     have HN:=HNO.o hV;have hset:∀(l:List Nat) (j v:Nat),intsN (l.set j v)=(intsN l).set j (v:Int):=λ l j v=>by unfold intsN;rw[List.map_set]
     have how:=HOW.o;rw[<-hset,<-hset,<-HN] at how;have HO3:=Z how;have ht:twN V k=k+1:=by unfold twN;rw[hV];rfl
     rw[ht] at HC;clear ht hV HYES HNO HN HOW how hset
     go_wp2_with(go_at_call 43;refine HC.o.mono ?_;rintro e w' ⟨rfl,rfl⟩)
     have HW3:Hid (Below w.heap.size w ((wr.setCell ⟨g,k,none⟩ (.int .u64 (x1:Nat))).setCell ⟨g,k+1,none⟩ (.int .u64 (x0:Nat)))):=Z ((HBI.o.setCell (p:=⟨g,k,none⟩) hgb _).setCell (p:=⟨g,k+1,none⟩) hgb _)
     go_region
     go_wp2_with fail
     go_roundw
     case rel=>exact⟨k+2,by have:=HE.o;omega,by have:=HE.o;omega,by go_num,HO3,HW3.o.drew⟩
     case measure=>exact meas_two m k _ hw2 HE.o.2.2
  ·have HEN:=Z (swL_end (V:=V) (vals:=vals) (m:=m) (k:=k) HM.o (by omega));have HLL:Hid ((swL V vals m k).length=vn+2):=Z (by rw[swL_len];exact HMV.o);have HLE:=Z (swL_le (V:=V) (m:=m) (k:=k) HVB.o (by decide));have hki:¬(k:Int)+1<m:=by omega
   have hw1:wrap64 ((k:Int)+1)=(k:Int)+1:=by have:=HMM.o;unfold wrap64;omega
   clear hk he hlt hlen hbi
   go_wp2_with fail
   go_ret
   exact⟨_,HLL.o,HEN.o,HLE.o,_,rfl,HOU.o,HBI.o⟩
end
theorem second_ex2(W:Nat)(V:Nat->Bool)(vals:List Nat):∃sec,Second W V vals sec:=by
 refine⟨(List.range 12).map λ n=>if V n then vals.getD n 0 else vals.getD (n+1) 0,λ n hn=> ?_⟩;unfold varV;rw[show((List.range 12).map λ n=>if V n then vals.getD n 0 else vals.getD (n+1) 0).getD n 0=if V n then vals.getD n 0 else vals.getD (n+1) 0 by
  rw[List.getD_eq_getElem?_getD,List.getElem?_map,List.getElem?_range hn];rfl]
 split<;>rfl
section
variable {u w:World} {B gb mb:Nat} {A:Nat->Prop} {nv:Value} {W:Nat} {L:List Nd} {lb N:Nat} {up dn:Nat->Nat} {level:Int} {ca:Option Addr} {cc:Nat} {xs:List Int} {sa:Option Addr} {sc:Nat} {ys:List Int} {sb:Nat} {sens:Bool} {p q:PathN}
def LeakV(W:Nat)(L:List Nd)(N:Nat)(up:Nat->Nat)(xs ys:List Int)(level:Int)(sens:Bool)(p q:PathN)(vals sec:List Nat):Prop:=
 LeakF W vals sec L (modeB sens p q) (modeB sens p q||decide (p.st=q.st)) (p.cs.map Int.toNat) (q.cs.map Int.toNat) (seenN N up xs level p.os) (seenN N up xs level q.os) (seenN N up ys level p.rs) (seenN N up ys level q.rs)
def LeakS(w:World)(B:Nat)(A:Nat->Prop)(gb mb:Nat)(nv:Value)(W N:Nat)(up:Nat->Nat)(xs ys:List Int)(level:Int)(L:List Nd)(sens:Bool)(p q:PathN)(e:Ending)(w':World):Prop:=
 ∃(t:Nat) (er:Int) (nv':Value) (A':Nat->Prop) (M:List Nd),e= .returned (.tuple #[.int .i64 (t:Nat),.int .i64 er])/\Run w w' B A A' gb mb nv nv' W M/\L<+:M/\VOk M/\M.Nodup/\M.length<=L.length+192+L.length/\
  (er=0->okB N L.length xs.length ys.length level p q=true/\¬OddV L (termsN p q)/\t<M.length/\∀vals sec,Second W (visB N up xs level) vals sec->(vAt W vals M t≠0↔LeakV W L N up xs ys level sens p q vals sec))
theorem leak_step(hu:Below u.heap.size u w)(hub:u.heap.size<=B)(hB:B<=w.heap.size)(hS:SideAt u sb lb ca cc xs sa sc ys)(hL:LatC u lb N up dn)(hso:sideOk N xs ys=true)(hsen:u.cell? ⟨sb,3,none⟩=some (.bool sens))(hcm:u.cell? ⟨0,0,none⟩=some (.func (Fn.func 209) #[] #[])/\u.cell? ⟨0,1,none⟩=some (.func (Fn.func 210) #[] #[]))
  (hp:p.Ok u)(hps:p.short)(hq:q.Ok u)(hqs:q.short)(h:PG w B A gb mb nv W L)(h1:1<=W)(h2:W<=64)(hv:VOk L)(hn:L.Nodup)(hl:L.length+200+L.length+12<=999):
  Calls Tryz.prog 8 #[.pointer (some ⟨sb,0,none⟩),.pointer (some ⟨gb,0,none⟩),.int .i64 level,p.v,q.v] w (LeakS w B A gb mb nv W N up xs ys level L sens p q):=by
 by_cases hok:okB N L.length xs.length ys.length level p q=true
 ·refine(leak_ok (c:=L.length) (L0:=L) hu hub hB hS hL hso hsen hcm hp hps hq hqs h h1 h2 (St.start _ h.ok hv hn) hl h.ok (λ t _ h=>h) hok).mono ?_;rintro e w5 (⟨_,rfl,hb5⟩|⟨hno,nv',A',M,t,rfl,hrun,hst,ht,hval⟩)
  ·exact⟨0,2,nv,noB,L,rfl,(Run.start h).keep hb5,List.prefix_rfl,hv,hn,by omega,λ h=>by cases h⟩
  ·exact⟨t,0,nv',A',M,rfl,hrun,hst.pre,hst.vok,hst.nd,by have:=hst.len;omega,λ _=>⟨hok,hno,ht,hval⟩⟩
 ·refine(leak_bad hu hS hL hp hps hq hqs h (by simpa using hok)).mono ?_;rintro e w5 ⟨rfl,hb5⟩;exact⟨0,3,nv,noB,L,rfl,(Run.start h).keep hb5,List.prefix_rfl,hv,hn,by omega,λ h=>by cases h⟩
end
theorem LeakF.pre{W:Nat}{L M:List Nd}{vals sec:List Nat}{mode sm:Bool}{ac bc:List Nat}{ao bo ar br:List (Int×Nat)}(h:L<+:M)(hac:∀x∈ac,x<L.length)(hbc:∀x∈bc,x<L.length)(hao:∀x∈ao,x.2<L.length)(hbo:∀x∈bo,x.2<L.length)(har:∀x∈ar,x.2<L.length)(hbr:∀x∈br,x.2<L.length):
  LeakF W vals sec M mode sm ac bc ao bo ar br↔LeakF W vals sec L mode sm ac bc ao bo ar br:=by
 unfold LeakF;rw[Cmp2.pre h har hbr,Cmp2.pre h hao hbo];have e1:∀(vs:List Nat) (l:List Nat),(∀x∈l,x<L.length)->((∀c∈l,vAt W vs M c≠0)↔∀c∈l,vAt W vs L c≠0):=λ vs l hl=>by
  constructor
  ·intro k c hc;rw[<-vAt_pre h (hl c hc)];exact k c hc
  ·intro k c hc;rw[vAt_pre h (hl c hc)];exact k c hc
 rw[e1 _ _ hac,e1 _ _ hbc]
theorem even_of{L:List Nd}{ts:List Nat}(hno:¬OddV L ts)(hlt:∀t∈ts,t<L.length){t:Nat}(ht:t∈ts):EvenT L t:=by
 refine⟨hlt t ht,λ j o h1=> ?_⟩;by_cases h:(L.getD j default).num%2=1
 ·exact absurd ⟨_,⟨j,⟨t,ht,o⟩,h1,rfl⟩,h⟩ hno
 ·omega
theorem even_cs{L:List Nd}{ts:List Nat}(hno:¬OddV L ts)(hlt:∀t∈ts,t<L.length){cs:List Int}(h:∀c∈cs,c.toNat∈ts):∀x∈cs.map Int.toNat,EvenT L x:=λ x hx=>by
 obtain⟨c,hc,rfl⟩:=List.mem_map.1 hx;exact even_of hno hlt (h c hc)
theorem even_seen{L:List Nd}{ts:List Nat}(hno:¬OddV L ts)(hlt:∀t∈ts,t<L.length){N:Nat}{up:Nat->Nat}{zs:List Int}{level:Int}{es:List (Int×Int)}(h:∀o∈es,o.2.toNat∈ts):∀x∈seenN N up zs level es,EvenT L x.2:=λ x hx=>by
 obtain⟨o,ho,rfl⟩:=List.mem_map.1 hx;exact even_of hno hlt (h o (seen_mem ho))
section
variable {W:Nat} {L M:List Nd} {N:Nat} {up:Nat->Nat} {xs ys:List Int} {level:Int} {sens:Bool} {p q:PathN} {vals sec vals' sec':List Nat}
theorem leakV_pre(h:L<+:M)(hno:¬OddV L (termsN p q))(hlt:∀t∈termsN p q,t<L.length):LeakV W M N up xs ys level sens q p vals sec↔LeakV W L N up xs ys level sens q p vals sec:=by
 obtain⟨t1,t2,t3,t4,t5,t6⟩:=terms_os (p:=p) (q:=q);unfold LeakV;exact LeakF.pre h (λ x hx=>(even_cs hno hlt t6 x hx).1) (λ x hx=>(even_cs hno hlt t5 x hx).1) (λ x hx=>(even_seen hno hlt t3 x hx).1) (λ x hx=>(even_seen hno hlt t1 x hx).1) (λ x hx=>(even_seen hno hlt t4 x hx).1) (λ x hx=>(even_seen hno hlt t2 x hx).1)
theorem swF_odd{V:Nat->Bool}{n:Nat}(he:n%2=0):swF V (n+1)=if V n then n+1 else n:=by
 unfold swF;rw[if_neg (by omega),Nat.add_sub_cancel]
theorem leakV_turn(hg:GOk W L)(hv:VOk L)(hno:¬OddV L (termsN p q))(hlt:∀t∈termsN p q,t<L.length){V:Nat->Bool}(hs:Second W V vals sec)(hs':Second W V vals' sec')(hvl:∀n,vals'.getD n 0=vals.getD (swF V n) 0):
  LeakV W L N up xs ys level sens q p vals' sec'↔LeakV W L N up xs ys level sens p q vals sec:=by
 obtain⟨t1,t2,t3,t4,t5,t6⟩:=terms_os (p:=p) (q:=q);have hsw:=swap_both hs hs' (f:=swF V) (λ n _=>by unfold varV;rw[hvl n]) (λ n he hV=>by unfold swF twN;rw[if_pos he,if_pos hV]) (λ n he hV=>by
  rw[swF_odd he];unfold swF twN;rw[if_pos he,hV];exact⟨rfl,rfl⟩)
 have hm:modeB sens q p=modeB sens p q:=by unfold modeB;rw[Bool.or_comm]
 have hd:decide (q.st=p.st)=decide (p.st=q.st):=by rw[Bool.eq_iff_iff,decide_eq_true_eq,decide_eq_true_eq];exact eq_comm
 unfold LeakV;rw[hm,hd];exact leakF_turn hg hv hsw (even_cs hno hlt t5) (even_cs hno hlt t6) (even_seen hno hlt t1) (even_seen hno hlt t3) (even_seen hno hlt t2) (even_seen hno hlt t4)
end
theorem lat14{lv:Int}{oa:Option Addr}{oc:Nat}{ord:List (Int×Int)}{w:World}(hp:PairsAt w oa ord)(hT:Tab w)(h0:3<w.heap.size){N:Nat}(hN:(N:Int)=lv)(hz:(newE lv ord).1=0):
  Calls Tryz.prog 14 #[.int .i64 lv,.slice oa ord.length oc] w λ e w'=>∃(b:Nat) (up dn:Nat->Nat),e= .returned (.tuple #[.pointer (some ⟨b,0,none⟩),.int .i64 0])/\LatC w' b N up dn/\w.heap.size<=b/\b<w'.heap.size/\IsLat N ord up dn/\Below w.heap.size w w':=by
 refine(new_all lv oa ord.length oc w ord rfl hp hT h0).mono λ e w' ⟨_,h2,hb⟩=> ?_
 obtain⟨rfl,hL,hbs⟩:=h2 hz;subst hN;refine⟨_,_,_,rfl,hL,Nat.le_succ _,hbs,?_,hb⟩;have hn:1<=N/\N<=32/\newE (N:Int) ord=newL N ord:=by
  unfold newE at hz⊢;by_cases h1:(N:Int)<1\/32<(N:Int)
  ·rw[if_pos h1] at hz;cases hz
  ·rw[if_neg h1] at hz⊢;by_cases h2:1024<ord.length
   ·rw[if_pos h2] at hz;cases hz
   ·rw[if_neg h2];exact⟨by omega,by omega,rfl⟩
 obtain⟨_,hn2,he⟩:=hn;rw[he] at hz⊢;exact(newL_zero hn2 hz).2
theorem vis_same{N:Nat}{ord:List (Int×Int)}{up dn up' dn':Nat->Nat}(h:IsLat N ord up dn)(h':IsLat N ord up' dn'){xs:List Int}(hx:xs.all (isB N)=true)(h1:1<=xs.length){level:Int}(hl:isB N level=true):visB N up xs level=visB N up' xs level:=by
 funext n
 unfold visB;have hm:n/2%xs.length<xs.length:=Nat.mod_lt _ h1;obtain⟨i,hi,hi2⟩:=isB_nat (List.all_eq_true.1 hx _ (getD_mem 0 xs _ hm));obtain⟨j,hj,hj2⟩:=isB_nat hl;rw[hi,hj,Bool.eq_iff_iff,leB_iff h hi2 hj2,leB_iff h' hi2 hj2]
theorem Mut.wider{S S':Nat->Prop}{w w':World}(h:Mut S w w')(hs:∀k,S k->S' k):Mut S' w w':=⟨h.os,h.tape,h.output,h.size,λ k hk hn=>h.block k hk λ hm=>hn (hs k hm)⟩
def TurnR(g:Nat)(w:World)(xs:List Int)(level:Int)(N:Nat)(up:Nat->Nat)(t s:Nat):Prop:=
 ∃W M,RV w g W M/\1<=W/\W<=64/\t<M.length/\s<M.length/\M.length<=999/\isB N level=true/\∀vals vals':List Nat,(∀n,vals'.getD n 0=vals.getD (swF (visB N up xs level) n) 0)->(vAt W vals M t≠0↔vAt W vals' M s≠0)
theorem both_turn{w0 w2:World}{x:CaseN}{v0 v1 v2 v3:Option Addr}(h:MadeP w0 w2 x v0 v1 v2 v3)(h0:0<w0.heap.size)(hcm:w2.cell? ⟨0,0,none⟩=some (.func (Fn.func 209) #[] #[])/\w2.cell? ⟨0,1,none⟩=some (.func (Fn.func 210) #[] #[])):
  ∃(g N:Nat) (up dn:Nat->Nat),v2=some ⟨g,0,none⟩/\(N:Int)=x.lv/\IsLat N x.ord up dn/\(newE x.lv x.ord).1=0/\x.xs.all (isB N)=true/\1<=x.xs.length/\x.xs.length<=32/\
  ∀w4,Below w2.heap.size w2 w4->Calls Tryz.prog 8 #[.pointer v0,.pointer v2,.int .i64 x.level,x.p.v,x.q.v] w4 λ e w5=>∃(t:Nat) (er:Int),e= .returned (.tuple #[.int .i64 (t:Nat),.int .i64 er])/\Mut (λ k=>w0.heap.size<=k/\k<w2.heap.size) w4 w5/\
  ∀w6,Below w5.heap.size w5 w6->Calls Tryz.prog 8 #[.pointer v0,.pointer v2,.int .i64 x.level,x.q.v,x.p.v] w6 λ e w7=>∃(s:Nat) (fr:Int),e= .returned (.tuple #[.int .i64 (s:Nat),.int .i64 fr])/\Mut (λ k=>(w0.heap.size<=k/\k<w2.heap.size)\/w4.heap.size<=k) w6 w7/\(er=0->fr=0->TurnR g w7 x.xs x.level N up t s):=by
 obtain⟨sb,lb,rb,xb,g,r,N,W,ca1,cc1,sa1,sc1,ca2,cc2,sa2,sc2,up,dn,L,rfl,rfl,rfl,rfl,hs,hc,hs2,hr,hg,hg2,hvo,hl,hx,hp,hq,u,B,hbu,hub,hsu,hlu,hpx,hbw,hnd,hW1,hW2,hso,hw0,hxu,hse,hse2,hN,hI,hz⟩:=h;obtain⟨A,mb,nv,hpg⟩:=hpx;have hu0:0<u.heap.size:=by omega
 have hcu:u.cell? ⟨0,0,none⟩=some (.func (Fn.func 209) #[] #[])/\u.cell? ⟨0,1,none⟩=some (.func (Fn.func 210) #[] #[]):=⟨(hbu.cell (p:=⟨0,0,none⟩) hu0).symm.trans hcm.1,(hbu.cell (p:=⟨0,1,none⟩) hu0).symm.trans hcm.2⟩
 have hmut:∀k,MutB g (some mb) nv k->w0.heap.size<=k/\k<w2.heap.size:=λ k hk=>⟨by have:=(hpg.lo k hk).1;omega,(hpg.lo k hk).2⟩
 have hsk:=hso;unfold sideOk at hsk;simp only[Bool.and_eq_true,decide_eq_true_eq,List.all_append] at hsk;refine⟨g,N,up,dn,rfl,hN,hI,hz,hsk.2.1,hsk.1.1.1,hsk.1.1.2,λ w4 hb=> ?_⟩;have hu4:Below u.heap.size u w4:=hbu.trans (hb.mono hbu.size);refine(leak_step hu4 hub (Nat.le_trans hbw hb.size) hsu hlu hso hse hcu hxu.p hp hxu.q hq (hpg.below hb) hW1 hW2 hvo hnd (by omega)).mono ?_;rintro e w5 ⟨t,er,nv',A',M,rfl,hrun,hpre,hvM,hnM,hlM,hval⟩;refine⟨t,er,rfl,hrun.mt.wider hmut,λ w6 hb6=> ?_⟩;have hu5:Below u.heap.size u w5:=hu4.trans (hrun.mt.below (B:=u.heap.size) (λ k hk=>by have:=(hpg.lo k hk).1;omega) hu4.size);refine(leak_step (hu5.trans (hb6.mono hu5.size)) hub (Nat.le_trans (Nat.le_trans hbw hb.size) (Nat.le_trans hrun.mt.size hb6.size)) hsu hlu hso hse hcu hxu.q hq hxu.p hp (hrun.pg.below hb6) hW1 hW2 hvM hnM (by omega)).mono ?_;rintro e w7 ⟨s,fr,nv2,A2,M2,rfl,hrun2,hpre2,hvM2,hnM2,hlM2,hval2⟩;refine⟨s,fr,rfl,hrun2.mt.wider λ k hm=> ?_,λ he hf=> ?_⟩
 ·rcases mut_new hrun.nb hm with h1|h1
  ·exact .inl (hmut k h1)
  ·exact .inr h1
 ·obtain⟨hok,hno,ht,hv1⟩:=hval he;obtain⟨_,_,hs,hv2⟩:=hval2 hf;have hlt:=(okB_terms hok).2;refine⟨W,M2,hrun2.pg.rv,hW1,hW2,Nat.lt_of_lt_of_le ht hpre2.length_le,hs,by omega,?_,λ vals vals' hvl=> ?_⟩
  ·unfold okB at hok;rw[Bool.and_eq_true] at hok;exact hok.1
  ·obtain⟨sec,hsec⟩:=second_ex2 W (visB N up x.xs x.level) vals;obtain⟨sec',hsec'⟩:=second_ex2 W (visB N up x.xs x.level) vals';rw[vAt_pre hpre2 ht,hv1 vals sec hsec,hv2 vals' sec' hsec',leakV_pre hpre hno hlt,leakV_turn hpg.ok hvo hno hlt hsec hsec' hvl]
end Go.Proofs.YtgdpkkjfcdhmdaaGreatDoor
