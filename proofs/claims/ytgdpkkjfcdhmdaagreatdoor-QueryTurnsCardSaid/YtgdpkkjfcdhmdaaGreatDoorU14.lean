/- Walk: twin.Term. -/
import Derived.Test.YtgdpkkjfcdhmdaaGreatDoorS0
import Derived.Test.YtgdpkkjfcdhmdaaGreatDoorU12
namespace Go.Proofs.YtgdpkkjfcdhmdaaGreatDoor
open Go Go.RowKit
def TwinP(w:World)(B:Nat)(A:Nat->Prop)(gb mb:Nat)(nv:Value)(W:Nat)(V:Nat->Bool)(L0 L:List Nd)(c t:Nat)(e:Ending)(w':World):Prop:=
 ∃r,SimpPost w B A gb mb nv W r e w'/\St W V L0 r.2 c/\L<+:r.2/\Bec W V r.2 t r.1/\r.1<r.2.length
theorem boxes4(w:World)(a b c d:Value)(t1 t2 t3 t4:TypeId){w4:World}(h:(((w.alloc (.cells #[a] t1)).alloc (.cells #[b] t2)).alloc (.cells #[c] t3)).alloc (.cells #[d] t4)=w4):
  Part w4 w.heap.size [a]/\Part w4 (w.heap.size+1) [b]/\Part w4 (w.heap.size+1+1) [c]/\Part w4 (w.heap.size+1+1+1) [d]/\Below w.heap.size w w4/\w4.heap.size=w.heap.size+4:=by
 subst h;exact⟨(((Part.made (vs:=[a]) rfl).alloc _).alloc _).alloc _,((Part.made (vs:=[b]) (by simp)).alloc _).alloc _,(Part.made (vs:=[c]) (by simp)).alloc _,Part.made (vs:=[d]) (by simp),bel_al (bel_al (bel_al (bel_al (Below.refl _ _) _) _) _) _,by simp⟩
section
variable {u w:World} {lb N:Nat} {up dn:Nat->Nat} {level:Int} {ca:Option Addr} {cc:Nat} {xs:List Int}
set_option maxRecDepth 100000 in
set_option maxHeartbeats 8000000 in
theorem twin27{B:Nat}{A:Nat->Prop}{gb mb:Nat}{nv:Value}{W:Nat}{L0 L:List Nd}{c:Nat}(h:PG w B A gb mb nv W L)(hB:B<=w.heap.size)(h1:1<=W)(h2:W<=64)
  (hu:Below u.heap.size u w)(hub:u.heap.size<=B)(hL:LatC u lb N up dn)(hlv:isB N level=true)(hx:(Lay.int .i64).At 0 u ca xs)(hok:xs.all (isB N)=true)(hx1:1<=xs.length)(hx2:xs.length<=32)
  (hst:St W (visB N up xs level) L0 L c)(hroom:c+L0.length+12<=999)(t:Nat)(ht:t<L0.length)(hev:∀j,Occ L t j->(L.getD j default).op=1->(L.getD j default).num%2=0):
  Calls Tryz.prog 27 #[.pointer (some ⟨gb,0,none⟩),.pointer (some ⟨lb,0,none⟩),.int .i64 level,.slice ca xs.length cc,.int .i64 t] w (TwinP w B A gb mb nv W (visB N up xs level) L0 L c t):=by
 have hLl:L.length<=999:=by have:=hst.len;omega
 have htL:t<L.length:=Nat.lt_of_lt_of_le ht hst.pre.length_le;have HMAY:=Z (λ w' (hb:Below u.heap.size u w')=>may62 (hL.below' hb) hlv (hx.below hb) (cc:=cc) hok hx1 hx2);have HOF:=Z (λ w' (hb:Below u.heap.size u w') n (hn:n<4194304)=>of64 (hL.below' hb) (hx.below hb) hx1 hx2 (level:=level) (cc:=cc) n hn);have HVO:Hid (∀j,Occ L t j->(L.getD j default).op=1->(L.getD j default).num<12/\(L.getD j default).num%2=0):=Z λ j o h=>⟨hst.vok j h,hev j o h⟩
 have HVA:Hid (∀w',Below w.heap.size w w'->Calls Tryz.prog 24 #[.pointer (some ⟨gb,0,none⟩),.slice (some ⟨w'.heap.size,0,none⟩) 1 1] (w'.alloc (.cells #[.int .i64 t] 3)) (VarsR (w'.alloc (.cells #[.int .i64 t] 3)) L [t])):=Z λ w' hb=>
  vars24 ((h.below hb).below ((Below.refl _ _).alloc (Nat.le_refl _) _)).rv [t] (λ j o h=>by have:=(HVO.o j (occS_one.1 o) h).1;omega) (by simpa using htL) (by omega) (by simp) _ 1 (λ e=>by cases e) (Lay.At.made w' (intsN [t]) 3)
 have HP:=Z h;have HU:=Z hu;have HLA:=Z hL;have HX:=Z hx;have HST:=Z hst;have HROOM:=Z hroom;have HTL:=Z htL;have HLL:=Z hLl;have HT0:=Z ht;have HX1:=Z hx1;have HX2:=Z hx2;generalize hV:visB N up xs level=V at*;have HV:=Z hV;clear h hu hL hlv hx hok hst hroom ht htL hLl hev hV hx1 hx2;obtain⟨m,hm⟩:∃m,xs.length=m:=⟨_,rfl⟩
 rw[hm] at HMAY HOF⊢;have HM:=Z hm;clear hm;go_enter Tryz.func27,Tryz.ntmps27
 go_upto_region 1 with fail
 generalize hw4:(((w.alloc (.cells #[.pointer (some ⟨gb,0,none⟩)] 34)).alloc (.cells #[.pointer (some ⟨lb,0,none⟩)] 53)).alloc (.cells #[.int .i64 level] 3)).alloc (.cells #[.slice ca m cc] 24)=w4;obtain⟨q5,q6,q7,q8,qb,qs⟩:=boxes4 w _ _ _ _ _ _ _ _ hw4;have HQ:=Z (And.intro q5 (And.intro q6 (And.intro q7 q8)));have HB4:=Z qb;have c5:=(q5.at_ 0 _ rfl).1;have c6:=(q6.at_ 0 _ rfl).1;have c7:=(q7.at_ 0 _ rfl).1;have c8:=(q8.at_ 0 _ rfl).1;have HM4:=Z (HMAY.o _ (HU.o.trans (qb.mono HU.o.size)));have HS4:=Z qs;clear q5 q6 q7 q8 qb hw4 HMAY qs;generalize hp5:w.heap.size=p5 at*;have HPS:Hid (p5<=p5+1/\p5<=p5+1+1/\p5<=p5+1+1+1):=Z (by omega);generalize p5+1=p6 at*;generalize p6+1=p7 at*;generalize p7+1=p8 at*;have HV4:=Z (HVA.o _ HB4.o)
 go_step3
 go_wp2_with(first
  |(go_at_call 62;refine HM4.o.mono ?_;rintro e w' ⟨rfl,rfl⟩)
  |(go_at_call 24;refine HV4.o.mono ?_;rintro e w6 ⟨v,ys,rfl,q1,q2,q3,q4,q5⟩
    obtain⟨vs,rfl⟩:=vars_nat q2;obtain⟨va,vcap,rfl,qa,_,qm⟩:=q1.at_ (d:=0);rw[intsN_len] at q1 q3;rw[intsN_len];have HY1:=Z q1;have HYA:=Z qa;have HY2:=Z q2;have HY3:=Z q3;have HY4:=Z q4;have HY5:=Z q5;clear q1 q2 q3 q4 q5 qa qm;obtain⟨vn,hvn⟩:∃vn,vs.length=vn:=⟨_,rfl⟩
    rw[hvn] at HY1 HY3;rw[hvn];have HVN:=Z hvn;clear hvn))
 have HW5:Hid (Below p5 w (w4.alloc (.cells #[.int .i64 t] 3))/\(w4.alloc (.cells #[.int .i64 t] 3)).heap.size=p5+5):=Z ⟨HB4.o.alloc (by rw[HS4.o];omega) _,by simp[HS4.o]⟩;have HQ5:=Z (And.intro (HQ.o.1.alloc (.cells #[.int .i64 t] 3)) (And.intro (HQ.o.2.1.alloc (.cells #[.int .i64 t] 3)) (And.intro (HQ.o.2.2.1.alloc (.cells #[.int .i64 t] 3)) (HQ.o.2.2.2.alloc (.cells #[.int .i64 t] 3)))));generalize w4.alloc (.cells #[.int .i64 t] 3)=w5 at*;have HQ6:=Z (And.intro (HQ5.o.1.keep HY5.o) (And.intro (HQ5.o.2.1.keep HY5.o) (And.intro (HQ5.o.2.2.1.keep HY5.o) (HQ5.o.2.2.2.keep HY5.o))));have HW6:Hid (Below p5 w w6):=Z (HW5.o.1.trans (HY5.o.mono (by have:=HW5.o.2;omega)));have HEV:Hid (∀n∈vs,n%2=0/\n<12):=Z λ n hn=>by
  obtain⟨j,o,e1,e2⟩:=(HY2.o (n:Int)).1 (List.mem_map.2 ⟨n,hn,rfl⟩);have:=HVO.o j (occS_one.1 o) e1;omega
 clear HQ HQ5 HM4 HV4 HVA c5 c6 c7 c8;have hvn3:=HY3.o
 go_loopw [45] (λ i wr=>∃k:Nat,k<=vn/\i= .int .i64 k/\wr=w6) (λ i _=>vn-(intOf i).toNat)
 case atStart=>exact⟨0,by omega,rfl,rfl⟩
 case round=>
  obtain⟨k,hk,rfl,rfl⟩:=hrel;by_cases hk0:k<vn
  ·have hki:(k:Int)<vn:=by omega
   obtain⟨tb,to_,rfl,htb,c0⟩:=HYA.o.int (i:=k) (by rw[intsN_len,HVN.o];exact hk0);rw[intsN_getD] at c0;obtain⟨hx2',hx12⟩:=HEV.o _ (getD_mem 0 vs k (by rw[HVN.o];exact hk0));generalize vs.getD k 0=x at*;have t1:Int.tmod (x:Int) 2=0:=by rw[Int.tmod_eq_emod_of_nonneg (by omega)];omega
   have t2:(x:Int)%2=0:=by omega
   have t3:decide ((4194302:Int)<x)=false:=decide_eq_false (by omega);have t4:decide (4194302<x)=false:=decide_eq_false (by omega)
   go_wp2_with fail
   go_roundw
   case rel=>exact⟨k+1,by omega,by go_num,trivial⟩
   case measure=>simp[intOf]<;>omega
  ·obtain rfl:k=vn:=by omega
   clear hk0 hk;have HNV:Hid (∀b,MutB gb (some mb) nv b->b<p5):=Z λ b hb=>by rw[<-hp5];exact(HP.o.lo b hb).2
   have HP6:=Z (HP.o.below (by rw[hp5];exact HW6.o));have HS6:=Z HY5.o.size;generalize wr=w6 at*
   go_wp2_with fail
   go_step3
   go_wp2_with fail
   go_loopw [18,19,60] (λ v1 v2 i wr=>∃(q:Nat) (nvk:Value) (A':Nat->Prop),q<=k/\i= .int .i64 q/\Hid (TwI w6 wr B A A' gb mb nv nvk W V (vs.take q) L v1 v2)) (λ _ _ i _=>k-(intOf i).toNat)
   case atStart=>exact⟨0,nv,noB,by omega,rfl,Z (by rw[List.take_zero];exact TwI.start HP6.o)⟩
   case round=>
    obtain⟨q,nvk,A',hq,rfl,htw⟩:=hrel;have HNB:Hid (∀g,w5.heap.size<=g->g<w6.heap.size->¬MutB gb (some mb) nv g):=Z λ g hg _ hm=>by have:=HNV.o g hm;have:=HW5.o.2;omega
    have HBU:Hid (Below u.heap.size u wr):=Z (((HU.o.trans (HW6.o.mono (by rw[<-hp5];exact HU.o.size)))).trans ((htw.o.run.below (Nat.le_trans hB (by have:=HW6.o.size;rw[<-hp5];exact this)) (λ b hb=>(HP.o.lo b hb).1)).mono hub));have HBW:Hid (B<=wr.heap.size):=Z (Nat.le_trans (Nat.le_trans hB (by have:=HW6.o.size;rw[<-hp5];exact this)) htw.o.run.mt.size);by_cases hqk:q<k
    ·have hqi:(q:Int)<k:=by omega
     obtain⟨tb,to_,rfl,htb,c0⟩:=(Own.at_mut (d:=0) HY1.o htw.o.run.mt HNB.o).int (i:=q) (by rw[intsN_len,HVN.o];exact hqk);rw[intsN_getD] at c0;obtain⟨hx2',hx12⟩:=HEV.o _ (getD_mem 0 vs q (by rw[HVN.o];exact hqk));have HTQ:=Z (take_getD 0 vs q (by rw[HVN.o];exact hqk));generalize vs.getD q 0=x at*;have HOX:=Z (HOF.o wr HBU.o x (by omega));have m5:=HQ6.o.1.written htw.o.run.mt (λ hm=>by have:=HNV.o _ hm;have:=HPS.o;omega);have m6:=HQ6.o.2.1.written htw.o.run.mt (λ hm=>by have:=HNV.o _ hm;have:=HPS.o;omega);have m7:=HQ6.o.2.2.1.written htw.o.run.mt (λ hm=>by have:=HNV.o _ hm;have:=HPS.o;omega);have m8:=HQ6.o.2.2.2.written htw.o.run.mt (λ hm=>by have:=HNV.o _ hm;have:=HPS.o;omega);have c5:=(m5.at_ 0 _ rfl).1;have c6:=(m6.at_ 0 _ rfl).1;have c7:=(m7.at_ 0 _ rfl).1;have c8:=(m8.at_ 0 _ rfl).1;clear m5 m6 m7 m8;cases hvx:V x with
     |true=>
      have htx:twN V x=x:=by unfold twN;rw[hvx];rfl
      rw[htx] at HOX;have HNX:=Z (htw.o.skip hvx);rw[<-HTQ.o] at HNX;clear htw
      go_wp2_with(go_at_call 64;refine HOX.o.mono ?_;rintro e w' ⟨rfl,rfl⟩)
      go_roundw
      case rel=>exact⟨q+1,nvk,A',by omega,by go_num,HNX⟩
      case measure=>simp[intOf]<;>omega
     |false=>
      have htx:twN V x=x+1:=by unfold twN;rw[hvx];rfl
      rw[htx] at HOX;have hfree:∀b,p5<=b->b<w6.heap.size->¬MutB gb (some mb) nvk b:=λ b h1 h2=>htw.o.run.free h2 (λ hm=>by have:=HNV.o _ hm;omega)
      have hsl:(twL V (vs.take q) L).length<=999:=by
       have:=(HST.o.twins (vs:=vs.take q) λ n hn _=>by have:=HEV.o n (List.mem_of_mem_take hn);omega).len;have:=HROOM.o;omega
      have hT:=term63 htw.o.run.pg HBW.o hsl (HLA.o.below' HBU.o) (HX.o.below HBU.o) HX1.o HX2.o (level:=level) (cc:=cc) x (by omega) c5 c6 c7 (by rw[HM.o];exact c8) (hfree _ (Nat.le_refl _) HQ6.o.1.lt) (hfree _ HPS.o.1 HQ6.o.2.1.lt) (hfree _ HPS.o.2.1 HQ6.o.2.2.1.lt) (hfree _ HPS.o.2.2 HQ6.o.2.2.2.lt);rw[HV.o,htx] at hT;have HT:=Z hT;have HFL:Hid (((vs.take q).filter λ n=> !V n).length<=1000):=Z (Nat.le_trans (List.length_filter_le _ _) (by rw[List.length_take];have:=HVN.o;have:=HY3.o;omega));have HTL2:Hid ((twT V (vs.take q) (twL V (vs.take q) L)).length<=1000):=Z (by unfold twT;rw[List.length_map];exact HFL.o);have HVX:=Z hvx;have HWB:Hid (w6.heap.size<=wr.heap.size):=Z htw.o.run.mt.size;clear hT hfree hsl htx hvx HNB HBU;have hbase:∀{M v1 v2 r s wx nvx Ax},TwJ w6 wx B A Ax gb mb nv nvx W M v1 v2 r s->w6.heap.size<=wx.heap.size:=λ h=>h.run.mt.size
      go_wp2_with(first
       |(go_at_call 64;refine HOX.o.mono ?_;rintro e w' ⟨rfl,rfl⟩)
       |(go_at_call 63
         refine HT.o.mono ?_;intro e w7 hq7;obtain⟨nv',A1,rfl,hj⟩:=htw.o.ask hq7;have HJ:=Z hj;clear hj hq7;generalize hnd:ndAt (vN (x+1)) (twL V (vs.take q) L)=y at*;have HND:=Z hnd;clear hnd)
       |(at_builtin
         refine app_keep Tryz.elemI [(y:Int)] rfl _ _ rfl rfl HJ2.o.o2 rfl (by simp) rfl (by rw[intsN_len];have:=HTL2.o;omega) (hbase HJ2.o) ?_;intro v9 w9 r1 r2 r3;have HJ3:=Z ((HJ2.o.keep ((Below.refl _ _).alloc (Nat.le_refl _) _)).app2 (s':=twT V (vs.take q) (twL V (vs.take q) L)++[y]) (by rw[intsN_append];exact r1) r2 (r3.elim .inl λ e=>.inr (by rw[e];simp)));clear r1 r2 r3)
       |(at_builtin
         refine app_keep Tryz.elemI [(x:Int)] rfl _ _ rfl rfl HJ.o.o1 rfl (by simp) rfl (by rw[intsN_len];have:=HFL.o;omega) (hbase HJ.o) ?_;intro v8 w8 r1 r2 r3;have HJ2:=Z ((HJ.o.keep ((Below.refl _ _).alloc (Nat.le_refl _) _)).app1 (r':=((vs.take q).filter λ n=> !V n)++[x]) (by rw[intsN_append];exact r1) r2 (r3.elim .inl λ e=>.inr (by rw[e];simp)));clear r1 r2 r3))
      go_roundw
      case rel=>exact⟨q+1,nv',_,by omega,by go_num,Z (by rw[HTQ.o];exact TwJ.next (by rw[HND.o];exact HJ3.o) HVX.o)⟩
      case measure=>simp[intOf]<;>omega
    ·obtain rfl:q=k:=by omega
     have e1:vs.take q=vs:=by rw[<-HVN.o,List.take_length]
     rw[e1] at htw;have hvs:VarsOf L t vs:=λ n=>by
      have:=HY2.o (n:Int);rw[varInS_one] at this;constructor
      ·intro hn;obtain⟨j,a,b,c⟩:=this.1 (List.mem_map.2 ⟨n,hn,rfl⟩);exact⟨j,a,b,by omega⟩
      ·rintro⟨j,a,b,c⟩;obtain⟨n',h1,h2⟩:=List.mem_map.1 (this.2 ⟨j,a,b,by omega⟩);obtain rfl:n'=n:=by omega
       exact h1
     have hev:∀n∈vs,n+1<12:=λ n hn=>by have:=HEV.o n hn;omega
     have hnd:vs.Nodup:=List.Pairwise.of_map _ (λ a b h e=>h (by rw[e])) (HY4.o HST.o.nd);obtain⟨occ,hocc⟩:∃occ:Nat->Bool,∀j,occ j=true↔Occ L t j:=by
      classical
      exact⟨λ j=>decide (Occ L t j),λ j=>by simp⟩
     have hSO:=sub_ok h1 h2 HST.o HROOM.o HT0.o hvs hev hocc;have hTG:=twin_good h1 h2 HST.o HT0.o hvs hev hocc;obtain⟨fl,hfl⟩:∃fl,(vs.filter λ n=> !V n).length=fl:=⟨_,rfl⟩
     have htl:(twT V vs (twL V vs L)).length=fl:=by unfold twT;rw[List.length_map];exact hfl
     have hm12:fl<=100:=by
      have h3:=List.length_filter_le (λ n=> !V n) vs;have h4:=nodup_lt hnd (n:=12) λ n hn=>by have:=hev n hn;omega
      omega
     obtain⟨a1,cap1,e1v,at1,_⟩:=htw.o.o1.at_ (d:=0);obtain⟨a2,cap2,e2v,at2,_⟩:=htw.o.o2.at_ (d:=0);rw[intsN_len,hfl] at e1v;rw[intsN_len,htl] at e2v;subst e1v e2v;have hS:=subst65 htw.o.run.pg HBW.o h1 h2 t hSO.lt (vs.filter λ n=> !V n) (twT V vs (twL V vs L)) hfl htl hm12 (hnd.filter _) hSO.ts (c:=cap1) (d:=cap2) at1 at2 (λ v hv=>by have:=hev v (List.mem_filter.1 hv).1;omega) (twS V vs (twL V vs L)) occ hSO.occ hSO.sig hSO.room hSO.bl;have HS:Hid (Calls Tryz.prog 65 #[.pointer (some ⟨gb,0,none⟩),.int .i64 t,.slice a1 fl cap1,.slice a2 fl cap2] wr (SimpPost wr B (λ k=>A k\/A' k) gb mb nvk W (twinM W V vs occ t L))):=Z hS;have HTG:=Z hTG;have d5:=((HQ6.o.1.written htw.o.run.mt (λ hm=>by have:=HNV.o _ hm;have:=HPS.o;omega)).at_ 0 _ rfl).1;clear hS hTG hSO at1 at2 hfl htl hm12 hnd hev hvs e1 hocc HNB;generalize twinM W V vs occ t L=R at*
     go_wp2_with(first
      |(go_at_call 65
        refine HS.o.mono ?_;intro e w9 hq9;obtain⟨nv',A1,rfl,hr,_⟩:=htw.o.run.step hq9;have HR:=Z hr;clear hr hq9))
     go_ret2
     refine⟨R,SimpPost.lift (by rw[hp5];exact HW6.o) (HR.o.post R.1),HTG.o⟩
end
end Go.Proofs.YtgdpkkjfcdhmdaaGreatDoor
