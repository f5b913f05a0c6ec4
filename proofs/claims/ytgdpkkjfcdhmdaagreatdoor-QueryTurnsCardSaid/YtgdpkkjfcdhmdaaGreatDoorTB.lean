/- The closed facts of the row, by the kernel, limb by limb. -/
import Derived.Test.YtgdpkkjfcdhmdaaGreatDoorS0
import Derived.Test.YtgdpkkjfcdhmdaaGreatDoorU23
import Derived.Test.YtgdpkkjfcdhmdaaGreatDoorTA
import Derived.Test.YtgdpkkjfcdhmdaaGreatDoorS5
import Derived.Test.YtgdpkkjfcdhmdaaGreatDoorChecked
import Derived.Test.YtgdpkkjfcdhmdaaGreatDoorCards
import Derived.Deep.MidRow
import Derived.Deep.RegionHeld3
import Derived.JoinedCond
import Derived.KernelRfl
namespace Go.Proofs.YtgdpkkjfcdhmdaaGreatDoor
open Go Go.RowKit
theorem tab_of{w:World}(h:Cr.Laid w):Tab w:=by
 obtain⟨cs,e,f,h1,h2⟩:=h.bits;intro i hi;have e1:w.cell? ⟨2,i,none⟩=cs[i]? :=by simp[World.cell?,h1]
 rw[e1,h2 i hi];have e2:(List.range 32).map (λ i=>Cr.dbr[i]?)=(List.range 32).map (λ i=>some (Value.int .u8 (Lib.deBruijn32tab.getD i 0))):=by kernel_rfl
 have e3:=congrArg (λ l=>l[i]?) e2;simpa[List.getElem?_map,List.getElem?_range hi] using e3
theorem cmp_of{w:World}(h:Cr.Laid w):w.cell? ⟨0,0,none⟩=some (.func (Fn.func 209) #[] #[])/\w.cell? ⟨0,1,none⟩=some (.func (Fn.func 210) #[] #[]):=by
 obtain⟨cs,e,f,h1,h2⟩:=h.compare;have e0:∀i,w.cell? ⟨0,i,none⟩=cs[i]? :=λ i=>by simp[World.cell?,h1]
 exact⟨(e0 0).trans ((h2 0 (by decide)).trans rfl),(e0 1).trans ((h2 1 (by decide)).trans rfl)⟩
theorem one_box{w w1:World}{l:List Value}{t:TypeId}(h:w.alloc (.cells l.toArray t)=w1):Below w.heap.size w w1/\Hid (Part w1 w.heap.size l)/\w1.rangeAt w.heap.size 0 l/\w.heap.size<w1.heap.size:=by
 subst h;exact⟨(Below.refl _ _).alloc (Nat.le_refl _) _,Z (Part.new _ _ _),λ j v h=>by rw[Nat.zero_add,World.cell?_alloc_new];simpa using h,by simp⟩
theorem Part.get20{w:World}{b:Nat}{a0 a1 a2 a3 a4 a5 a6 a7 a8 a9 a10 a11 a12 a13 a14 a15 a16 a17 a18 a19 a20 a21:Value}(h:Part w b [a0,a1,a2,a3,a4,a5,a6,a7,a8,a9,a10,a11,a12,a13,a14,a15,a16,a17,a18,a19,a20,a21]):w.cell? ⟨b,2,none⟩=some a2/\w.cell? ⟨b,3,none⟩=some a3/\w.cell? ⟨b,4,none⟩=some a4/\w.cell? ⟨b,5,none⟩=some a5/\w.cell? ⟨b,6,none⟩=some a6/\w.cell? ⟨b,7,none⟩=some a7/\w.cell? ⟨b,8,none⟩=some a8/\w.cell? ⟨b,9,none⟩=some a9/\w.cell? ⟨b,10,none⟩=some a10/\w.cell? ⟨b,11,none⟩=some a11/\w.cell? ⟨b,12,none⟩=some a12/\w.cell? ⟨b,13,none⟩=some a13/\w.cell? ⟨b,14,none⟩=some a14/\w.cell? ⟨b,15,none⟩=some a15/\w.cell? ⟨b,16,none⟩=some a16/\w.cell? ⟨b,17,none⟩=some a17/\w.cell? ⟨b,18,none⟩=some a18/\w.cell? ⟨b,19,none⟩=some a19/\w.cell? ⟨b,20,none⟩=some a20/\w.cell? ⟨b,21,none⟩=some a21:=
 ⟨(h.at_ 2 _ rfl).1,(h.at_ 3 _ rfl).1,(h.at_ 4 _ rfl).1,(h.at_ 5 _ rfl).1,(h.at_ 6 _ rfl).1,(h.at_ 7 _ rfl).1,(h.at_ 8 _ rfl).1,(h.at_ 9 _ rfl).1,(h.at_ 10 _ rfl).1,(h.at_ 11 _ rfl).1,(h.at_ 12 _ rfl).1,(h.at_ 13 _ rfl).1,(h.at_ 14 _ rfl).1,(h.at_ 15 _ rfl).1,(h.at_ 16 _ rfl).1,(h.at_ 17 _ rfl).1,(h.at_ 18 _ rfl).1,(h.at_ 19 _ rfl).1,(h.at_ 20 _ rfl).1,(h.at_ 21 _ rfl).1⟩
theorem LatC.written{S:Nat->Prop}{w w':World}{b n:Nat}{up dn:Nat->Nat}(h:LatC w b n up dn)(hm:Mut S w w')(hn:¬S b):LatC w' b n up dn:=by
 have hb:∀i,w'.cell? ⟨b,i,none⟩=w.cell? ⟨b,i,none⟩:=λ i=>World.cell?_of_block (hm.block b (World.block_lt_of_cell? w _ h.hn) hn)
 exact⟨(hb _).trans h.hn,λ i hi=>(hb _).trans (h.hup i hi),λ i hi=>(hb _).trans (h.hdn i hi),h.bup,h.bdn,h.n32⟩
set_option maxRecDepth 100000 in
set_option maxHeartbeats 16000000 in
theorem queryTurns_law(w:World)(x:CaseN)(hok:x.Ok w)(vals:List Nat)(vn:Nat)(hvl:vals.length=vn){va:Option Addr}{vc:Nat}(hnv:va=none->vc=0)(hva:(Lay.int .u64).At 0 w va (intsN vals))(hvb:∀v∈vals,v<18446744073709551616)(hT:Cr.Laid w)(hA:∀w',Cr.Laid w'->Calls Tryz.prog 7 #[] w' λ e w''=>e= .returned (.bool true)/\Below w'.heap.size w' w''):
  Calls Tryz.prog 5 #[x.v,.slice va vn vc] w λ e w'=>e= .returned (.bool true)/\Below w.heap.size w w':=by
 have HAW:Hid (∀w',Below w.heap.size w w'->Calls Tryz.prog 7 #[] w' λ e w''=>e= .returned (.bool true)/\Below w'.heap.size w' w''):=Z λ w' hb=>hA w' (hT.below hb)
 have HMK:Hid (∀w1,Below w.heap.size w w1->Calls Tryz.prog 6 #[x.v] w1 (MakeP w1 x)):=Z λ w1 hb=>make6 w1 x (hok.below hb) ((tab_of hT).below hb hT.pos) (Nat.lt_of_lt_of_le hT.pos hb.size)
 have HBT:=Z λ w1 w2 v0 v1 v2 v3 (hb1:Below w.heap.size w w1) (hz:w.heap.size<w1.heap.size) (hb:Below w1.heap.size w1 w2) (h:MadeP w1 w2 x v0 v1 v2 v3)=>both_turn h (Nat.lt_of_le_of_lt (Nat.zero_le _) hz) (cmp_of (hT.below (hb1.trans (hb.mono hb1.size))))
 have HL14:=Z λ w3 (hb:Below w.heap.size w w3) (N:Nat) (hN:(N:Int)=x.lv) (hz:(newE x.lv x.ord).1=0)=>lat14 (oc:=x.oc) (PairsAt.below hok.ord hb) ((tab_of hT).below hb hT.pos) (Nat.lt_of_lt_of_le hT.pos hb.size) hN hz
 have HSW:=Z λ w8 (hb:Below w.heap.size w w8) (l2 N:Nat) (up2 dn2:Nat->Nat) (hL:LatC w8 l2 N up2 dn2) (hlv:isB N x.level=true) (hxa:x.xs.all (isB N)=true) (h1:1<=x.xs.length) (h2:x.xs.length<=32) (h40:vn<=40)=>swapped15 (cc:=x.cc) hL hlv (hok.cx.below hb) hxa h1 h2 vals vn hvl h40 hnv (hva.below hb) hvb
 have HEV:=Z λ w5 (g W:Nat) (M:List Nd) (t:Nat) (hb:Below w.heap.size w w5) (hr:RV w5 g W M) (h1:1<=W) (h2:W<=64) (ht:t<M.length) (hl:M.length<=999) (h40:vn<=40)=>eval11 hr h1 h2 t ht hl vals hvl (by omega) (hva.below hb) hvb (d:=vc)
 obtain⟨x0,hx0⟩:∃x0,x0=x:=⟨_,rfl⟩
 have HPOST:Hid (∀w1,MakeP w1 x=MakeP w1 x0):=Z (by rw[hx0];exact λ _=>rfl);have HPO2:Hid (∀w1 w' v0 v1 v2 v3,MadeP w1 w' x0 v0 v1 v2 v3->MadeP w1 w' x v0 v1 v2 v3):=Z (by rw[hx0];exact λ _ _ _ _ _ _ h=>h);clear hx0 hok hT hA hvl hva hvb hnv;obtain⟨Wd,na,nc,qs,lv,oa,oc,ord,ca,cc,xs,sa,sc,ys,sens,level,⟨pca,pcc,pcs,pst,psp,poa,poc,pos,pra,prc,prs,pba,pbc,pbs,pia,pic,pis⟩,⟨qca,qcc,qcs,qst,qsp,qoa,qoc,qos,qra,qrc,qrs,qba,qbc,qbs,qia,qic,qis⟩⟩:=x;have hv:CaseN.v ⟨Wd,na,nc,qs,lv,oa,oc,ord,ca,cc,xs,sa,sc,ys,sens,level,⟨pca,pcc,pcs,pst,psp,poa,poc,pos,pra,prc,prs,pba,pbc,pbs,pia,pic,pis⟩,⟨qca,qcc,qcs,qst,qsp,qoa,qoc,qos,qra,qrc,qrs,qba,qbc,qbs,qia,qic,qis⟩⟩= .agg #[.int .i64 Wd,.slice na qs.length nc,.int .i64 lv,.slice oa ord.length oc,.slice ca xs.length cc,.slice sa ys.length sc,.bool sens,.int .i64 level,.slice pca pcs.length pcc,.int .u8 pst,.int .i64 psp,.slice poa pos.length poc,.slice pra prs.length prc,.slice pba pbs.length pbc,.slice pia pis.length pic,.slice qca qcs.length qcc,.int .u8 qst,.int .i64 qsp,.slice qoa qos.length qoc,.slice qra qrs.length qrc,.slice qba qbs.length qbc,.slice qia qis.length qic]:=rfl;have hp:PathN.v ⟨pca,pcc,pcs,pst,psp,poa,poc,pos,pra,prc,prs,pba,pbc,pbs,pia,pic,pis⟩= .agg #[.slice pca pcs.length pcc,.int .u8 pst,.int .i64 psp,.slice poa pos.length poc,.slice pra prs.length prc,.slice pba pbs.length pbc,.slice pia pis.length pic]:=rfl;have hq:PathN.v ⟨qca,qcc,qcs,qst,qsp,qoa,qoc,qos,qra,qrc,qrs,qba,qbc,qbs,qia,qic,qis⟩= .agg #[.slice qca qcs.length qcc,.int .u8 qst,.int .i64 qsp,.slice qoa qos.length qoc,.slice qra qrs.length qrc,.slice qba qbs.length qbc,.slice qia qis.length qic]:=rfl;rw[hv] at HMK⊢;dsimp only at HBT HL14 HSW;rw[hp,hq] at HBT;clear hv hp hq;simp only[HPOST.o] at HMK;clear HPOST;go_enter Tryz.func5,Tryz.ntmps5
 go_upto_region 1 with fail
 generalize hw1:w.alloc (.cells #[.int .i64 Wd,.slice na qs.length nc,.int .i64 lv,.slice oa ord.length oc,.slice ca xs.length cc,.slice sa ys.length sc,.bool sens,.int .i64 level,.slice pca pcs.length pcc,.int .u8 pst,.int .i64 psp,.slice poa pos.length poc,.slice pra prs.length prc,.slice pba pbs.length pbc,.slice pia pis.length pic,.slice qca qcs.length qcc,.int .u8 qst,.int .i64 qsp,.slice qoa qos.length qoc,.slice qra qrs.length qrc,.slice qba qbs.length qbc,.slice qia qis.length qic] 30)=w1 at*;obtain⟨hb1,HQ1,hra,hz1⟩:=one_box hw1;have HB1':=Z hb1;have HRA:=Z hra;have HZ1:=Z hz1;have HM1:=Z (HMK.o w1 hb1);clear hw1 hb1 hra hz1 HMK
 go_wp2_with(first|(refine wpList_load_mid rfl 30 (.tmp 2) rfl w.heap.size 0 rfl _ _ HRA.o Tryz.underlying30 rfl (by kernel_rfl) ?_)|(go_at_call 6;refine HM1.o.mono ?_))
 intro e w2 hM;obtain⟨fits,v0,v1,v2,v3,rfl,hb2,hM⟩:=hM
 go_upto_region 2 with fail
 generalize hw3:w2.alloc (.cells #[.pointer v0,.pointer v1,.pointer v2,.pointer v3] 37)=w3 at*;obtain⟨hb3,HMB,_,hz3⟩:=one_box hw3;have HB2:=Z hb2;have HW2:=Z (HB1'.o.trans (hb2.mono HB1'.o.size));have HB3:=Z hb3;have HZ3:=Z hz3;have HW3:=Z (HW2.o.trans (hb3.mono HW2.o.size));have HQ3:=Z (HQ1.o.keep (hb2.trans (hb3.mono hb2.size)));clear hb2 hb3 hz3 hw3 HQ1 HRA HM1;by_cases hv40:vn<=40
 ·have t40:decide ((40:Int)<vn)=false:=by simp;omega
  cases fits with
  |false=>
   clear hM
   go_wp2_with(go_at_call 7;refine(HAW.o _ HW3.o).mono ?_;rintro e w9 ⟨rfl,hb9⟩;have HW9:=Z (HW3.o.trans (hb9.mono HW3.o.size));clear hb9)
   go_ret
   exact⟨rfl,HW9.o⟩
  |true=>
   obtain⟨g,N,up,dn,rfl,hN,hI,hz,hxa,hx1,hx32,h8⟩:=HBT.o _ _ _ _ _ _ HB1'.o HZ1.o HB2.o (HPO2.o _ _ _ _ _ _ (hM rfl));have H14:=Z (HL14.o w3 HW3.o N hN hz);have H8:=Z h8;have HI:=Z hI;have HSW2:=Z λ w8 hb l2 up2 dn2 hL hlv=>HSW.o w8 hb l2 N up2 dn2 hL hlv hxa hx1 hx32 hv40
   have HXA:=Z (And.intro hxa (And.intro hx1 hx32));clear h8 hM hN hI hz hxa hx1 hx32 HBT HL14 HPO2 HSW;obtain⟨e2,e3,e4,e5,e6,e7,e8,e9,e10,e11,e12,e13,e14,e15,e16,e17,e18,e19,e20,e21⟩:=HQ3.o.get20;have n0:=(HMB.o.at_ 0 _ rfl).1;have n2:=(HMB.o.at_ 2 _ rfl).1
   go_upto_region 9 with(first
    |(go_at_call 8
      refine(H8b.o w5 (Below.refl _ _)).mono ?_;rintro e w7 ⟨s,fr,rfl,hm2,hres⟩;have HM7:=Z hm2;have HRE:=Z hres;clear hm2 hres)
    |(go_at_call 8
      refine(H8.o w4 HB24.o).mono ?_;rintro e w5 ⟨t,er,rfl,hm1,h8b⟩;have HM5:=Z hm1;have H8b:=Z h8b;obtain⟨k2,k3,k4,k5,k6,k7,k8,k9,k10,k11,k12,k13,k14,k15,k16,k17,k18,k19,k20,k21⟩:=(HQ4.o.written hm1 (λ h=>absurd h.1 (Nat.not_le_of_lt HZ1.o))).get20;have m5:=HMB4.o.written hm1 (λ h=>absurd h.2 (Nat.lt_irrefl _));have p0:=(m5.at_ 0 _ rfl).1;have p2:=(m5.at_ 2 _ rfl).1;clear hm1 h8b m5)
    |(go_at_call 14
      refine H14.o.mono ?_;rintro e w4 ⟨b,up2,dn2,rfl,hL4,hlb,hbl,hI2,hb4⟩;have HL4:=Z hL4;have HLB:=Z (And.intro hlb hbl);have HI2:=Z hI2;have HB24:=Z (HB3.o.trans (hb4.mono HB3.o.size));have HW4:=Z (HW3.o.trans (hb4.mono HW3.o.size));have HQ4:=Z (HQ3.o.keep hb4);have HMB4:=Z (HMB.o.keep hb4);obtain⟨l2,l3,l4,l5,l6,l7,l8,l9,l10,l11,l12,l13,l14,l15,l16,l17,l18,l19,l20,l21⟩:=HQ4.o.get20;have o0:=(HMB4.o.at_ 0 _ rfl).1;have o2:=(HMB4.o.at_ 2 _ rfl).1;clear hL4 hlb hbl hI2 hb4))
   have HW5:=Z (HW4.o.trans (HM5.o.below (B:=w.heap.size) (λ k hk=>Nat.le_trans (Nat.le_of_lt HZ1.o) hk.1) HW4.o.size));have HW7:=Z (HW5.o.trans (HM7.o.below (B:=w.heap.size) (λ k hk=>hk.elim (λ h=>Nat.le_trans (Nat.le_of_lt HZ1.o) h.1) λ h=>Nat.le_trans HW4.o.size h) HW5.o.size));have hzz:w2.heap.size<w3.heap.size/\w3.heap.size<=w4.heap.size/\w.heap.size<w4.heap.size/\w3.heap.size<=b/\b<w4.heap.size:=⟨HZ3.o,Nat.le_of_lt (Nat.lt_of_le_of_lt HLB.o.1 HLB.o.2),Nat.lt_of_lt_of_le (Nat.lt_of_le_of_lt HW3.o.size (Nat.lt_of_le_of_lt HLB.o.1 HLB.o.2)) (Nat.le_refl _),HLB.o.1,HLB.o.2⟩
   have q7:=(HQ4.o.written HM5.o (λ h=>absurd h.1 (Nat.not_le_of_lt HZ1.o))).written HM7.o (λ h=>h.elim (λ h=>absurd h.1 (Nat.not_le_of_lt HZ1.o)) λ h=>absurd h (Nat.not_le_of_lt hzz.2.2.1));have m7:=(HMB4.o.written HM5.o (λ h=>absurd h.2 (Nat.lt_irrefl _))).written HM7.o (λ h=>h.elim (λ h=>absurd h.2 (Nat.lt_irrefl _)) λ h=>absurd h (by omega));have HL7:=Z ((HL4.o.written HM5.o (λ h=>absurd h.2 (by omega))).written HM7.o (λ h=>h.elim (λ h=>absurd h.2 (by omega)) λ h=>absurd h (by omega)));have HQ7:=Z q7;have HMB7:=Z m7;clear hzz q7 m7 HL4 HM5 HM7 HQ4 HMB4 H8 H8b H14;by_cases c1:er=0
   ·subst c1;by_cases c2:fr=0
    ·subst c2;obtain⟨W,M,r1,r2,r3,r4,r5,r6,r7,r8⟩:=HRE.o rfl rfl;have HRV:=Z r1;have HE1:=Z (HEV.o _ _ _ _ _ HW7.o r1 r2 r3 r4 r6 hv40);have hvis:=vis_same HI.o HI2.o HXA.o.1 HXA.o.2.1 r7;rw[hvis] at r8;have HTU:=Z r8;have HSW3:=Z λ w8 (h7:Below w7.heap.size w7 w8)=>HSW2.o w8 (HW7.o.trans (h7.mono HW7.o.size)) b up2 dn2 (HL7.o.below' h7) r7
     have HE2:=Z λ(l:List Nat) w8 a c (h7:Below w7.heap.size w7 w8) (hl:l.length=vn+2) (hat:(Lay.int .u64).At 0 w8 a (intsN l)) (hb:∀v∈l,v<18446744073709551616)=>eval11 (r1.below h7) r2 r3 s r5 r6 l hl (by omega) hat hb (d:=c)
     clear r1 r2 r3 r4 r5 r6 r7 r8 hvis HSW2 HRE HI HI2;obtain⟨x2,x3,x4,x5,x6,x7,x8,x9,x10,x11,x12,x13,x14,x15,x16,x17,x18,x19,x20,x21⟩:=HQ7.o.get20;have y2:=(HMB7.o.at_ 2 _ rfl).1;generalize visB N up2 xs level=V at*;generalize hav:vAt W vals M t=av at*;have HAV:=Z hav;clear hav
     go_upto_region 12 with(go_at_call 11;refine HE1.o.mono ?_;rintro e w8 ⟨rfl,hb8⟩;have HB8:=Z hb8;have HQ8:=Z (HQ7.o.keep hb8);have HMB8:=Z (HMB7.o.keep hb8);clear hb8)
     clear x2 x3 x4 x5 x6 x7 x8 x9 x10 x11 x12 x13 x14 x15 x16 x17 x18 x19 x20 x21 y2;have HS:Hid (∀w',Below w8.heap.size w8 w'->w'.cell? ⟨w2.heap.size,2,none⟩=some (.pointer (some ⟨g,0,none⟩))/\w'.cell? ⟨w.heap.size,7,none⟩=some (.int .i64 level)/\w'.cell? ⟨w.heap.size,4,none⟩=some (.slice ca xs.length cc)/\Below w8.heap.size w8 w'):=Z λ w' hb=>⟨((HMB8.o.keep hb).at_ 2 _ rfl).1,((HQ8.o.keep hb).at_ 7 _ rfl).1,((HQ8.o.keep hb).at_ 4 _ rfl).1,hb⟩
     go_region_held3(λ w'=>w'.cell? ⟨w2.heap.size,2,none⟩=some (.pointer (some ⟨g,0,none⟩))/\w'.cell? ⟨w.heap.size,7,none⟩=some (.int .i64 level)/\w'.cell? ⟨w.heap.size,4,none⟩=some (.slice ca xs.length cc)/\Below w8.heap.size w8 w')
      (first|exact HS.o _ (Below.refl _ _)|exact HS.o _ (Below.refl _ _).drew|exact HS.o _ KB.o|exact HS.o _ KB.o.drew|exact HS.o _ KA.o|exact HS.o _ KA.o.drew|exact HS.o _ (‹_/\_/\_/\Below _ _ _›).2.2.2|exact HS.o _ (‹_/\_/\_/\Below _ _ _›).2.2.2.drew)
      (first
        |(go_at_call 11
          refine(HE2.o l _ _ _ (HB8.o.trans (KA.o.mono HB8.o.size)) HLL.o HLA.o HLX.o).mono ?_;rintro e wB ⟨rfl,hb⟩;have KB:=Z (KA.o.trans (hb.mono KA.o.size));clear hb)
        |(go_at_call 15
          have hcur:=(‹_/\_/\_/\Below _ _ _›).2.2.2;refine(HSW3.o _ (HB8.o.trans (hcur.mono HB8.o.size))).mono ?_;rintro e wA ⟨l,hl,hlg,hlx,v,rfl,ho,hb⟩;obtain⟨la,lc,rfl,hat,_,_⟩:=ho.atBase (d:=0);rw[intsN_len,hl];have KA:=Z (hcur.trans (hb.mono hcur.size));have HLL:=Z hl;have HLG:=Z hlg;have HLX:=Z hlx;have HLA:=Z hat;clear hl hlg hlx hat hb ho hcur))
     all_goals
      have hiff:=HTU.o vals l HLG.o;rw[HAV.o] at hiff;have HWB:=Z (HW7.o.trans ((HB8.o.trans (KB.o.mono HB8.o.size)).mono HW7.o.size));generalize vAt W l M s=bv at*;by_cases a0:av=0
      ·have b0:bv=0:=Classical.byContradiction λ h=>(hiff.2 h) a0
       subst a0 b0;clear hiff HTU HAV HE1 HE2
       go_wp2_with(go_at_call 7;refine(HAW.o _ HWB.o).mono ?_;rintro e w9 ⟨rfl,hb9⟩;have HW9:=Z (HWB.o.trans (hb9.mono HWB.o.size));clear hb9)
       go_ret
       exact⟨rfl,HW9.o⟩
      ·have b0:bv≠0:=hiff.1 a0;have a1:(((av:Nat):Int)==0)=false:=by simpa using a0
       have a2:(((av:Nat):Int) !=0)=true:=by simpa using a0
       have b1:(((bv:Nat):Int)==0)=false:=by simpa using b0
       have b2:(((bv:Nat):Int) !=0)=true:=by simpa using b0
       clear hiff HTU HAV HE1 HE2
       go_wp2_with(go_at_call 7;refine(HAW.o _ HWB.o).mono ?_;rintro e w9 ⟨rfl,hb9⟩;have HW9:=Z (HWB.o.trans (hb9.mono HWB.o.size));clear hb9)
       go_ret
       exact⟨rfl,HW9.o⟩
    ·have c3:(fr==0)=false:=by simpa using c2
     have c4:(fr !=0)=true:=by simpa using c2
     go_wp2_with(go_at_call 7;refine(HAW.o _ HW7.o).mono ?_;rintro e w9 ⟨rfl,hb9⟩;have HW9:=Z (HW7.o.trans (hb9.mono HW7.o.size));clear hb9)
     go_ret
     exact⟨rfl,HW9.o⟩
   ·have c3:(er==0)=false:=by simpa using c1
    have c4:(er !=0)=true:=by simpa using c1
    go_wp2_with(go_at_call 7;refine(HAW.o _ HW7.o).mono ?_;rintro e w9 ⟨rfl,hb9⟩;have HW9:=Z (HW7.o.trans (hb9.mono HW7.o.size));clear hb9)
    go_ret
    exact⟨rfl,HW9.o⟩
 ·have t40:decide ((40:Int)<vn)=true:=by simp;omega
  clear hM hv40
  go_wp2_with(go_at_call 7;refine(HAW.o _ HW3.o).mono ?_;rintro e w9 ⟨rfl,hb9⟩;have HW9:=Z (HW3.o.trans (hb9.mono HW3.o.size));clear hb9)
  go_ret
  exact⟨rfl,HW9.o⟩
end Go.Proofs.YtgdpkkjfcdhmdaaGreatDoor
namespace Go.Proofs.YtgdpkkjfcdhmdaaGreatDoor.QueryTurns
open Go Go.ChangeShapes Go.WideShapes
set_option maxRecDepth 100000
theorem and_t{a b:Bool}(h:a=true)(k:b=true):(a&&b)=true:=by rw[h,k];rfl
theorem q0:Rows.queryTurnsRow.wf (OpenSpec.ofChange (OpenSpec.ofChange Rows.queryTurnsSpec).bare)=true:=by kernel_rfl
theorem q1:laidOutB Tryz.pinned.checked.prog=true:=by kernel_rfl
theorem q2:mapsRowed Tryz.pinned.checked.prog=true:=by kernel_rfl
theorem q3:Tryz.f5.params.all (Tryz.pinned.checked.prog.readableRec ·)=true:=by kernel_rfl
theorem q4:namedTie Tryz.pinned.checked.prog Rows.queryTurnsRow.named (OpenSpec.ofChange Rows.queryTurnsSpec).bare.vars=true:=by kernel_rfl
theorem q5:(Rows.queryTurnsRow.stops==[])=true:=by kernel_rfl
theorem q6:(Tryz.pinned.checked.prog.stops==[])=true:=by kernel_rfl
theorem q7:(Rows.queryTurnsRow.knobs==[])=true:=by kernel_rfl
theorem q8:(Tryz.pinned.checked.prog.stopKnobs==[])=true:=by kernel_rfl
theorem q9:(Rows.queryTurnsRow.inPlace==Tryz.pinned.checked.prog.inPlace 5)=true:=by kernel_rfl
theorem q10:(Rows.queryTurnsRow.unfollowed==Tryz.pinned.checked.prog.unfollowed 5)=true:=by kernel_rfl
theorem q11:(Rows.queryTurnsRow.recurses==Tryz.pinned.checked.prog.recurses 5)=true:=by kernel_rfl
theorem q12:(Rows.queryTurnsRow.named==Tryz.pinned.checked.prog.varsNamed 5)=true:=by kernel_rfl
theorem q13:(Rows.queryTurnsRow.maps==(Tryz.f5.params.toList++(OpenSpec.ofChange Rows.queryTurnsSpec).bare.plain.varTypes Tryz.pinned.checked.prog).any (Tryz.pinned.checked.prog.mapsRec ·))=true:=by kernel_rfl
theorem q14:(Rows.queryTurnsRow.ifaces==(Tryz.f5.params.toList++(OpenSpec.ofChange Rows.queryTurnsSpec).bare.plain.varTypes Tryz.pinned.checked.prog).any (Tryz.pinned.checked.prog.ifacesRec ·))=true:=by kernel_rfl
theorem q15:(Rows.queryTurnsRow.mapsOut==Tryz.pinned.checked.prog.mapsAmong Tryz.f5.resultTypes.toList)=true:=by kernel_rfl
theorem q16:(Rows.queryTurnsRow.loops==(Tryz.f5.params.toList++(OpenSpec.ofChange Rows.queryTurnsSpec).bare.plain.varTypes Tryz.pinned.checked.prog).any (Tryz.pinned.checked.prog.loopsFrom ·))=true:=by kernel_rfl
theorem q17:(Rows.queryTurnsRow.wideKeys==(Tryz.f5.params.toList++(OpenSpec.ofChange Rows.queryTurnsSpec).bare.plain.varTypes Tryz.pinned.checked.prog++Tryz.f5.resultTypes.toList).any (Tryz.pinned.checked.prog.wideKeysFrom ·))=true:=by kernel_rfl
theorem q18:(OpenSpec.ofChange Rows.queryTurnsSpec).bare.vars.all (Tryz.pinned.checked.prog.varReadable ·)=true:=by kernel_rfl
theorem q19:Tryz.f5.resultTypes.all (λ t=>Tryz.pinned.checked.prog.readableRec t&&decide (t<Tryz.pinned.checked.prog.types.size))=true:=by kernel_rfl
theorem q20:(Rows.queryTurnsRow.ifacesOut==Tryz.f5.resultTypes.toList.any (Tryz.pinned.checked.prog.ifacesRec ·))=true:=by kernel_rfl
theorem q21:(Rows.queryTurnsRow.loopsOut==Tryz.f5.resultTypes.toList.any (Tryz.pinned.checked.prog.loopsFrom ·))=true:=by kernel_rfl
theorem q22:(Rows.queryTurnsRow.plainKeys==Tryz.pinned.checked.prog.plainKeys)=true:=by kernel_rfl
theorem q23:Rows.queryTurnsRow.shortTexts.isNone=true:=by kernel_rfl
theorem q24:Tryz.pinned.checked.prog.stopsHeard=true:=by kernel_rfl
theorem q25:Tryz.pinned.checked.prog.mayEnter=true:=by kernel_rfl
theorem q26:(Rows.queryTurnsRow.lifted==Tryz.pinned.checked.prog.liftsFinal)=true:=by kernel_rfl
theorem q27:(Tryz.pinned.checked.prog.make==some Rows.queryTurnsRow.make)=true:=by kernel_rfl
theorem q28:(Rows.queryTurnsRow.kinds==(if Rows.queryTurnsRow.domain.isEmpty then[] else Tryz.f5.params.toList.map λ t=>match Tryz.pinned.checked.prog.underlying t with|some (.int k)=>some k|_=>none))=true:=by kernel_rfl
theorem q29:(Rows.queryTurnsRow.pinned==Rows.queryTurnsRow.pinnedBy)=true:=by kernel_rfl
theorem q30:(Rows.queryTurnsRow.veiled==(Tryz.f5.params.toList++(OpenSpec.ofChange Rows.queryTurnsSpec).bare.plain.varTypes Tryz.pinned.checked.prog++Tryz.f5.resultTypes.toList).any (Tryz.pinned.checked.prog.veiledRec ·))=true:=by kernel_rfl
theorem q31:Rows.queryTurnsRow.veiledFits Tryz.pinned.checked.prog Tryz.f5.params.toList (Tryz.f5.params.toList++(OpenSpec.ofChange Rows.queryTurnsSpec).bare.plain.varTypes Tryz.pinned.checked.prog++Tryz.f5.resultTypes.toList)=true:=by kernel_rfl
theorem closedFacts:joinedFacts Tryz.pinned.checked.prog 5 Tryz.f5 (OpenSpec.ofChange Rows.queryTurnsSpec).bare Rows.queryTurnsRow=true:=by
 unfold joinedFacts;exact(and_t (and_t (and_t (and_t (and_t (and_t (and_t (and_t (and_t (and_t (and_t (and_t (and_t (and_t (and_t (and_t (and_t (and_t (and_t (and_t (and_t (and_t (and_t (and_t (and_t (and_t (and_t (and_t (and_t (and_t (and_t q0 q1) q2) q3) q4) q5) q6) q7) q8) q9) q10) q11) q12) q13) q14) q15) q16) q17) q18) q19) q20) q21) q22) q23) q24) q25) q26) q27) q28) q29) q30) q31)
end Go.Proofs.YtgdpkkjfcdhmdaaGreatDoor.QueryTurns
