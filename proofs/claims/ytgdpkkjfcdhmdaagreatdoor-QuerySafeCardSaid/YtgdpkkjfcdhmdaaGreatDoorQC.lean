/- The closed facts of the row, by the kernel, limb by limb. -/
import Derived.Test.YtgdpkkjfcdhmdaaGreatDoorS0
import Derived.Test.YtgdpkkjfcdhmdaaGreatDoorU23
import Derived.Test.YtgdpkkjfcdhmdaaGreatDoorU20
import Derived.Test.YtgdpkkjfcdhmdaaGreatDoorQA
import Derived.Test.YtgdpkkjfcdhmdaaGreatDoorS5
import Derived.Test.YtgdpkkjfcdhmdaaGreatDoorChecked
import Derived.Test.YtgdpkkjfcdhmdaaGreatDoorCards
import Derived.Deep.MidRow
import Derived.JoinedCond
import Derived.KernelRfl
namespace Go.Proofs.YtgdpkkjfcdhmdaaGreatDoor
open Go Go.RowKit
theorem Mut.wide{S S':Nat->Prop}{w w':World}(h:Mut S w w')(hs:∀k,S k->S' k):Mut S' w w':=⟨h.os,h.tape,h.output,h.size,λ k hk hn=>h.block k hk λ hm=>hn (hs k hm)⟩
def LeakQ(B0 B1 g:Nat)(nb:Bool)(ok:Int)(w4:World)(e:Ending)(w5:World):Prop:=
 ∃(t:Nat) (er:Int),e= .returned (.tuple #[.int .i64 (t:Nat),.int .i64 er])/\Mut (λ k=>B0<=k/\k<B1) w4 w5/\
  (er=0->∃W M,RV w5 g W M/\1<=W/\W<=64/\t<M.length/\M.length<=999/\(nb=true->ok=0->∀vals,vAt W vals M t=0))
theorem both_safe{w0 w2 w3:World}{x:CaseN}{v0 v1 v2 v3:Option Addr}(hok:x.Ok w3)(h:MadeP w0 w2 x v0 v1 v2 v3)(hb23:Below w2.heap.size w2 w3)(h0:0<w0.heap.size)(hcm:w2.cell? ⟨0,0,none⟩=some (.func (Fn.func 209) #[] #[])/\w2.cell? ⟨0,1,none⟩=some (.func (Fn.func 210) #[] #[])):∃(nb:Bool) (ok:Int) (g:Nat),v2=some ⟨g,0,none⟩/\
  Calls Tryz.prog 13 #[.pointer v0,.pointer v2,.int .i64 x.level,x.p.v,x.q.v] w3 (λ e w'=>e= .returned (.tuple #[.bool nb,.int .i64 ok])/\Below w3.heap.size w3 w')/\
  ∀w4,Below w3.heap.size w3 w4->Calls Tryz.prog 8 #[.pointer v0,.pointer v2,.int .i64 x.level,x.p.v,x.q.v] w4 (LeakQ w0.heap.size w2.heap.size g nb ok w4):=by
 obtain⟨sb,lb,rb,xb,g,r,N,W,ca1,cc1,sa1,sc1,ca2,cc2,sa2,sc2,up,dn,L,rfl,rfl,rfl,rfl,hs,hc,hs2,hr,hg,hg2,hvo,hl,hx,hp,hq,u,B,hbu,hub,hsu,hlu,hpx,hbw,hnd,hW1,hW2,hso,hw0,hxu,hse,hse2⟩:=h;obtain⟨A,mb,nv,hpg⟩:=hpx;refine⟨_,_,g,rfl,never13 (hg.below hb23) hvo (by omega) (hs.below hb23) N up dn (hc.below' hb23) hx x.level x.p x.q hok.p hp hok.q hq,λ w4 hb=> ?_⟩;have hb24:Below w2.heap.size w2 w4:=hb23.trans (hb.mono hb23.size);have hu4:Below u.heap.size u w4:=hbu.trans (hb24.mono hbu.size);have hu0:0<u.heap.size:=by omega
 have hcu:u.cell? ⟨0,0,none⟩=some (.func (Fn.func 209) #[] #[])/\u.cell? ⟨0,1,none⟩=some (.func (Fn.func 210) #[] #[]):=⟨(hbu.cell (p:=⟨0,0,none⟩) hu0).symm.trans hcm.1,(hbu.cell (p:=⟨0,1,none⟩) hu0).symm.trans hcm.2⟩
 have hmut:∀k,MutB g (some mb) nv k->w0.heap.size<=k/\k<w2.heap.size:=λ k hk=>⟨by have:=(hpg.lo k hk).1;omega,(hpg.lo k hk).2⟩
 have hpg4:=hpg.below hb24;by_cases hkb:okB N L.length x.xs.length x.ys.length x.level x.p x.q=true
 ·have hkb':(isB N x.level&&[x.p,x.q].all (pathOk L.length x.xs.length x.ys.length))=true:=hkb;refine(leak_ok (c:=L.length) (L0:=L) hu4 hub (Nat.le_trans hbw hb24.size) hsu hlu hso hse hcu hxu.p hp hxu.q hq hpg4 hW1 hW2 (St.start _ hg.ok hvo hnd) (by omega) hg.ok (λ t _ h=>h) hkb).mono ?_;rintro e w5 (⟨_,rfl,hb5⟩|⟨_,nv',A',M,t,rfl,hrun,hst,ht,hval⟩)
  ·exact⟨0,2,rfl,(Mut.of_below hb5),λ h=>by cases h⟩
  ·refine⟨t,0,rfl,hrun.mt.wide hmut,λ _=>⟨W,M,hrun.pg.rv,hW1,hW2,ht,by have:=hst.len;omega,λ hnb _ vals=> ?_⟩⟩;rw[Bool.and_eq_true] at hnb;obtain⟨sec,hsec⟩:=second_ex W (visB N up x.xs x.level) vals;have hnz:=never_zero (sens:=x.sens) (ac:=x.p.cs.map Int.toNat) (bc:=x.q.cs.map Int.toNat) (ar:=seenN N up x.ys x.level x.p.rs) (br:=seenN N up x.ys x.level x.q.rs) hg.ok hvo hsec hnb.2 (by
    have hpk:pathOk L.length x.xs.length x.ys.length x.p=true:=by
     simp only[Bool.and_eq_true,List.all_cons,List.all_nil] at hkb';exact hkb'.2.1
    exact(ev_os hpk hp).t)
   by_cases hz:vAt W vals M t=0
   ·exact hz
   ·exact absurd ((hval vals sec hsec).1 hz) hnz
 ·refine(leak_bad hu4 hsu hlu hxu.p hp hxu.q hq hpg4 (by simpa using hkb)).mono ?_;rintro e w5 ⟨rfl,hb5⟩;exact⟨0,3,rfl,Mut.of_below hb5,λ h=>by cases h⟩
theorem tab_of{w:World}(h:Cr.Laid w):Tab w:=by
 obtain⟨cs,e,f,h1,h2⟩:=h.bits;intro i hi;have e1:w.cell? ⟨2,i,none⟩=cs[i]? :=by simp[World.cell?,h1]
 rw[e1,h2 i hi];have e2:(List.range 32).map (λ i=>Cr.dbr[i]?)=(List.range 32).map (λ i=>some (Value.int .u8 (Lib.deBruijn32tab.getD i 0))):=by kernel_rfl
 have e3:=congrArg (λ l=>l[i]?) e2;simpa[List.getElem?_map,List.getElem?_range hi] using e3
theorem cmp_of{w:World}(h:Cr.Laid w):w.cell? ⟨0,0,none⟩=some (.func (Fn.func 209) #[] #[])/\w.cell? ⟨0,1,none⟩=some (.func (Fn.func 210) #[] #[]):=by
 obtain⟨cs,e,f,h1,h2⟩:=h.compare;have e0:∀i,w.cell? ⟨0,i,none⟩=cs[i]? :=λ i=>by simp[World.cell?,h1]
 exact⟨(e0 0).trans ((h2 0 (by decide)).trans rfl),(e0 1).trans ((h2 1 (by decide)).trans rfl)⟩
theorem Part.get15{w:World}{b:Nat}{a0 a1 a2 a3 a4 a5 a6 a7 a8 a9 a10 a11 a12 a13 a14 a15 a16 a17 a18 a19 a20 a21:Value}(h:Part w b [a0,a1,a2,a3,a4,a5,a6,a7,a8,a9,a10,a11,a12,a13,a14,a15,a16,a17,a18,a19,a20,a21]):w.cell? ⟨b,7,none⟩=some a7/\w.cell? ⟨b,8,none⟩=some a8/\w.cell? ⟨b,9,none⟩=some a9/\w.cell? ⟨b,10,none⟩=some a10/\w.cell? ⟨b,11,none⟩=some a11/\w.cell? ⟨b,12,none⟩=some a12/\w.cell? ⟨b,13,none⟩=some a13/\w.cell? ⟨b,14,none⟩=some a14/\w.cell? ⟨b,15,none⟩=some a15/\w.cell? ⟨b,16,none⟩=some a16/\w.cell? ⟨b,17,none⟩=some a17/\w.cell? ⟨b,18,none⟩=some a18/\w.cell? ⟨b,19,none⟩=some a19/\w.cell? ⟨b,20,none⟩=some a20/\w.cell? ⟨b,21,none⟩=some a21:=
 ⟨(h.at_ 7 _ rfl).1,(h.at_ 8 _ rfl).1,(h.at_ 9 _ rfl).1,(h.at_ 10 _ rfl).1,(h.at_ 11 _ rfl).1,(h.at_ 12 _ rfl).1,(h.at_ 13 _ rfl).1,(h.at_ 14 _ rfl).1,(h.at_ 15 _ rfl).1,(h.at_ 16 _ rfl).1,(h.at_ 17 _ rfl).1,(h.at_ 18 _ rfl).1,(h.at_ 19 _ rfl).1,(h.at_ 20 _ rfl).1,(h.at_ 21 _ rfl).1⟩
theorem one_box{w w1:World}{l:List Value}{t:TypeId}(h:w.alloc (.cells l.toArray t)=w1):Below w.heap.size w w1/\Hid (Part w1 w.heap.size l)/\w1.rangeAt w.heap.size 0 l/\w.heap.size<w1.heap.size:=by
 subst h;exact⟨(Below.refl _ _).alloc (Nat.le_refl _) _,Z (Part.new _ _ _),λ j v h=>by rw[Nat.zero_add,World.cell?_alloc_new];simpa using h,by simp⟩
set_option maxRecDepth 100000 in
set_option maxHeartbeats 16000000 in
theorem querySafe_law(w:World)(x:CaseN)(hok:x.Ok w)(vals:List Nat)(vn:Nat)(hvl:vals.length=vn){va:Option Addr}{vc:Nat}(hva:(Lay.int .u64).At 0 w va (intsN vals))(hvb:∀v∈vals,v<18446744073709551616)(hT:Cr.Laid w)(hA:∀w',Cr.Laid w'->Calls Tryz.prog 7 #[] w' λ e w''=>e= .returned (.bool true)/\Below w'.heap.size w' w''):
  Calls Tryz.prog 4 #[x.v,.slice va vn vc] w λ e w'=>e= .returned (.bool true)/\Below w.heap.size w w':=by
 have HAW:Hid (∀w',Below w.heap.size w w'->Calls Tryz.prog 7 #[] w' λ e w''=>e= .returned (.bool true)/\Below w'.heap.size w' w''):=Z λ w' hb=>hA w' (hT.below hb)
 have HMK:Hid (∀w1,Below w.heap.size w w1->Calls Tryz.prog 6 #[x.v] w1 (MakeP w1 x)):=Z λ w1 hb=>make6 w1 x (hok.below hb) ((tab_of hT).below hb hT.pos) (Nat.lt_of_lt_of_le hT.pos hb.size)
 have HBS:Hid (∀w1 w2 w3 v0 v1 v2 v3,Below w.heap.size w w1->w.heap.size<w1.heap.size->Below w1.heap.size w1 w2->MadeP w1 w2 x v0 v1 v2 v3->Below w2.heap.size w2 w3->∃(nb:Bool) (ok:Int) (g:Nat),v2=some ⟨g,0,none⟩/\
  Calls Tryz.prog 13 #[.pointer v0,.pointer v2,.int .i64 x.level,x.p.v,x.q.v] w3 (λ e w'=>e= .returned (.tuple #[.bool nb,.int .i64 ok])/\Below w3.heap.size w3 w')/\
  ∀w4,Below w3.heap.size w3 w4->Calls Tryz.prog 8 #[.pointer v0,.pointer v2,.int .i64 x.level,x.p.v,x.q.v] w4 (LeakQ w1.heap.size w2.heap.size g nb ok w4)):=Z λ w1 w2 w3 v0 v1 v2 v3 hb1 hz hb h hb3=>by
   have hw2:Below w.heap.size w w2:=hb1.trans (hb.mono hb1.size);exact both_safe (hok.below (hw2.trans (hb3.mono hw2.size))) h hb3 (Nat.lt_of_le_of_lt (Nat.zero_le _) hz) (cmp_of (hT.below hw2))
 have HEV:Hid (∀w5 g W M t,Below w.heap.size w w5->RV w5 g W M->1<=W->W<=64->t<M.length->M.length<=999->vn<=40->vAt W vals M t=0->Calls Tryz.prog 11 #[.pointer (some ⟨g,0,none⟩),.int .i64 (t:Nat),.slice va vn vc] w5 λ e w'=>e= .returned (.tuple #[.int .u64 0,.int .i64 0])/\Below w5.heap.size w5 w'):=Z λ w5 g W M t hb hr h1 h2 ht hl h40 h0=>by
  have:=eval11 hr h1 h2 t ht hl vals hvl (by omega) (hva.below hb) hvb (d:=vc);rw[h0] at this;exact this
 obtain⟨x0,hx0⟩:∃x0,x0=x:=⟨_,rfl⟩
 have HPOST:Hid (∀w1,MakeP w1 x=MakeP w1 x0):=Z (by rw[hx0];exact λ _=>rfl);have HPO2:Hid (∀w1 w' v0 v1 v2 v3,MadeP w1 w' x0 v0 v1 v2 v3->MadeP w1 w' x v0 v1 v2 v3):=Z (by rw[hx0];exact λ _ _ _ _ _ _ h=>h);clear hx0 hok hT hA hvl hva hvb;obtain⟨Wd,na,nc,qs,lv,oa,oc,ord,ca,cc,xs,sa,sc,ys,sens,level,⟨pca,pcc,pcs,pst,psp,poa,poc,pos,pra,prc,prs,pba,pbc,pbs,pia,pic,pis⟩,⟨qca,qcc,qcs,qst,qsp,qoa,qoc,qos,qra,qrc,qrs,qba,qbc,qbs,qia,qic,qis⟩⟩:=x;have hv:CaseN.v ⟨Wd,na,nc,qs,lv,oa,oc,ord,ca,cc,xs,sa,sc,ys,sens,level,⟨pca,pcc,pcs,pst,psp,poa,poc,pos,pra,prc,prs,pba,pbc,pbs,pia,pic,pis⟩,⟨qca,qcc,qcs,qst,qsp,qoa,qoc,qos,qra,qrc,qrs,qba,qbc,qbs,qia,qic,qis⟩⟩= .agg #[.int .i64 Wd,.slice na qs.length nc,.int .i64 lv,.slice oa ord.length oc,.slice ca xs.length cc,.slice sa ys.length sc,.bool sens,.int .i64 level,.slice pca pcs.length pcc,.int .u8 pst,.int .i64 psp,.slice poa pos.length poc,.slice pra prs.length prc,.slice pba pbs.length pbc,.slice pia pis.length pic,.slice qca qcs.length qcc,.int .u8 qst,.int .i64 qsp,.slice qoa qos.length qoc,.slice qra qrs.length qrc,.slice qba qbs.length qbc,.slice qia qis.length qic]:=rfl;have hp:PathN.v ⟨pca,pcc,pcs,pst,psp,poa,poc,pos,pra,prc,prs,pba,pbc,pbs,pia,pic,pis⟩= .agg #[.slice pca pcs.length pcc,.int .u8 pst,.int .i64 psp,.slice poa pos.length poc,.slice pra prs.length prc,.slice pba pbs.length pbc,.slice pia pis.length pic]:=rfl;have hq:PathN.v ⟨qca,qcc,qcs,qst,qsp,qoa,qoc,qos,qra,qrc,qrs,qba,qbc,qbs,qia,qic,qis⟩= .agg #[.slice qca qcs.length qcc,.int .u8 qst,.int .i64 qsp,.slice qoa qos.length qoc,.slice qra qrs.length qrc,.slice qba qbs.length qbc,.slice qia qis.length qic]:=rfl;rw[hv] at HMK⊢;dsimp only at HBS;rw[hp,hq] at HBS;clear hv hp hq;simp only[HPOST.o] at HMK;clear HPOST;go_enter Tryz.func4,Tryz.ntmps4
 go_upto_region 1 with fail
 generalize hw1:w.alloc (.cells #[.int .i64 Wd,.slice na qs.length nc,.int .i64 lv,.slice oa ord.length oc,.slice ca xs.length cc,.slice sa ys.length sc,.bool sens,.int .i64 level,.slice pca pcs.length pcc,.int .u8 pst,.int .i64 psp,.slice poa pos.length poc,.slice pra prs.length prc,.slice pba pbs.length pbc,.slice pia pis.length pic,.slice qca qcs.length qcc,.int .u8 qst,.int .i64 qsp,.slice qoa qos.length qoc,.slice qra qrs.length qrc,.slice qba qbs.length qbc,.slice qia qis.length qic] 30)=w1 at*;obtain⟨hb1,HQ1,hra,hz1⟩:=one_box hw1;have HB1':=Z hb1;have HRA:=Z hra;have HZ1:=Z hz1;have HM1:=Z (HMK.o w1 hb1);clear hw1 hb1 hra hz1 HMK
 go_wp2_with(first|(refine wpList_load_mid rfl 30 (.tmp 2) rfl w.heap.size 0 rfl _ _ HRA.o Tryz.underlying30 rfl (by kernel_rfl) ?_)|(go_at_call 6;refine HM1.o.mono ?_))
 intro e w2 hM;obtain⟨fits,v0,v1,v2,v3,rfl,hb2,hM⟩:=hM;have HB2:=Z hb2;have HW2:=Z (HB1'.o.trans (hb2.mono HB1'.o.size));have HN5:Hid ((w2.alloc (.cells #[.pointer v0,.pointer v1,.pointer v2,.pointer v3] 37)).heap[w2.heap.size]? =some (.cells #[.pointer v0,.pointer v1,.pointer v2,.pointer v3] 37 (0,0))):=Z (heap_alloc_new w2 (ptrs v0 v1 v2 v3));have HB3:Hid (Below w2.heap.size w2 (w2.alloc (.cells #[.pointer v0,.pointer v1,.pointer v2,.pointer v3] 37))):=Z ((Below.refl _ _).alloc (Nat.le_refl _) _);have HW3:=Z (HW2.o.trans (HB3.o.mono HW2.o.size));have HQ3:=Z (HQ1.o.keep (hb2.trans (HB3.o.mono hb2.size)));have HMB:=Z (Part.new w2 #[.pointer v0,.pointer v1,.pointer v2,.pointer v3] 37);obtain⟨g0,g1,g2,g3,k0,k1,k2,k3⟩:=ptr_cells HN5.o;clear hb2;by_cases hv40:vn<=40
 ·have t40:decide ((40:Int)<vn)=false:=by simp;omega
  cases fits with
  |false=>
   clear hM
   go_wp2_with(go_at_call 7;refine(HAW.o _ HW3.o).mono ?_;rintro e w9 ⟨rfl,hb9⟩;have HW9:=Z (HW3.o.trans (hb9.mono HW3.o.size));clear hb9)
   go_ret
   exact⟨rfl,HW9.o⟩
  |true=>
   have hM2:=HPO2.o _ _ _ _ _ _ (hM rfl);clear hM;obtain⟨nb,ok,g,rfl,h13,h8⟩:=HBS.o _ _ _ _ _ _ _ HB1'.o HZ1.o HB2.o hM2 HB3.o;have H13:=Z h13;have H8:=Z h8;clear h13 h8 hM2;have r3:=HQ3.o;obtain⟨e7,e8,e9,e10,e11,e12,e13,e14,e15,e16,e17,e18,e19,e20,e21⟩:=r3.get15;clear r3
   go_upto_region 6 with(first
    |(go_at_call 8
      refine(H8.o w4 HB4.o).mono ?_;rintro e w5 ⟨t,er,rfl,hmut,hres⟩;have HMU:=Z hmut;have HRE:=Z hres;have n5:=(World.cell?_of_block (a:=⟨w2.heap.size,2,none⟩) (hmut.block w2.heap.size (World.block_lt_of_cell? _ _ n2) (λ h=>absurd h.2 (Nat.lt_irrefl _)))).trans n2;have HW5:=Z (HW4.o.trans (hmut.below (B:=w.heap.size) (λ k hk=>Nat.le_trans (Nat.le_of_lt HZ1.o) hk.1) HW4.o.size));clear hmut hres)
    |(go_at_call 13
      refine H13.o.mono ?_;rintro e w4 ⟨rfl,hb4⟩;have HB4:=Z hb4;have HW4:=Z (HW3.o.trans (hb4.mono HW3.o.size));have r4:=HQ3.o.keep hb4;obtain⟨l7,l8,l9,l10,l11,l12,l13,l14,l15,l16,l17,l18,l19,l20,l21⟩:=r4.get15;have s4:=HMB.o.keep hb4;have n0:=(s4.at_ 0 _ rfl).1;have n2:=(s4.at_ 2 _ rfl).1;clear hb4 r4 s4))
   by_cases c1:ok=0
   ·subst c1;by_cases c2:er=0
    ·subst c2;cases nb with
     |false=>
      go_wp2_with(go_at_call 7;refine(HAW.o _ HW5.o).mono ?_;rintro e w9 ⟨rfl,hb9⟩;have HW9:=Z (HW5.o.trans (hb9.mono HW5.o.size));clear hb9)
      go_ret
      exact⟨rfl,HW9.o⟩
     |true=>
      obtain⟨W,M,q1,q2,q3,q4,q5,q6⟩:=HRE.o rfl;have HE:=Z (HEV.o _ _ _ _ _ HW5.o q1 q2 q3 q4 q5 hv40 (q6 rfl rfl vals));clear q1 q2 q3 q4 q5 q6
      go_wp2_with(first
       |(go_at_call 7;refine(HAW.o _ HW6.o).mono ?_;rintro e w9 ⟨rfl,hb9⟩;have HW9:=Z (HW6.o.trans (hb9.mono HW6.o.size));clear hb9)
       |(go_at_call 11;refine HE.o.mono ?_;rintro e w6 ⟨rfl,hb6⟩;have HW6:=Z (HW5.o.trans (hb6.mono HW5.o.size));clear hb6))
      go_ret
      exact⟨rfl,HW9.o⟩
    ·have c3:(er==0)=false:=by simpa using c2
     have c4:(er !=0)=true:=by simpa using c2
     go_wp2_with(go_at_call 7;refine(HAW.o _ HW5.o).mono ?_;rintro e w9 ⟨rfl,hb9⟩;have HW9:=Z (HW5.o.trans (hb9.mono HW5.o.size));clear hb9)
     go_ret
     exact⟨rfl,HW9.o⟩
   ·have c3:(ok==0)=false:=by simpa using c1
    have c4:(ok !=0)=true:=by simpa using c1
    go_wp2_with(go_at_call 7;refine(HAW.o _ HW5.o).mono ?_;rintro e w9 ⟨rfl,hb9⟩;have HW9:=Z (HW5.o.trans (hb9.mono HW5.o.size));clear hb9)
    go_ret
    exact⟨rfl,HW9.o⟩
 ·have t40:decide ((40:Int)<vn)=true:=by simp;omega
  clear hM
  go_wp2_with(go_at_call 7;refine(HAW.o _ HW3.o).mono ?_;rintro e w9 ⟨rfl,hb9⟩;have HW9:=Z (HW3.o.trans (hb9.mono HW3.o.size));clear hb9)
  go_ret
  exact⟨rfl,HW9.o⟩
end Go.Proofs.YtgdpkkjfcdhmdaaGreatDoor
namespace Go.Proofs.YtgdpkkjfcdhmdaaGreatDoor.QuerySafe
open Go Go.ChangeShapes Go.WideShapes
set_option maxRecDepth 100000
theorem and_t{a b:Bool}(h:a=true)(k:b=true):(a&&b)=true:=by rw[h,k];rfl
theorem q0:Rows.querySafeRow.wf (OpenSpec.ofChange (OpenSpec.ofChange Rows.querySafeSpec).bare)=true:=by kernel_rfl
theorem q1:laidOutB Tryz.pinned.checked.prog=true:=by kernel_rfl
theorem q2:mapsRowed Tryz.pinned.checked.prog=true:=by kernel_rfl
theorem q3:Tryz.f4.params.all (Tryz.pinned.checked.prog.readableRec ·)=true:=by kernel_rfl
theorem q4:namedTie Tryz.pinned.checked.prog Rows.querySafeRow.named (OpenSpec.ofChange Rows.querySafeSpec).bare.vars=true:=by kernel_rfl
theorem q5:(Rows.querySafeRow.stops==[])=true:=by kernel_rfl
theorem q6:(Tryz.pinned.checked.prog.stops==[])=true:=by kernel_rfl
theorem q7:(Rows.querySafeRow.knobs==[])=true:=by kernel_rfl
theorem q8:(Tryz.pinned.checked.prog.stopKnobs==[])=true:=by kernel_rfl
theorem q9:(Rows.querySafeRow.inPlace==Tryz.pinned.checked.prog.inPlace 4)=true:=by kernel_rfl
theorem q10:(Rows.querySafeRow.unfollowed==Tryz.pinned.checked.prog.unfollowed 4)=true:=by kernel_rfl
theorem q11:(Rows.querySafeRow.recurses==Tryz.pinned.checked.prog.recurses 4)=true:=by kernel_rfl
theorem q12:(Rows.querySafeRow.named==Tryz.pinned.checked.prog.varsNamed 4)=true:=by kernel_rfl
theorem q13:(Rows.querySafeRow.maps==(Tryz.f4.params.toList++(OpenSpec.ofChange Rows.querySafeSpec).bare.plain.varTypes Tryz.pinned.checked.prog).any (Tryz.pinned.checked.prog.mapsRec ·))=true:=by kernel_rfl
theorem q14:(Rows.querySafeRow.ifaces==(Tryz.f4.params.toList++(OpenSpec.ofChange Rows.querySafeSpec).bare.plain.varTypes Tryz.pinned.checked.prog).any (Tryz.pinned.checked.prog.ifacesRec ·))=true:=by kernel_rfl
theorem q15:(Rows.querySafeRow.mapsOut==Tryz.pinned.checked.prog.mapsAmong Tryz.f4.resultTypes.toList)=true:=by kernel_rfl
theorem q16:(Rows.querySafeRow.loops==(Tryz.f4.params.toList++(OpenSpec.ofChange Rows.querySafeSpec).bare.plain.varTypes Tryz.pinned.checked.prog).any (Tryz.pinned.checked.prog.loopsFrom ·))=true:=by kernel_rfl
theorem q17:(Rows.querySafeRow.wideKeys==(Tryz.f4.params.toList++(OpenSpec.ofChange Rows.querySafeSpec).bare.plain.varTypes Tryz.pinned.checked.prog++Tryz.f4.resultTypes.toList).any (Tryz.pinned.checked.prog.wideKeysFrom ·))=true:=by kernel_rfl
theorem q18:(OpenSpec.ofChange Rows.querySafeSpec).bare.vars.all (Tryz.pinned.checked.prog.varReadable ·)=true:=by kernel_rfl
theorem q19:Tryz.f4.resultTypes.all (λ t=>Tryz.pinned.checked.prog.readableRec t&&decide (t<Tryz.pinned.checked.prog.types.size))=true:=by kernel_rfl
theorem q20:(Rows.querySafeRow.ifacesOut==Tryz.f4.resultTypes.toList.any (Tryz.pinned.checked.prog.ifacesRec ·))=true:=by kernel_rfl
theorem q21:(Rows.querySafeRow.loopsOut==Tryz.f4.resultTypes.toList.any (Tryz.pinned.checked.prog.loopsFrom ·))=true:=by kernel_rfl
theorem q22:(Rows.querySafeRow.plainKeys==Tryz.pinned.checked.prog.plainKeys)=true:=by kernel_rfl
theorem q23:Rows.querySafeRow.shortTexts.isNone=true:=by kernel_rfl
theorem q24:Tryz.pinned.checked.prog.stopsHeard=true:=by kernel_rfl
theorem q25:Tryz.pinned.checked.prog.mayEnter=true:=by kernel_rfl
theorem q26:(Rows.querySafeRow.lifted==Tryz.pinned.checked.prog.liftsFinal)=true:=by kernel_rfl
theorem q27:(Tryz.pinned.checked.prog.make==some Rows.querySafeRow.make)=true:=by kernel_rfl
theorem q28:(Rows.querySafeRow.kinds==(if Rows.querySafeRow.domain.isEmpty then[] else Tryz.f4.params.toList.map λ t=>match Tryz.pinned.checked.prog.underlying t with|some (.int k)=>some k|_=>none))=true:=by kernel_rfl
theorem q29:(Rows.querySafeRow.pinned==Rows.querySafeRow.pinnedBy)=true:=by kernel_rfl
theorem q30:(Rows.querySafeRow.veiled==(Tryz.f4.params.toList++(OpenSpec.ofChange Rows.querySafeSpec).bare.plain.varTypes Tryz.pinned.checked.prog++Tryz.f4.resultTypes.toList).any (Tryz.pinned.checked.prog.veiledRec ·))=true:=by kernel_rfl
theorem q31:Rows.querySafeRow.veiledFits Tryz.pinned.checked.prog Tryz.f4.params.toList (Tryz.f4.params.toList++(OpenSpec.ofChange Rows.querySafeSpec).bare.plain.varTypes Tryz.pinned.checked.prog++Tryz.f4.resultTypes.toList)=true:=by kernel_rfl
theorem closedFacts:joinedFacts Tryz.pinned.checked.prog 4 Tryz.f4 (OpenSpec.ofChange Rows.querySafeSpec).bare Rows.querySafeRow=true:=by
 unfold joinedFacts;exact(and_t (and_t (and_t (and_t (and_t (and_t (and_t (and_t (and_t (and_t (and_t (and_t (and_t (and_t (and_t (and_t (and_t (and_t (and_t (and_t (and_t (and_t (and_t (and_t (and_t (and_t (and_t (and_t (and_t (and_t (and_t q0 q1) q2) q3) q4) q5) q6) q7) q8) q9) q10) q11) q12) q13) q14) q15) q16) q17) q18) q19) q20) q21) q22) q23) q24) q25) q26) q27) q28) q29) q30) q31)
end Go.Proofs.YtgdpkkjfcdhmdaaGreatDoor.QuerySafe
