/- Walk: eval.Eval: the value of one term. -/
import Derived.Test.YtgdpkkjfcdhmdaaGreatDoorS0
import Derived.Test.YtgdpkkjfcdhmdaaGreatDoorU22
import Derived.Test.YtgdpkkjfcdhmdaaGreatDoorU3
import Derived.Test.YtgdpkkjfcdhmdaaGreatDoorS33
namespace Go.Proofs.YtgdpkkjfcdhmdaaGreatDoor
open Go Go.RowKit
set_option maxRecDepth 100000 in
set_option maxHeartbeats 16000000 in
theorem make6(w:World)(x:CaseN)(hok:x.Ok w)(hT:Tab w)(h3:3<w.heap.size):Calls Tryz.prog 6 #[x.v] w (MakeP w x):=by
 by_cases hng:x.qs.length<=30/\fewB x.ord.length x.xs.length 0=true/\x.ys.length<=40/\x.p.short/\x.q.short
 ·exact make_main w x hok hT h3 hng.1 hng.2.1 hng.2.2.1 hng.2.2.2.1 hng.2.2.2.2
 have HNG:=Z hng;clear hng;have HOK:=Z hok;have HT:=Z hT;have HX:Hid (x=x):=Z rfl;obtain⟨x0,hx0⟩:∃x0,x0=x:=⟨_,rfl⟩
 have HPOST:Hid (MakeP w x=MakeP w x0):=Z (by rw[hx0]);rw[HPOST.o];have HX0:=Z hx0;obtain⟨Wd,na,nc,qs,lv,oa,oc,ord,ca,cc,xs,sa,sc,ys,sens,level,⟨pca,pcc,pcs,pst,psp,poa,poc,pos,pra,prc,prs,pba,pbc,pbs,pia,pic,pis⟩,⟨qca,qcc,qcs,qst,qsp,qoa,qoc,qos,qra,qrc,qrs,qba,qbc,qbs,qia,qic,qis⟩⟩:=x;have hv:CaseN.v ⟨Wd,na,nc,qs,lv,oa,oc,ord,ca,cc,xs,sa,sc,ys,sens,level,⟨pca,pcc,pcs,pst,psp,poa,poc,pos,pra,prc,prs,pba,pbc,pbs,pia,pic,pis⟩,⟨qca,qcc,qcs,qst,qsp,qoa,qoc,qos,qra,qrc,qrs,qba,qbc,qbs,qia,qic,qis⟩⟩= .agg #[.int .i64 Wd,.slice na qs.length nc,.int .i64 lv,.slice oa ord.length oc,.slice ca xs.length cc,.slice sa ys.length sc,.bool sens,.int .i64 level,.slice pca pcs.length pcc,.int .u8 pst,.int .i64 psp,.slice poa pos.length poc,.slice pra prs.length prc,.slice pba pbs.length pbc,.slice pia pis.length pic,.slice qca qcs.length qcc,.int .u8 qst,.int .i64 qsp,.slice qoa qos.length qoc,.slice qra qrs.length qrc,.slice qba qbs.length qbc,.slice qia qis.length qic]:=rfl;rw[hv];clear hv hok hT hx0 HPOST HX;obtain⟨HB2,HZ2,HM2,BB⟩:=two_boxes w [.int .i64 Wd,.slice na qs.length nc,.int .i64 lv,.slice oa ord.length oc,.slice ca xs.length cc,.slice sa ys.length sc,.bool sens,.int .i64 level,.slice pca pcs.length pcc,.int .u8 pst,.int .i64 psp,.slice poa pos.length poc,.slice pra prs.length prc,.slice pba pbs.length pbc,.slice pia pis.length pic,.slice qca qcs.length qcc,.int .u8 qst,.int .i64 qsp,.slice qoa qos.length qoc,.slice qra qrs.length qrc,.slice qba qbs.length qbc,.slice qia qis.length qic] rfl;obtain⟨b0,b1,b2,b3,b4,b5,b6,b7,b8,b9,b10,b11,b12,b13,b14,b15,b16,b17,b18,b19,b20,b21⟩:=BB.o.get22;have HFW:=Z (few_any oa ca none ord.length xs.length 0 oc cc 0);by_cases hq:30<qs.length
 ·have hq':decide ((30:Int)<qs.length)=true:=by simp;omega
  generalize qs.length=nq at*;go_enter Tryz.func6,Tryz.ntmps6
  go_wp2_with fail
  refine bodyPost_ret (by simp[results,Tryz.results6,go_sem,Result.andThen];try rfl) rfl ?_;exact⟨false,none,none,none,none,rfl,HB2.o,λ h=>by cases h⟩
 have hq':decide ((30:Int)<qs.length)=false:=by simp;omega
 have HQL:Hid (qs.length<=30):=Z (by omega);clear hq;cases hf:fewB ord.length xs.length 0 with
 |false=>
  rw[hf] at HFW;clear hf;go_enter Tryz.func6,Tryz.ntmps6
  go_wp2_with(go_at_call 16;refine(HFW.o _).mono ?_;rintro e w' ⟨rfl,rfl⟩)
  refine bodyPost_ret (by simp[results,Tryz.results6,go_sem,Result.andThen];try rfl) rfl ?_;exact⟨false,none,none,none,none,rfl,HB2.o,λ h=>by cases h⟩
 |true=>
  rw[hf] at HFW;have HFB:=Z hf;clear hf;by_cases hy:40<ys.length
  ·have hy':decide ((40:Int)<ys.length)=true:=by simp;omega
   generalize ys.length=ny at*;go_enter Tryz.func6,Tryz.ntmps6
   go_wp2_with(go_at_call 16;refine(HFW.o _).mono ?_;rintro e w' ⟨rfl,rfl⟩)
   refine bodyPost_ret (by simp[results,Tryz.results6,go_sem,Result.andThen];try rfl) rfl ?_;exact⟨false,none,none,none,none,rfl,HB2.o,λ h=>by cases h⟩
  have hy':decide ((40:Int)<ys.length)=false:=by simp;omega
  have HYL:Hid (ys.length<=40):=Z (by omega);clear hy;by_cases hps:PathN.short ⟨pca,pcc,pcs,pst,psp,poa,poc,pos,pra,prc,prs,pba,pbc,pbs,pia,pic,pis⟩
  ·have HSP:Hid (∀w',Calls Tryz.prog 17 #[.agg #[.slice pca pcs.length pcc,.int .u8 pst,.int .i64 psp,.slice poa pos.length poc,.slice pra prs.length prc,.slice pba pbs.length pbc,.slice pia pis.length pic]] w' λ e w''=>e= .returned (.bool true)/\Below w'.heap.size w' w''):=Z λ w'=>short_yes w' ⟨pca,pcc,pcs,pst,psp,poa,poc,pos,pra,prc,prs,pba,pbc,pbs,pia,pic,pis⟩ hps
   have HPS:=Z hps;clear hps;have HSQ:Hid (∀w',Calls Tryz.prog 17 #[.agg #[.slice qca qcs.length qcc,.int .u8 qst,.int .i64 qsp,.slice qoa qos.length qoc,.slice qra qrs.length qrc,.slice qba qbs.length qbc,.slice qia qis.length qic]] w' λ e w''=>e= .returned (.bool false)/\Below w'.heap.size w' w''):=Z λ w'=>short_no w' ⟨qca,qcc,qcs,qst,qsp,qoa,qoc,qos,qra,qrc,qrs,qba,qbc,qbs,qia,qic,qis⟩ λ hqs=>HNG.o ⟨HQL.o,HFB.o,HYL.o,HPS.o,hqs⟩
   go_enter Tryz.func6,Tryz.ntmps6
   go_wp2_with(first|(go_at_call 17;refine(HSQ.o w3).mono ?_;rintro e w4 ⟨rfl,hb4⟩;have HB4:=Z (HB3.o.trans (hb4.mono HB3.o.size));have HM4:=Z ((hb4.block (w.heap.size+1) (by have:=HB3.o.size;have:=HZ2.o;omega)).trans HM3.o);obtain⟨e0,e1,e2,e3,e4,e5,e6,-⟩:=(DB.o.below hb4 (by have:=HB3.o.size;have:=HZ2.o;omega)).get22;clear hb4;obtain⟨m0,m1,m2,m3,z0,z1,z2,z3⟩:=ptr_cells HM4.o)|(go_at_call 17;refine(HSP.o _).mono ?_;rintro e w3 ⟨rfl,hb3⟩;have HB3:=Z hb3;have HM3:=Z ((hb3.block (w.heap.size+1) (by have:=HZ2.o;omega)).trans HM2.o);have DB:=Z (BB.o.below hb3 (by have:=HZ2.o;omega));obtain⟨d0,d1,d2,d3,d4,d5,d6,d7,d8,d9,d10,d11,d12,d13,d14,d15,d16,d17,d18,d19,d20,d21⟩:=DB.o.get22;clear hb3)|(go_at_call 16;refine(HFW.o _).mono ?_;rintro e w' ⟨rfl,rfl⟩))
   refine bodyPost_ret (by simp[results,Tryz.results6,go_sem,Result.andThen,ptr_again HM4.o,m0,m1,m2,m3];try rfl) rfl ?_;rw[ptr_again HM4.o];exact⟨false,none,none,none,none,rfl,HB2.o.trans (HB4.o.mono HB2.o.size),λ h=>by cases h⟩
  ·have HSP:Hid (∀w',Calls Tryz.prog 17 #[.agg #[.slice pca pcs.length pcc,.int .u8 pst,.int .i64 psp,.slice poa pos.length poc,.slice pra prs.length prc,.slice pba pbs.length pbc,.slice pia pis.length pic]] w' λ e w''=>e= .returned (.bool false)/\Below w'.heap.size w' w''):=Z λ w'=>short_no w' ⟨pca,pcc,pcs,pst,psp,poa,poc,pos,pra,prc,prs,pba,pbc,pbs,pia,pic,pis⟩ hps
   clear hps;go_enter Tryz.func6,Tryz.ntmps6
   go_wp2_with(first|(go_at_call 17;refine(HSP.o _).mono ?_;rintro e w3 ⟨rfl,hb3⟩;have HB3:=Z hb3;have HM3:=Z ((hb3.block (w.heap.size+1) (by have:=HZ2.o;omega)).trans HM2.o);obtain⟨d0,d1,d2,d3,d4,d5,d6,d7,d8,d9,d10,d11,d12,d13,d14,d15,d16,d17,d18,d19,d20,d21⟩:=(BB.o.below hb3 (by have:=HZ2.o;omega)).get22;clear hb3;obtain⟨m0,m1,m2,m3,z0,z1,z2,z3⟩:=ptr_cells HM3.o)|(go_at_call 16;refine(HFW.o _).mono ?_;rintro e w' ⟨rfl,rfl⟩))
   refine bodyPost_ret (by simp[results,Tryz.results6,go_sem,Result.andThen,ptr_again HM3.o,m0,m1,m2,m3];try rfl) rfl ?_;rw[ptr_again HM3.o];exact⟨false,none,none,none,none,rfl,HB2.o.trans (HB3.o.mono HB2.o.size),λ h=>by cases h⟩
set_option maxRecDepth 100000 in
set_option maxHeartbeats 8000000 in
theorem eval11{w:World}{r W:Nat}{L:List Nd}(h:RV w r W L)(h1:1<=W)(h2:W<=64)(t:Nat)(ht:t<L.length)(hL:L.length<=999){b:Option Addr}{l d:Nat}(vals:List Nat)(hlen:vals.length=l)(hvl:l<=100)(hatv:(Lay.int .u64).At 0 w b (intsN vals))(hsm:∀v∈vals,v<18446744073709551616):
  Calls Tryz.prog 11 #[.pointer (some ⟨r,0,none⟩),.int .i64 (t:Nat),.slice b l d] w λ e w'=>e= .returned (.tuple #[.int .u64 (vAt W vals L t:Nat),.int .i64 0])/\Below w.heap.size w w':=by
 have HB1:Hid (∀ob,Below w.heap.size w (w.alloc ob)):=Z λ ob=>(Below.refl _ _).alloc (Nat.le_refl _) ob
 have HG:inG L.length (t:Int)=true:=by unfold inG;simp[ht]
 have HA:=Z (all56 (h.below (HB1.o (.cells #[.int .i64 (t:Nat)] 3))) h1 h2 [(t:Int)] (m:=1) (c:=1) rfl (by decide) (Lay.At.made w [(t:Int)] 3) (by simpa using HG) hL vals hlen hvl (hatv.below (HB1.o _)) hsm (d:=d));have HV:Hid ([(t:Int)].map (λ t=>(valuesN W vals L).getD t.toNat 0)=[vAt W vals L t]):=Z (by simp[vAt]);rw[HV.o] at HA;clear h HG hL hatv hsm HV;generalize vAt W vals L t=x at*;go_enter Tryz.func11,Tryz.ntmps11
 go_wp2_with(go_at_call 35;refine HA.o.mono ?_;rintro e w1 ⟨v,rfl,ho,hb⟩;obtain⟨va,vc,rfl,hat,_⟩:=ho.atBase (d:=0);obtain⟨b1,o1,rfl,hb1,c0⟩:=hat.int (i:=0) (by simp[intsN]);have HB:=Z hb;simp only[intsN,List.map_cons,List.map_nil,List.getD_cons_zero,Nat.add_zero] at c0;rw[show(intsN [x]).length=1 from rfl];clear hb ho hat)
 go_ret2
 exact⟨rfl,(HB1.o _).trans (HB.o.mono (HB1.o _).size)⟩
end Go.Proofs.YtgdpkkjfcdhmdaaGreatDoor
