/- Walk: Never of the code. -/
import Derived.Test.YtgdpkkjfcdhmdaaGreatDoorS0
import Derived.Test.YtgdpkkjfcdhmdaaGreatDoorU24
import Derived.Test.YtgdpkkjfcdhmdaaGreatDoorU1
import Derived.Test.YtgdpkkjfcdhmdaaGreatDoorS17
import Derived.Test.YtgdpkkjfcdhmdaaGreatDoorU19
import Derived.Test.YtgdpkkjfcdhmdaaGreatDoorU18
import Derived.Test.YtgdpkkjfcdhmdaaGreatDoorS24
import Derived.Deep.RegionHeld3
namespace Go.Proofs.YtgdpkkjfcdhmdaaGreatDoor
open Go.ChangeShapes Go.WideShapes Go.ChangeAt Go.RowKit
theorem readable31:Tryz.prog.readableRec 31=true:=by kernel_rfl
theorem row31:31<Tryz.prog.types.size:=of_decide_eq_true (by kernel_rfl)
section
variable {H:Type} {enc:TypeId×Value->H} {W:World} {base:Nat}
set_option maxRecDepth 100000 in
theorem open_vals{v:Value}{d:DataW H}{p:List MemPlace}(hv:Value.okWide Tryz.prog W .any base 31 v)(h:DataW.Trod enc Tryz.prog W 0 (λ _=>true) true 31 v d p):
  ∃a n cap xs,v= .slice a n cap/\xs.length=n/\(Lay.int .u64).At 0 W a (intsN xs)/\∀v∈xs,v<18446744073709551616:=by
 obtain⟨a0,len,cap,rfl⟩:=okWide_slice Tryz.underlying31 hv;obtain⟨fuel,hf⟩:=h;obtain⟨a,len',cap',xs,hcs,h1,h2,h3,h4,h5,h6⟩:=nums_of Tryz.underlying31 Tryz.underlying46 cells46 hf;simp only[Value.cells,List.cons.injEq,Value.slice.injEq,and_true] at hcs;obtain⟨rfl,rfl,rfl⟩:=hcs;have hx:xs=intsN (xs.map Int.toNat):=by
  unfold intsN;rw[List.map_map];refine(List.map_id _).symm.trans (List.map_congr_left λ x hx=> ?_);have:=(bounds_u64 (h6 x hx)).1;simp only[Function.comp,id];rw[Int.toNat_of_nonneg this]
 refine⟨_,_,_,xs.map Int.toNat,rfl,by rw[List.length_map];exact h1,by rw[<-hx];exact h2,λ v hv=> ?_⟩;obtain⟨x,hx,rfl⟩:=List.mem_map.1 hv;have:=bounds_u64 (h6 x hx);omega
end
end Go.Proofs.YtgdpkkjfcdhmdaaGreatDoor
namespace Go.Proofs.YtgdpkkjfcdhmdaaGreatDoor
open Go.RowKit
def goodV(N:Nat)(up:Nat->Nat)(xs:List Int)(level m:Int):Bool:= !(m%2==1)&&leB N up (xs.getD (m/2%xs.length).toNat 0) level
open Classical in
noncomputable def okT(L:List Nd)(N:Nat)(up:Nat->Nat)(xs:List Int)(level t:Int):Bool:=decide (∀m,VarIn L t.toNat m->goodV N up xs level m=true)
open Classical in
theorem okT_eq{L:List Nd}{N:Nat}{up:Nat->Nat}{xs:List Int}{level:Int}{t:Nat}{vs:List Int}(h:∀m,m∈vs↔VarIn L t m):okT L N up xs level t=vs.all (goodV N up xs level):=by
 unfold okT;rw[Int.toNat_natCast,Bool.eq_iff_iff,decide_eq_true_eq,List.all_eq_true];exact⟨λ hh m hm=>hh m ((h m).1 hm),λ hh m hm=>hh m ((h m).2 hm)⟩
noncomputable def nevB(L:List Nd)(N:Nat)(up:Nat->Nat)(xs:List Int)(level:Int)(p q:PathN):Bool:=
 decide (p.st=q.st/\p.st≠2)&&(decide (seen N up level xs p.os=seen N up level xs q.os)&&(seen N up level xs p.os).all λ o=>okT L N up xs level o.2)
section
variable {L:List Nd} {N:Nat} {up:Nat->Nat} {xs:List Int} {level:Int} {p q:PathN}
theorem nevB_st(h:¬(p.st=q.st/\p.st≠2)):nevB L N up xs level p q=false:=by
 unfold nevB;rw[decide_eq_false h];rfl
theorem nevB_len(h:(seen N up level xs p.os).length≠(seen N up level xs q.os).length):nevB L N up xs level p q=false:=by
 unfold nevB;rw[decide_eq_false (λ e=>h (by rw[e]):¬seen N up level xs p.os=seen N up level xs q.os)];simp
theorem nevB_ne{k:Nat}(h:(seen N up level xs p.os).getD k (0,0)≠(seen N up level xs q.os).getD k (0,0)):nevB L N up xs level p q=false:=by
 unfold nevB;rw[decide_eq_false (λ e=>h (by rw[e]):¬seen N up level xs p.os=seen N up level xs q.os)];simp
theorem nevB_bad{k:Nat}(hk:k<(seen N up level xs p.os).length)(h:okT L N up xs level ((seen N up level xs p.os).getD k (0,0)).2=false):nevB L N up xs level p q=false:=by
 unfold nevB;rw[show(seen N up level xs p.os).all (λ o=>okT L N up xs level o.2)=false from List.all_eq_false.2 ⟨_,getD_mem (0,0) _ k hk,by rw[h];decide⟩];simp
theorem nevB_good(h1:p.st=q.st)(h2:p.st≠2)(h3:(seen N up level xs p.os).length=(seen N up level xs q.os).length)(h4:∀k,k<(seen N up level xs p.os).length->(seen N up level xs p.os).getD k (0,0)=(seen N up level xs q.os).getD k (0,0)/\okT L N up xs level ((seen N up level xs p.os).getD k (0,0)).2=true):nevB L N up xs level p q=true:=by
 have e:seen N up level xs p.os=seen N up level xs q.os:=by
  apply List.ext_getElem h3;intro i hi hj;have:=(h4 i hi).1;simpa[List.getD_eq_getElem?_getD,List.getElem?_eq_getElem hi,List.getElem?_eq_getElem hj] using this
 unfold nevB;rw[decide_eq_true ⟨h1,h2⟩,decide_eq_true e,Bool.true_and,Bool.true_and,List.all_eq_true];intro o ho;obtain⟨i,hi,rfl⟩:=List.getElem_of_mem ho;have:=(h4 i hi).2;simpa[List.getD_eq_getElem?_getD,List.getElem?_eq_getElem hi] using this
end
end Go.Proofs.YtgdpkkjfcdhmdaaGreatDoor
namespace Go.Proofs.YtgdpkkjfcdhmdaaGreatDoor
open Go Go.RowKit
theorem second_ex(W:Nat)(V:Nat->Bool)(vals:List Nat):∃sec,Second W V vals sec:=by
 refine⟨(List.range 12).map λ n=>if V n then vals.getD n 0 else vals.getD (n+1) 0,λ n hn=> ?_⟩;unfold varV;rw[show((List.range 12).map λ n=>if V n then vals.getD n 0 else vals.getD (n+1) 0).getD n 0=if V n then vals.getD n 0 else vals.getD (n+1) 0 by
  rw[List.getD_eq_getElem?_getD,List.getElem?_map,List.getElem?_range hn];rfl]
 split<;>rfl
theorem begun2_self{W:Nat}{vals sec:List Nat}{L:List Nd}:∀{a:List (Int×Nat)},(∀x∈a,vAt W vals L x.2=vAt W sec L x.2)->Begun2 W vals sec L a a
 |[],_=>by unfold Begun2;trivial
 |x::a,h=>by
  unfold Begun2;exact⟨⟨rfl,h x (by simp)⟩,begun2_self λ y hy=>h y (List.mem_cons_of_mem _ hy)⟩
theorem vis_good{N:Nat}{up:Nat->Nat}{xs:List Int}{level:Int}{n:Nat}(h:goodV N up xs level (n:Int)=true):visB N up xs level n=true:=by
 unfold goodV at h;rw[Bool.and_eq_true] at h;have e:(((n:Int)/2%(xs.length:Int))).toNat=n/2%xs.length:=by
  have:((n:Int)/2%(xs.length:Int))=((n/2%xs.length:Nat):Int):=by push_cast;rfl
  rw[this,Int.toNat_natCast]
 rw[e] at h;exact h.2
open Classical in
theorem okT_all{L:List Nd}{N:Nat}{up:Nat->Nat}{xs:List Int}{level t:Int}(h:okT L N up xs level t=true):∀m,VarIn L t.toNat m->goodV N up xs level m=true:=by
 unfold okT at h;exact of_decide_eq_true h
theorem never_zero{W:Nat}{L:List Nd}{N:Nat}{up:Nat->Nat}{xs:List Int}{level:Int}{p q:PathN}{sens:Bool}{vals sec ac bc:List Nat}{ar br:List (Int×Nat)}(hg:GOk W L)(hv:VOk L)(hs:Second W (visB N up xs level) vals sec)(hn:nevB L N up xs level p q=true)(ht:∀o∈p.os,isB L.length o.2=true):
  ¬LeakF W vals sec L (modeB sens p q) (modeB sens p q||decide (p.st=q.st)) ac bc (seenN N up xs level p.os) (seenN N up xs level q.os) ar br:=by
 unfold nevB at hn;simp only[Bool.and_eq_true,decide_eq_true_eq,List.all_eq_true] at hn;obtain⟨⟨h1,h2⟩,h3,h4⟩:=hn;rintro⟨_,_,_,h5⟩;refine h5 ⟨by rw[decide_eq_true h1,Bool.or_true],?_⟩;have e:seenN N up xs level p.os=seenN N up xs level q.os:=by unfold seenN;rw[h3]
 rw[<-e];refine⟨.inr rfl,begun2_self λ x hx=> ?_⟩;obtain⟨o,ho,rfl⟩:=List.mem_map.1 hx;have hot:=h4 o ho;have hlt:=ht o (seen_mem ho);replace hot:=okT_all hot;unfold isB at hlt;simp only[Bool.and_eq_true,decide_eq_true_eq] at hlt;exact same_val hg hv hs (t:=o.2.toNat) (by omega) (λ j oc h=>vis_good (hot _ ⟨j,oc,h,rfl⟩)) _ .top
set_option maxRecDepth 100000 in
set_option maxHeartbeats 16000000 in
theorem never13{w:World}{gb W:Nat}{L:List Nd}(hg:RV w gb W L)(hvo:VOk L)(hLl:L.length<=999){sb lb:Nat}{ca0:Option Addr}{cc0:Nat}{xs:List Int}{sa0:Option Addr}{sc0:Nat}{ys:List Int}(hs:SideAt w sb lb ca0 cc0 xs sa0 sc0 ys)(N:Nat)(up dn:Nat->Nat)(hL:LatC w lb N up dn)(hxl:xs.length<=32)(level:Int)(p q:PathN)(hp:p.Ok w)(hps:p.short)(hq:q.Ok w)(hqs:q.short):
  Calls Tryz.prog 13 #[.pointer (some ⟨sb,0,none⟩),.pointer (some ⟨gb,0,none⟩),.int .i64 level,p.v,q.v] w λ e w'=>e= .returned (.tuple #[.bool ((isB N level&&[p,q].all (pathOk L.length xs.length ys.length))&&nevB L N up xs level p q),.int .i64 (mayR (isB N level&&[p,q].all (pathOk L.length xs.length ys.length)))])/\Below w.heap.size w w':=by
 obtain⟨na,nc,hgn,_⟩:=hg.nodes;have hev:∀r:PathN,pathOk L.length xs.length ys.length r=true->(∀o∈r.os,0<=o.1/\o.1<xs.length)/\∀o∈r.os,isB L.length o.2=true:=λ r hr=>by
  unfold pathOk at hr;simp only[Bool.and_eq_true,List.all_append,List.all_eq_true] at hr;obtain⟨⟨h1,_⟩,⟨_,h2⟩,_⟩:=hr;refine⟨λ o ho=> ?_,λ o ho=>h2 o.2 (List.mem_map.2 ⟨o,ho,rfl⟩)⟩;have:=h1 o ho;simpa[inB] using this
 have HMAY:Hid (∀w' a,Below w.heap.size w w'->Lay.path.At default w' a [p,q]->Calls Tryz.prog 23 #[.pointer (some ⟨sb,0,none⟩),.pointer (some ⟨gb,0,none⟩),.int .i64 level,.slice a 2 2] w' λ e w''=>e= .returned (.int .i64 (mayR (isB N level&&[p,q].all (pathOk L.length xs.length ys.length))))/\Below w'.heap.size w' w''):=Z λ w' a hb ha=>
  may23 N gb L.length level a 2 [p,q] w' (hs.below hb) ((hL.below' hb).hn) ((hb.cell (p:=⟨gb,2,none⟩) hg.low).trans hgn) ha (λ r hr=>by simp at hr;rcases hr with rfl|rfl;exact⟨hp.below hb,hps⟩;exact⟨hq.below hb,hqs⟩) (by simp)
 have HSP:Hid ((isB N level&&[p,q].all (pathOk L.length xs.length ys.length))=true->∀w',Below w.heap.size w w'->Calls Tryz.prog 29 #[.pointer (some ⟨sb,0,none⟩),.int .i64 level,.slice ca0 xs.length cc0,.slice p.oa p.os.length p.oc] w' λ e w''=>∃v,e= .returned v/\Lay.sev.Own 83 w'' w'.heap.size v (seen N up level xs p.os)/\Below w'.heap.size w' w''):=Z λ hk w' hb=>by
  simp only[Bool.and_eq_true,List.all_cons,List.all_nil] at hk;exact seen29 N up dn level p.oa p.oc p.os w' (hs.below hb) (hL.below' hb) (hev p hk.2.1).1 (hp.o.below hb) (by have:=hps.2.1;omega)
 have HSQ:Hid ((isB N level&&[p,q].all (pathOk L.length xs.length ys.length))=true->∀w',Below w.heap.size w w'->Calls Tryz.prog 29 #[.pointer (some ⟨sb,0,none⟩),.int .i64 level,.slice ca0 xs.length cc0,.slice q.oa q.os.length q.oc] w' λ e w''=>∃v,e= .returned v/\Lay.sev.Own 83 w'' w'.heap.size v (seen N up level xs q.os)/\Below w'.heap.size w' w''):=Z λ hk w' hb=>by
  simp only[Bool.and_eq_true,List.all_cons,List.all_nil] at hk;exact seen29 N up dn level q.oa q.oc q.os w' (hs.below hb) (hL.below' hb) (hev q hk.2.2.1).1 (hq.o.below hb) (by have:=hqs.2.1;omega)
 have HXR:Hid ((isB N level&&[p,q].all (pathOk L.length xs.length ys.length))=true->∀o∈seen N up level xs p.os,isB L.length o.2=true):=Z λ hk o ho=>by
  simp only[Bool.and_eq_true,List.all_cons,List.all_nil] at hk;exact(hev p hk.2.1).2 o (seen_mem ho)
 have HNE:Hid ((isB N level&&[p,q].all (pathOk L.length xs.length ys.length))=true->0<(seen N up level xs p.os).length->0<xs.length):=Z λ hk h0=>by
  simp only[Bool.and_eq_true,List.all_cons,List.all_nil] at hk;have hm:=getD_mem (0,0) _ 0 h0;have:=(hev p hk.2.1).1 _ (seen_mem hm);omega
 have HF1:Hid (¬(p.st=q.st/\p.st≠2)->nevB L N up xs level p q=false):=Z nevB_st;have HF2:Hid ((seen N up level xs p.os).length≠(seen N up level xs q.os).length->nevB L N up xs level p q=false):=Z nevB_len;have HF3:Hid (∀k,(seen N up level xs p.os).getD k (0,0)≠(seen N up level xs q.os).getD k (0,0)->nevB L N up xs level p q=false):=Z λ k h=>nevB_ne h
 have HF4:Hid (∀k,k<(seen N up level xs p.os).length->okT L N up xs level ((seen N up level xs p.os).getD k (0,0)).2=false->nevB L N up xs level p q=false):=Z λ k h1 h2=>nevB_bad h1 h2
 have HF5:Hid (p.st=q.st->p.st≠2->(seen N up level xs p.os).length=(seen N up level xs q.os).length->(∀k,k<(seen N up level xs p.os).length->(seen N up level xs p.os).getD k (0,0)=(seen N up level xs q.os).getD k (0,0)/\okT L N up xs level ((seen N up level xs p.os).getD k (0,0)).2=true)->nevB L N up xs level p q=true):=Z nevB_good;have HXL:Hid ((seen N up level xs p.os).length<=12/\(seen N up level xs q.os).length<=12):=Z ⟨Nat.le_trans (List.length_filter_le _ _) hps.2.1,Nat.le_trans (List.length_filter_le _ _) hqs.2.1⟩;have HVA:Hid (∀w' (t tb to_ c:Nat),Below w.heap.size w w'->t<L.length->tb<w'.heap.size->w'.cell? ⟨tb,to_,none⟩=some (.int .i64 (t:Int))->Calls Tryz.prog 24 #[.pointer (some ⟨gb,0,none⟩),.slice (some ⟨tb,to_,none⟩) 1 c] w' (VarsR w' L [t])):=Z λ w' t tb to_ c hb ht h1 h2=>vars24 (hg.below hb) [t] (λ j _ h=>by have:=hvo j h;omega) (by simpa using ht) (by omega) (by simp) _ c (λ e=>by cases e) (at_one_cell h1 h2)
 have HLE:Hid (∀w' (x:Int),Below w.heap.size w w'->∀m,Calls Tryz.prog 40 #[.pointer (some ⟨lb,0,none⟩),.int .i64 x,.int .i64 level] (w'.drewN m) λ e w''=>e= .returned (.bool (leB N up x level))/\∃k,w''=w'.drewN k):=Z λ w' x hb m=>le_q lb N up dn x level w' (hL.below' hb) m
 have HSI:Hid (∀w',Below w.heap.size w w'->w'.cell? ⟨sb,0,none⟩=some (.pointer (some ⟨lb,0,none⟩))/\w'.cell? ⟨sb,1,none⟩=some (.slice ca0 xs.length cc0)/\(Lay.int .i64).At 0 w' ca0 xs):=Z λ w' hb=>⟨(hs.below hb).l,(hs.below hb).c1,(hs.below hb).x⟩
 have HVO:=Z hvo;have HPO:=Z hp;have HQO:=Z hq;clear hev hg hvo hs hL hp hps hq hqs hgn;generalize hX:seen N up level xs p.os=X at*;generalize hY:seen N up level xs q.os=Y at*;clear hX hY;generalize nevB L N up xs level p q=nb at*;generalize(isB N level&&[p,q].all (pathOk L.length xs.length ys.length))=okA at*;have HFL:Hid ((Lay.path.flat [p,q]).toArray=(Lay.path.f p++Lay.path.f q).toArray):=Z (by simp[Lay.flat]);have HPA:Hid (∀w':World,Lay.path.At default (w'.alloc (.cells (Lay.path.f p++Lay.path.f q).toArray 28)) (some ⟨w'.heap.size,0,none⟩) [p,q]):=Z λ w'=>by rw[<-HFL.o];exact Lay.At.made (L:=Lay.path) (d:=default) w' [p,q] 28
 clear HFL;obtain⟨pca,pcc,pcs,pst,psp,poa,poc,pos,pra,prc,prs,pba,pbc,pbs,pia,pic,pis⟩:=p;obtain⟨qca,qcc,qcs,qst,qsp,qoa,qoc,qos,qra,qrc,qrs,qba,qbc,qbs,qia,qic,qis⟩:=q;simp only[PathN.v] at*;obtain⟨HB2,HZ2,G,F⟩:=two_cells w [.slice pca pcs.length pcc,.int .u8 pst,.int .i64 psp,.slice poa pos.length poc,.slice pra prs.length prc,.slice pba pbs.length pbc,.slice pia pis.length pic] [.slice qca qcs.length qcc,.int .u8 qst,.int .i64 qsp,.slice qoa qos.length qoc,.slice qra qrs.length qrc,.slice qba qbs.length qbc,.slice qia qis.length qic] 28 28 rfl;obtain⟨g0,g1,g2,g3,g4,g5,g6⟩:=G.o.get7;obtain⟨f0,f1,f2,f3,f4,f5,f6⟩:=F.o.get7;have HM3:Hid (∀w2 z,Below w.heap.size w w2->w2.heap.size=z->Calls Tryz.prog 23 #[.pointer (some ⟨sb,0,none⟩),.pointer (some ⟨gb,0,none⟩),.int .i64 level,.slice (some ⟨z,0,none⟩) 2 2] (w2.alloc (.cells #[.slice pca pcs.length pcc,.int .u8 pst,.int .i64 psp,.slice poa pos.length poc,.slice pra prs.length prc,.slice pba pbs.length pbc,.slice pia pis.length pic,.slice qca qcs.length qcc,.int .u8 qst,.int .i64 qsp,.slice qoa qos.length qoc,.slice qra qrs.length qrc,.slice qba qbs.length qbc,.slice qia qis.length qic] 28)) λ e w''=>e= .returned (.int .i64 (mayR okA))/\Below w.heap.size w w''/\Below w2.heap.size w2 w''):=Z λ w2 z hb hz=>by
  subst hz;have h3:=hb.alloc hb.size (.cells #[.slice pca pcs.length pcc,.int .u8 pst,.int .i64 psp,.slice poa pos.length poc,.slice pra prs.length prc,.slice pba pbs.length pbc,.slice pia pis.length pic,.slice qca qcs.length qcc,.int .u8 qst,.int .i64 qsp,.slice qoa qos.length qoc,.slice qra qrs.length qrc,.slice qba qbs.length qbc,.slice qia qis.length qic] 28);exact(HMAY.o _ _ h3 (HPA.o w2)).mono λ e w5 ⟨h1,h2⟩=>⟨h1,h3.trans (h2.mono h3.size),((Below.refl w2.heap.size w2).alloc (Nat.le_refl _) _).trans (h2.mono (by simp))⟩
 clear HMAY HPA;cases okA with
 |false=>
  go_enter Tryz.func13,Tryz.ntmps13
  go_wp2_with(go_at_call 23;refine(HM3.o _ _ HB2.o HZ2.o).mono ?_;rintro e w5 ⟨rfl,hb5,_⟩;have HB5:=Z hb5;clear hb5)
  go_ret2
  exact⟨rfl,HB5.o⟩
 |true=>
  have HSP1:=Z (HSP.o rfl);have HSQ1:=Z (HSQ.o rfl);have HXR1:=Z (HXR.o rfl);have HNE1:=Z (HNE.o rfl);clear HSP HSQ HXR HNE;go_enter Tryz.func13,Tryz.ntmps13
  go_wp2_with(go_at_call 23;refine(HM3.o _ _ HB2.o HZ2.o).mono ?_;rintro e w5 ⟨rfl,hb5,hc5⟩;have HB5:=Z hb5;have hl5:w.heap.size<w5.heap.size:=Nat.lt_of_lt_of_le (by rw[HZ2.o];omega) hc5.size;have hl6:w.heap.size+1<w5.heap.size:=Nat.lt_of_lt_of_le (by rw[HZ2.o];omega) hc5.size;obtain⟨-,P1,-,P3,-⟩:=(G.o.below hc5 (by rw[HZ2.o];omega)).get7;obtain⟨-,Q1,-,Q3,-⟩:=(F.o.below hc5 (by rw[HZ2.o];omega)).get7;clear hb5 hc5)
  clear g0 g1 g2 g3 g4 g5 g6 f0 f1 f2 f3 f4 f5 f6;have HS:Hid (∀w',Below w5.heap.size w5 w'->w'.cell? ⟨sb,1,none⟩=some (.slice ca0 xs.length cc0)/\w'.cell? ⟨w.heap.size,3,none⟩=some (.slice poa pos.length poc)/\w'.cell? ⟨w.heap.size+1,3,none⟩=some (.slice qoa qos.length qoc)/\Below w5.heap.size w5 w'):=Z λ w' hb=>
   ⟨(HSI.o w' (HB5.o.trans (hb.mono HB5.o.size))).2.1,(hb.cell (p:=⟨w.heap.size,3,none⟩) hl5).trans P3,(hb.cell (p:=⟨w.heap.size+1,3,none⟩) hl6).trans Q3,hb⟩
  go_region_held3(λ w'=>w'.cell? ⟨sb,1,none⟩=some (.slice ca0 xs.length cc0)/\w'.cell? ⟨w.heap.size,3,none⟩=some (.slice poa pos.length poc)/\w'.cell? ⟨w.heap.size+1,3,none⟩=some (.slice qoa qos.length qoc)/\Below w5.heap.size w5 w')
   (first|exact HS.o _ (Below.refl _ _)|exact HS.o _ (Below.refl _ _).drew|exact HS.o _ KB.o|exact HS.o _ KB.o.drew|exact HS.o _ KA.o|exact HS.o _ KA.o.drew|exact HS.o _ (‹_/\_/\_/\Below _ _ _›).2.2.2|exact HS.o _ (‹_/\_/\_/\Below _ _ _›).2.2.2.drew)
   (first
     |(go_at_call 29
       refine(HSQ1.o _ (HB5.o.trans (KA.o.mono HB5.o.size))).mono ?_;rintro e wB ⟨vy,rfl,oy,hB⟩;have KB:=Z (KA.o.trans (hB.mono KA.o.size));have OX2:=Z (OX.o.grown hB);have OY:=Z (oy.lower KA.o.size))
     |(go_at_call 29
       refine(HSP1.o _ (HB5.o.trans ((‹_/\_/\_/\Below _ _ _›).2.2.2.mono HB5.o.size))).mono ?_;rintro e wA ⟨vx,rfl,ox,hA⟩;have KA:=Z ((‹_/\_/\_/\Below _ _ _›).2.2.2.trans (hA.mono (‹_/\_/\_/\Below _ _ _›).2.2.2.size));have OX:=Z (ox.lower (‹_/\_/\_/\Below _ _ _›).2.2.2.size)))
  obtain⟨xa,xc,rfl,hxa,_,_⟩:=OX2.o.at_ (d:=(0,0));obtain⟨ya,yc,rfl,hya,_,_⟩:=OY.o.at_ (d:=(0,0));have HXA:=Z hxa;have HYA:=Z hya;have P1B:=(KB.o.cell (p:=⟨w.heap.size,1,none⟩) hl5).trans P1;have Q1B:=(KB.o.cell (p:=⟨w.heap.size+1,1,none⟩) hl6).trans Q1;have HBW:=Z (HB5.o.trans (KB.o.mono HB5.o.size));clear hxa hya P1 P3 Q1 Q3 hl5 hl6 HS OX2 OY OX
  (try clear KA)
  by_cases hst:pst=qst
  ·subst hst;by_cases hs2:pst=2
   ·have HR:=Z (HF1.o (λ h=>h.2 hs2));subst hs2
    go_wp2_with fail
    go_ret2
    exact⟨by rw[HR.o];rfl,by first|exact HBW.o|exact below_drewN HBW.o _⟩
   ·have ds:(pst==2)=false:=by simpa using hs2
    have HS2:=Z hs2;clear hs2;by_cases hlen:X.length=Y.length
    ·have HLN:=Z hlen;have HF:=Z (HF5.o rfl HS2.o hlen);have hm12:=HXL.o.1;obtain⟨m,hm⟩:∃m,Y.length=m:=⟨_,rfl⟩
     have HMY:=Z hm;have HMX:Hid (X.length=m):=Z (hlen.trans hm);rw[HMX.o] at hm12;rw[HMX.o,hm];clear hlen hm
     go_wp2_with fail
     clear P1B Q1B
     go_loopw [67] (λ i wr=>∃k:Nat,k<=m/\i= .int .i64 k/\Hid (∀j,j<k->X.getD j (0,0)=Y.getD j (0,0)/\okT L N up xs level (X.getD j (0,0)).2=true)/\Below wB.heap.size wB wr) (λ i _=>m-(intOf i).toNat)
     case atStart=>exact⟨0,by omega,rfl,Z (λ j hj=>by omega),by first|exact Below.refl _ _|exact below_drewN (Below.refl _ _) _⟩
     case round=>
      obtain⟨k,hk,rfl,HALL,hbel⟩:=hrel;have HBE:=Z hbel;have HBV:=Z (HBW.o.trans (hbel.mono HBW.o.size));clear hbel;by_cases hkm:k<m
      ·have hki:(k:Int)<m:=by omega
       obtain⟨pb,po,rfl,hpb,p0,p1⟩:=HXA.o.sev (i:=k) (by rw[HMX.o];exact hkm);obtain⟨qb,qo,rfl,hqb,q0,q1⟩:=HYA.o.sev (i:=k) (by rw[HMY.o];exact hkm);have c0:=(HBE.o.cell (p:=⟨pb,po+k*2,none⟩) hpb).trans p0;have c1:=(HBE.o.cell (p:=⟨pb,po+k*2+1,none⟩) hpb).trans p1;have e0:=(HBE.o.cell (p:=⟨qb,qo+k*2,none⟩) hqb).trans q0;have e1:=(HBE.o.cell (p:=⟨qb,qo+k*2+1,none⟩) hqb).trans q1;have HXK:=Z (HXR1.o _ (getD_mem (0,0) X k (by rw[HMX.o];exact hkm)));have HXN:=Z (HNE1.o (by rw[HMX.o];omega));have HF3K:=Z (HF3.o k);have HF4K:=Z (HF4.o k (by rw[HMX.o];exact hkm));have HNX:Hid (X.getD k (0,0)=Y.getD k (0,0)->okT L N up xs level (X.getD k (0,0)).2=true->∀j,j<k+1->X.getD j (0,0)=Y.getD j (0,0)/\okT L N up xs level (X.getD j (0,0)).2=true):=Z λ h1 h2 j hj=>by
        by_cases e:j=k
        ·subst e;exact⟨h1,h2⟩
        ·exact HALL.o j (by omega)
       clear p0 p1 q0 q1 hpb hqb;generalize X.getD k (0,0)=ev at*;generalize Y.getD k (0,0)=fv at*;obtain⟨V,T⟩:=ev;obtain⟨V',T'⟩:=fv;simp only at c0 c1 e0 e1;by_cases hev:V=V'/\T=T'
       ·obtain⟨rfl,rfl⟩:=hev;obtain⟨t,ht1,ht2⟩:=isB_nat HXK.o;obtain rfl:T=(t:Int):=ht1;have HTL:=Z ht2;have hnq:∀W,(binOp .neq 83 (.agg #[.int .i64 V,.int .i64 (t:Int)]) (.agg #[.int .i64 V,.int .i64 (t:Int)])).run Tryz.prog W= .ok (.bool false) W:=λ W=>(neq_sev V t V t W).trans (by simp)
        clear ht2
        go_wp2_with fail
        go_quiet(fail)
        have HBQ:=Z (λ n=>(below_drewN HBV.o n).alloc (by exact HBV.o.size) (.cells #[.int .i64 (t:Int)] 3));have HBQ2:Hid (∀n,Below wr.heap.size wr ((wr.drewN n).alloc (.cells #[.int .i64 (t:Int)] 3))):=Z λ n=>(below_drewN (Below.refl _ _) n).alloc (by exact Nat.le_refl _) _
        have HCQ:Hid (∀n,((wr.drewN n).alloc (.cells #[.int .i64 (t:Int)] 3)).cell? ⟨wr.heap.size,0,none⟩=some (.int .i64 (t:Int))):=Z λ n=>World.cell?_alloc_new (wr.drewN n) _ _ 0
        have HZQ:Hid (∀n,wr.heap.size<((wr.drewN n).alloc (.cells #[.int .i64 (t:Int)] 3)).heap.size):=Z λ n=>by simp
        go_wp2_with(go_at_call 24;refine(HVA.o _ t wr.heap.size 0 1 (HBQ.o _) HTL.o (HZQ.o _) (HCQ.o _)).mono ?_;rintro e w6 ⟨v6,vs,rfl,ov,hmem,hvl,_,hb6⟩;replace hmem:=λ n=>(hmem n).trans varInS_one;obtain⟨va,vc,rfl,hva,_,_⟩:=ov.at_ (d:=0);have HVA6:=Z hva;have HMEM:=Z hmem;have HB6:=Z (hb6.mono (HBQ2.o _).size);have HBB:=Z ((HBQ2.o _).trans HB6.o);have HVL:=Z hvl;clear ov hva hmem hvl hb6)
        have HOK:=Z (okT_eq (N:=N) (up:=up) (xs:=xs) (level:=level) HMEM.o);have HNUM:Hid (∀x∈vs,∃mv:Nat,x=(mv:Int)/\mv<12):=Z λ x hx=>by
         obtain⟨j,_,h1,h2⟩:=(HMEM.o x).1 hx;exact⟨_,h2.symm,HVO.o j h1⟩
        have HBV6:=Z (HBV.o.trans (HBB.o.mono HBV.o.size));have HBE6:=Z (HBE.o.trans (HBB.o.mono HBE.o.size));clear HBQ HBQ2 HCQ HZQ HMEM;obtain⟨lv,hlv⟩:∃lv,vs.length=lv:=⟨_,rfl⟩
        have HLV:=Z hlv;have hlvm:lv<=1000:=by rw[<-hlv];exact HVL.o
        rw[hlv];clear hlv
        go_wp2_with fail
        go_loopw [95] (λ i wr=>∃j:Nat,j<=lv/\i= .int .i64 j/\Hid (∀i,i<j->goodV N up xs level (vs.getD i 0)=true)/\Hid (Same w6 wr)) (λ i _=>lv-(intOf i).toNat)
        case atStart=>exact⟨0,by omega,rfl,Z (λ i hi=>by omega),Z (Same.refl _)⟩
        case round=>
         obtain⟨j,hj,rfl,HAJ,HSM⟩:=hrel;have HBX:=Z (HBV6.o.trans (HSM.o.below _));by_cases hjl:j<lv
         ·have hji:(j:Int)<lv:=by omega
          obtain⟨zb,zo,rfl,hzb,z0⟩:=HVA6.o.int (i:=j) (by rw[HLV.o];exact hjl);have z1:=(HSM.o.cell ⟨zb,zo+j,none⟩).trans z0;obtain⟨mv,hmv,hm12⟩:=HNUM.o _ (getD_mem 0 vs j (by rw[HLV.o];exact hjl));have HBJ:Hid (goodV N up xs level (vs.getD j 0)=false->nb=false):=Z λ h=>HF4K.o (by
           show okT L N up xs level (t:Int)=false;rw[HOK.o];exact List.all_eq_false.2 ⟨_,getD_mem 0 vs j (by rw[HLV.o];exact hjl),by rw[h];decide⟩)
          have HNJ:Hid (goodV N up xs level (vs.getD j 0)=true->∀i,i<j+1->goodV N up xs level (vs.getD i 0)=true):=Z λ h i hi=>by
           by_cases e:i=j
           ·subst e;exact h
           ·exact HAJ.o i (by omega)
          rw[hmv] at z1 HBJ HNJ;clear z0 hzb hmv;have hxp:0<xs.length:=HXN.o;have HGV:Hid (goodV N up xs level (mv:Int)=(!(decide (mv%2=1))&&leB N up (xs.getD (mv/2%xs.length) 0) level)):=Z (by
           unfold goodV;rw[show(mv:Int)/2=((mv/2:Nat):Int) by omega,<-Int.natCast_emod,Int.toNat_natCast]
           congr 2
           rw[Bool.eq_iff_iff,beq_iff_eq,decide_eq_true_eq];omega)
          by_cases hodd:mv%2=1
          ·have HR:=Z (HBJ.o (by rw[HGV.o,decide_eq_true hodd];rfl));have t1:Int.tmod (mv:Int) 2=1:=by rw[Int.tmod_eq_emod_of_nonneg (by omega)];omega
           have t2:(mv:Int)%2=1:=by omega
           clear hodd
           go_wp2_with fail
           go_quiet(fail)
           go_wp2_with fail
           go_ret2
           exact⟨by rw[HR.o];rfl,below_drewN HBX.o _⟩
          ·have t1:Int.tmod (mv:Int) 2=0:=by rw[Int.tmod_eq_emod_of_nonneg (by omega)];omega
           have t2:(mv:Int)%2=0:=by omega
           rw[decide_eq_false hodd,Bool.not_false,Bool.true_and] at HGV;obtain⟨d,hd⟩:∃d,mv/2=d:=⟨_,rfl⟩
           obtain⟨c,hc⟩:∃c,d%xs.length=c:=⟨_,rfl⟩
           rw[hd,hc] at HGV;have hcl:c<xs.length:=by rw[<-hc];exact Nat.mod_lt _ hxp
           have t3:Int.tdiv (mv:Int) 2=(d:Int):=by rw[Int.tdiv_eq_ediv_of_nonneg (by omega)];omega
           have t4:(mv:Int)/2=(d:Int):=by omega
           have t5:Int.tmod (d:Int) (xs.length:Int)=(c:Int):=by rw[Int.tmod_eq_emod_of_nonneg (by omega),<-hc,Int.natCast_emod]
           have t6:(d:Int)%(xs.length:Int)=(c:Int):=by rw[<-hc,Int.natCast_emod]
           have t7:(xs.length:Int)≠0:=by omega
           have t8:(c:Int)<xs.length:=by omega
           have t9:IntKind.i64.wrap (d:Int)=(d:Int):=by rw[IntKind.wrap_i64];omega
           have t10:IntKind.i64.wrap (c:Int)=(c:Int):=by rw[IntKind.wrap_i64];omega
           obtain⟨s0,s1,s2⟩:=HSI.o wr HBX.o;obtain⟨lvb,lvo,rfl,hlvb,l0⟩:=s2.int (i:=c) hcl;have HC:=Z (HLE.o wr (xs.getD c 0) HBX.o);clear hd hc hodd s2 hlvb hcl;generalize xs.getD c 0=lvl at*;generalize hxn:xs.length=xn at*;cases hle:leB N up lvl level with
           |true=>
            rw[hle] at HC HGV;clear hle;have HNX2:=Z (HNJ.o HGV.o)
            go_wp2_with fail
            go_quiet((go_at_call 40;exact HC.o _))
            go_wp2_with fail
            go_roundw
            case rel=>exact⟨j+1,by omega,by go_num,HNX2,Z (HSM.o.drewN _)⟩
            case measure=>simp[intOf]<;>omega
           |false=>
            rw[hle] at HC HGV;clear hle;have HR:=Z (HBJ.o HGV.o)
            go_wp2_with fail
            go_quiet((go_at_call 40;exact HC.o _))
            go_wp2_with fail
            go_ret2
            exact⟨by rw[HR.o];rfl,below_drewN HBX.o _⟩
         ·obtain rfl:j=lv:=by omega
          have HGO:Hid (okT L N up xs level (t:Int)=true):=Z (by
           rw[HOK.o,List.all_eq_true];intro x hx;obtain⟨i,hi,rfl⟩:=List.getElem_of_mem hx;have:=HAJ.o i (by rw[<-HLV.o];exact hi);simpa[List.getD_eq_getElem?_getD,List.getElem?_eq_getElem hi] using this)
          have HNA:=Z (HNX.o (by first|exact trivial|rfl) HGO.o)
          go_wp2_with fail
          go_roundw
          case rel=>exact⟨k+1,by omega,by go_num,HNA,HBE6.o.trans (HSM.o.below _)⟩
          case measure=>simp[intOf]<;>omega
       ·have HR:=Z (HF3K.o (λ h=>hev (by injection h with h1 h2;exact⟨h1,h2⟩)));have hnq:∀W,(binOp .neq 83 (.agg #[.int .i64 V,.int .i64 T]) (.agg #[.int .i64 V',.int .i64 T'])).run Tryz.prog W= .ok (.bool true) W:=λ W=>(neq_sev V T V' T' W).trans (by
         have:(V==V'&&T==T')=false:=by
          rw[Bool.eq_false_iff];intro h;simp only[Bool.and_eq_true,beq_iff_eq] at h;exact hev h
         rw[this];rfl)
        clear hev
        go_wp2_with fail
        go_quiet(fail)
        go_wp2_with fail
        go_ret2
        exact⟨by rw[HR.o];rfl,below_drewN HBV.o _⟩
      ·obtain rfl:k=m:=by omega
       have HR:=Z (HF.o (λ j hj=>HALL.o j (by rw[HMX.o] at hj;exact hj)))
       go_wp2_with fail
       go_ret2
       exact⟨by rw[HR.o];rfl,HBV.o⟩
    ·have HR:=Z (HF2.o hlen);have dl:((X.length:Int) !=(Y.length:Int))=true:=by simp;omega
     clear hlen;generalize X.length=lx at*;generalize Y.length=ly at*
     go_wp2_with fail
     go_ret2
     exact⟨by rw[HR.o];rfl,by first|exact HBW.o|exact below_drewN HBW.o _⟩
  ·have HR:=Z (HF1.o (λ h=>hst h.1));have ds:(pst !=qst)=true:=by simpa using hst
   clear hst
   go_wp2_with fail
   go_ret2
   exact⟨by rw[HR.o];rfl,by first|exact HBW.o|exact below_drewN HBW.o _⟩
end Go.Proofs.YtgdpkkjfcdhmdaaGreatDoor
