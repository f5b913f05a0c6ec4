/- Walk: Leak, where what it is given may be. -/
import Derived.Test.YtgdpkkjfcdhmdaaGreatDoorS0
import Derived.Test.YtgdpkkjfcdhmdaaGreatDoorU19
namespace Go.Proofs.YtgdpkkjfcdhmdaaGreatDoor
open Go Go.RowKit
section
variable {u w:World} {B gb mb:Nat} {A:Nat->Prop} {nv:Value} {W:Nat} {L L0:List Nd} {c:Nat} {lb N:Nat} {up dn:Nat->Nat} {level:Int} {ca:Option Addr} {cc:Nat} {xs:List Int} {sa:Option Addr} {sc:Nat} {ys:List Int} {sb:Nat} {sens:Bool} {p q:PathN}
set_option maxRecDepth 100000 in
set_option maxHeartbeats 64000000 in
theorem leak_ok(hu:Below u.heap.size u w)(hub:u.heap.size<=B)(hB:B<=w.heap.size)(hS:SideAt u sb lb ca cc xs sa sc ys)(hL:LatC u lb N up dn)(hso:sideOk N xs ys=true)(hsen:u.cell? ⟨sb,3,none⟩=some (.bool sens))(hcm:u.cell? ⟨0,0,none⟩=some (.func (Fn.func 209) #[] #[])/\u.cell? ⟨0,1,none⟩=some (.func (Fn.func 210) #[] #[]))
  (hp:p.Ok u)(hps:p.short)(hq:q.Ok u)(hqs:q.short)(h:PG w B A gb mb nv W L)(h1:1<=W)(h2:W<=64)(hst:St W (visB N up xs level) L0 L c)(hroom:c+200+L0.length+12<=999)(hg0:GOk W L0)(hT:∀t∈termsN p q,t<L.length->t<L0.length)(hok:okB N L.length xs.length ys.length level p q=true):
  Calls Tryz.prog 8 #[.pointer (some ⟨sb,0,none⟩),.pointer (some ⟨gb,0,none⟩),.int .i64 level,p.v,q.v] w (LeakP w B A gb mb nv W N up xs ys level L0 L c sens p q):=by
 obtain⟨na,nc,hgn,_⟩:=h.rv.nodes;have hLl:L.length<=999:=by have:=hst.len;omega
 obtain⟨hti,htl⟩:=okB_terms hok;have HTI:=Z hti;have HTLT:=Z htl;have HNT:Hid ((termsN p q).length<=1000):=Z (by
  obtain⟨a1,a2,a3,_⟩:=hps;obtain⟨b1,b2,b3,_⟩:=hqs;unfold termsN termsI;simp only[List.length_map,List.length_append];omega)
 have HMAY:Hid (∀w',Below w.heap.size w w'->∀a,Lay.path.At default w' a [p,q]->Calls Tryz.prog 23 #[.pointer (some ⟨sb,0,none⟩),.pointer (some ⟨gb,0,none⟩),.int .i64 level,.slice a 2 2] w' λ e w''=>e= .returned (.int .i64 0)/\Below w'.heap.size w' w''):=Z λ w' hb a ha=>by
  have hb':Below u.heap.size u w':=hu.trans (hb.mono hu.size);have:=may23 N gb L.length level a 2 [p,q] w' (hS.below hb') (hL.below' hb').hn ((hb.cell (p:=⟨gb,2,none⟩) h.rv.low).trans hgn) ha (λ r hr=>by simp at hr;rcases hr with rfl|rfl;exact⟨hp.below hb',hps⟩;exact⟨hq.below hb',hqs⟩) (by simp);unfold okB at hok;rw[hok] at this;exact this
 have HPA:Hid (∀w':World,Lay.path.At default (w'.alloc (.cells (Lay.path.f p++Lay.path.f q).toArray 28)) (some ⟨w'.heap.size,0,none⟩) [p,q]):=Z λ w'=>by
  have:=Lay.At.made (L:=Lay.path) (d:=default) w' [p,q] 28;simpa[Lay.flat] using this
 have HTP:Hid (∀w',Below w.heap.size w w'->Calls Tryz.prog 25 #[p.v] w' λ e w''=>∃v,e= .returned v/\(Lay.int .i64).Own 3 w'' w'.heap.size v (termsI p)/\Below w'.heap.size w' w''):=Z λ w' hb=>terms25 w' p (hp.below (hu.trans (hb.mono hu.size))) hps
 have HTQ:Hid (∀w',Below w.heap.size w w'->Calls Tryz.prog 25 #[q.v] w' λ e w''=>∃v,e= .returned v/\(Lay.int .i64).Own 3 w'' w'.heap.size v (termsI q)/\Below w'.heap.size w' w''):=Z λ w' hb=>terms25 w' q (hq.below (hu.trans (hb.mono hu.size))) hqs
 have HVA:Hid (∀w' (a:Option Addr) (k:Nat),Below w.heap.size w w'->(a=none->k=0)->(Lay.int .i64).At 0 w' a (intsN (termsN p q))->Calls Tryz.prog 24 #[.pointer (some ⟨gb,0,none⟩),.slice a (termsN p q).length k] w' (VarsR w' L (termsN p q))):=Z λ w' a k hb hn hat=>
  vars24 (h.below hb).rv (termsN p q) (λ j _ h=>by have:=hst.vok j h;omega) htl (by omega) HNT.o a k hn hat
 have hpk:pathOk L.length xs.length ys.length p=true/\pathOk L.length xs.length ys.length q=true:=by
  unfold okB at hok;simp only[Bool.and_eq_true,List.all_cons,List.all_nil] at hok;exact⟨hok.2.1,hok.2.2.1⟩
 have HSPR:=Z (λ w' hb=>seenEv (⟨hS.l,hS.y⟩:SideX u sb lb sa ys) hL (ev_rs hpk.1 hps) hp.r w' hb (zc:=sc) (ec:=p.rc) (level:=level));have HSQR:=Z (λ w' hb=>seenEv (⟨hS.l,hS.y⟩:SideX u sb lb sa ys) hL (ev_rs hpk.2 hqs) hq.r w' hb (zc:=sc) (ec:=q.rc) (level:=level));have HSPO:=Z (λ w' hb=>seenEv (⟨hS.l,hS.x⟩:SideX u sb lb ca xs) hL (ev_os hpk.1 hps) hp.o w' hb (zc:=cc) (ec:=p.oc) (level:=level));have HSQO:=Z (λ w' hb=>seenEv (⟨hS.l,hS.x⟩:SideX u sb lb ca xs) hL (ev_os hpk.2 hqs) hq.o w' hb (zc:=cc) (ec:=q.oc) (level:=level));have HNEV:=Z (λ(hno:¬OddV L (termsN p q))=>And.intro (seenN_ok (N:=N) (up:=up) (level:=level) (ev_rs hpk.1 hps) (terms_os (p:=p) (q:=q)).2.1 hT hst.pre hg0 hno) (And.intro (seenN_ok (N:=N) (up:=up) (level:=level) (ev_rs hpk.2 hqs) (terms_os (p:=p) (q:=q)).2.2.2.1 hT hst.pre hg0 hno)
  (And.intro (seenN_ok (N:=N) (up:=up) (level:=level) (ev_os hpk.1 hps) (terms_os (p:=p) (q:=q)).1 hT hst.pre hg0 hno) (seenN_ok (N:=N) (up:=up) (level:=level) (ev_os hpk.2 hqs) (terms_os (p:=p) (q:=q)).2.2.1 hT hst.pre hg0 hno))))
 have HPCS:=Z (cs_int hpk.1).2;have HQCS:=Z (cs_int hpk.2).2;have HPCL:=Z (And.intro hps.1 hqs.1);have HCSP:=Z (λ(hno:¬OddV L (termsN p q))=>And.intro (cs_ok (cs_int hpk.1).1 (terms_os (p:=p) (q:=q)).2.2.2.2.1 hT hst.pre hg0 hno) (cs_ok (cs_int hpk.2).1 (terms_os (p:=p) (q:=q)).2.2.2.2.2 hT hst.pre hg0 hno));have HU:=Z hu;have HUB:=Z hub;have HBB:=Z hB;have HSI:=Z hS;have HLA:=Z hL;have HSO:=Z hso;have HSE:=Z hsen;have HCM:=Z hcm;have HPO:=Z hp;have HPS:=Z hps;have HQO:=Z hq;have HQS:=Z hqs;have HP:=Z h;have HST:=Z hst;have HRM:=Z hroom;have HG0:=Z hg0;have HT:=Z hT;have HOK:=Z hok;have HW:=Z (And.intro h1 h2);generalize hts:termsN p q=ts at*;have HTS:=Z hts;clear hpk hu hub hB hS hL hso hsen hcm hp hps hq hqs h hst hroom hg0 hT hok hgn hti htl h1 h2 hLl hts;obtain⟨p',hp'⟩:∃p',p'=p:=⟨_,rfl⟩
 obtain⟨q',hq'⟩:∃q',q'=q:=⟨_,rfl⟩
 have HPO2:Hid (LeakP w B A gb mb nv W N up xs ys level L0 L c sens p q=LeakP w B A gb mb nv W N up xs ys level L0 L c sens p' q'):=Z (by rw[hp',hq']);rw[HPO2.o];have HPQ:=Z (And.intro hp' hq');have HTS2:Hid (termsN p' q'=ts):=Z (by rw[hp',hq'];exact HTS.o);generalize hXA:seenN N up ys level p.rs=XA at*;generalize hXB:seenN N up ys level q.rs=XB at*;generalize hXC:seenN N up xs level p.os=XC at*;generalize hXD:seenN N up xs level q.os=XD at*;have HXE:Hid (seenN N up ys level p'.rs=XA/\seenN N up ys level q'.rs=XB/\seenN N up xs level p'.os=XC/\seenN N up xs level q'.os=XD):=Z ⟨by rw[hp'];exact hXA,by rw[hq'];exact hXB,by rw[hp'];exact hXC,by rw[hq'];exact hXD⟩;clear HPO2 hp' hq' hXA hXB hXC hXD;obtain⟨pca,pcc,pcs,pst,psp,poa,poc,pos,pra,prc,prs,pba,pbc,pbs,pia,pic,pis⟩:=p;obtain⟨qca,qcc,qcs,qst,qsp,qoa,qoc,qos,qra,qrc,qrs,qba,qbc,qbs,qia,qic,qis⟩:=q;simp only[PathN.v] at*;go_enter Tryz.func8,Tryz.ntmps8
 go_upto_region 1 with fail
 generalize hw5:((((w.alloc (.cells #[.pointer (some ⟨sb,0,none⟩)] 32)).alloc (.cells #[.pointer (some ⟨gb,0,none⟩)] 34)).alloc (.cells #[.int .i64 level] 3)).alloc (.cells #[.slice pca pcs.length pcc,.int .u8 pst,.int .i64 psp,.slice poa pos.length poc,.slice pra prs.length prc,.slice pba pbs.length pbc,.slice pia pis.length pic] 28)).alloc (.cells #[.slice qca qcs.length qcc,.int .u8 qst,.int .i64 qsp,.slice qoa qos.length qoc,.slice qra qrs.length qrc,.slice qba qbs.length qbc,.slice qia qis.length qic] 28)=w5;obtain⟨q1,q2,q3,q4,q5,qb,qs⟩:=boxes5 w _ _ _ _ _ _ _ _ _ _ hw5;have c5:=(q1.at_ 0 _ rfl).1;have c6:=(q2.at_ 0 _ rfl).1;have c7:=(q3.at_ 0 _ rfl).1;have xa0:=(q4.at_ 0 _ rfl).1;have xa1:=(q4.at_ 1 _ rfl).1;have xa2:=(q4.at_ 2 _ rfl).1;have xa3:=(q4.at_ 3 _ rfl).1;have xa4:=(q4.at_ 4 _ rfl).1;have xa5:=(q4.at_ 5 _ rfl).1;have xa6:=(q4.at_ 6 _ rfl).1;have xb0:=(q5.at_ 0 _ rfl).1;have xb1:=(q5.at_ 1 _ rfl).1;have xb2:=(q5.at_ 2 _ rfl).1;have xb3:=(q5.at_ 3 _ rfl).1;have xb4:=(q5.at_ 4 _ rfl).1;have xb5:=(q5.at_ 5 _ rfl).1;have xb6:=(q5.at_ 6 _ rfl).1;have HB5:=Z qb;have HQ5:=Z (And.intro q1 (And.intro q2 (And.intro q3 (And.intro q4 q5))));have HB14:Hid (Below w.heap.size w (w5.alloc (.cells #[.slice pca pcs.length pcc,.int .u8 pst,.int .i64 psp,.slice poa pos.length poc,.slice pra prs.length prc,.slice pba pbs.length pbc,.slice pia pis.length pic,.slice qca qcs.length qcc,.int .u8 qst,.int .i64 qsp,.slice qoa qos.length qoc,.slice qra qrs.length qrc,.slice qba qbs.length qbc,.slice qia qis.length qic] 28))):=Z (bel_al qb _);have HM:Hid (Calls Tryz.prog 23 #[.pointer (some ⟨sb,0,none⟩),.pointer (some ⟨gb,0,none⟩),.int .i64 level,.slice (some ⟨w5.heap.size,0,none⟩) 2 2] (w5.alloc (.cells #[.slice pca pcs.length pcc,.int .u8 pst,.int .i64 psp,.slice poa pos.length poc,.slice pra prs.length prc,.slice pba pbs.length pbc,.slice pia pis.length pic,.slice qca qcs.length qcc,.int .u8 qst,.int .i64 qsp,.slice qoa qos.length qoc,.slice qra qrs.length qrc,.slice qba qbs.length qbc,.slice qia qis.length qic] 28)) λ e w''=>e= .returned (.int .i64 0)/\Below (w5.alloc (.cells #[.slice pca pcs.length pcc,.int .u8 pst,.int .i64 psp,.slice poa pos.length poc,.slice pra prs.length prc,.slice pba pbs.length pbc,.slice pia pis.length pic,.slice qca qcs.length qcc,.int .u8 qst,.int .i64 qsp,.slice qoa qos.length qoc,.slice qra qrs.length qrc,.slice qba qbs.length qbc,.slice qia qis.length qic] 28)).heap.size (w5.alloc (.cells #[.slice pca pcs.length pcc,.int .u8 pst,.int .i64 psp,.slice poa pos.length poc,.slice pra prs.length prc,.slice pba pbs.length pbc,.slice pia pis.length pic,.slice qca qcs.length qcc,.int .u8 qst,.int .i64 qsp,.slice qoa qos.length qoc,.slice qra qrs.length qrc,.slice qba qbs.length qbc,.slice qia qis.length qic] 28)) w''):=Z (HMAY.o _ HB14.o _ (HPA.o w5));have HC5:Hid (∀w',Below w5.heap.size w5 w'->w'.cell? ⟨w.heap.size+1,0,none⟩=some (.pointer (some ⟨gb,0,none⟩))/\w'.cell? ⟨w.heap.size+1+1+1,0,none⟩=some (.slice pca pcs.length pcc)/\w'.cell? ⟨w.heap.size+1+1+1,1,none⟩=some (.int .u8 pst)/\w'.cell? ⟨w.heap.size+1+1+1,2,none⟩=some (.int .i64 psp)/\w'.cell? ⟨w.heap.size+1+1+1,3,none⟩=some (.slice poa pos.length poc)/\w'.cell? ⟨w.heap.size+1+1+1,4,none⟩=some (.slice pra prs.length prc)/\w'.cell? ⟨w.heap.size+1+1+1,5,none⟩=some (.slice pba pbs.length pbc)/\w'.cell? ⟨w.heap.size+1+1+1,6,none⟩=some (.slice pia pis.length pic)/\w'.cell? ⟨w.heap.size+1+1+1+1,0,none⟩=some (.slice qca qcs.length qcc)/\w'.cell? ⟨w.heap.size+1+1+1+1,1,none⟩=some (.int .u8 qst)/\w'.cell? ⟨w.heap.size+1+1+1+1,2,none⟩=some (.int .i64 qsp)/\w'.cell? ⟨w.heap.size+1+1+1+1,3,none⟩=some (.slice qoa qos.length qoc)/\w'.cell? ⟨w.heap.size+1+1+1+1,4,none⟩=some (.slice qra qrs.length qrc)/\w'.cell? ⟨w.heap.size+1+1+1+1,5,none⟩=some (.slice qba qbs.length qbc)/\w'.cell? ⟨w.heap.size+1+1+1+1,6,none⟩=some (.slice qia qis.length qic)):=Z λ w' hb=>by
  have r2:=q2.keep hb;have r4:=q4.keep hb;have r5:=q5.keep hb;exact⟨(r2.at_ 0 _ rfl).1,(r4.at_ 0 _ rfl).1,(r4.at_ 1 _ rfl).1,(r4.at_ 2 _ rfl).1,(r4.at_ 3 _ rfl).1,(r4.at_ 4 _ rfl).1,(r4.at_ 5 _ rfl).1,(r4.at_ 6 _ rfl).1,(r5.at_ 0 _ rfl).1,(r5.at_ 1 _ rfl).1,(r5.at_ 2 _ rfl).1,(r5.at_ 3 _ rfl).1,(r5.at_ 4 _ rfl).1,(r5.at_ 5 _ rfl).1,(r5.at_ 6 _ rfl).1⟩
 have HS5:=Z qs;clear hw5 q1 q2 q3 q4 q5 qb qs HMAY HPA;generalize hp1:w.heap.size+1=p1 at*;generalize hp2:p1+1=p2 at*;generalize hp3:p2+1=p3 at*;generalize hp4:p3+1=p4 at*;have HPP:Hid (p1=w.heap.size+1/\p2=w.heap.size+2/\p3=w.heap.size+3/\p4=w.heap.size+4):=Z (by omega);clear hp1 hp2 hp3 hp4
 go_wp2_with(go_at_call 23;refine HM.o.mono ?_;rintro e w6 ⟨rfl,hb6⟩;have HB6:=Z (HB14.o.trans (hb6.mono HB14.o.size));have HD6:=Z ((bel_al (Below.refl w5.heap.size w5) (.cells #[.slice pca pcs.length pcc,.int .u8 pst,.int .i64 psp,.slice poa pos.length poc,.slice pra prs.length prc,.slice pba pbs.length pbc,.slice pia pis.length pic,.slice qca qcs.length qcc,.int .u8 qst,.int .i64 qsp,.slice qoa qos.length qoc,.slice qra qrs.length qrc,.slice qba qbs.length qbc,.slice qia qis.length qic] 28)).trans (hb6.mono (by simp)));clear hb6)
 have HS6:Hid (∀w',Below w6.heap.size w6 w'->Below w6.heap.size w6 w'/\w'.cell? ⟨p1,0,none⟩=some (.pointer (some ⟨gb,0,none⟩))/\w'.cell? ⟨p3,0,none⟩=some (.slice pca pcs.length pcc)/\w'.cell? ⟨p3,1,none⟩=some (.int .u8 pst)/\w'.cell? ⟨p3,2,none⟩=some (.int .i64 psp)/\w'.cell? ⟨p3,3,none⟩=some (.slice poa pos.length poc)/\w'.cell? ⟨p3,4,none⟩=some (.slice pra prs.length prc)/\w'.cell? ⟨p3,5,none⟩=some (.slice pba pbs.length pbc)/\w'.cell? ⟨p3,6,none⟩=some (.slice pia pis.length pic)/\w'.cell? ⟨p4,0,none⟩=some (.slice qca qcs.length qcc)/\w'.cell? ⟨p4,1,none⟩=some (.int .u8 qst)/\w'.cell? ⟨p4,2,none⟩=some (.int .i64 qsp)/\w'.cell? ⟨p4,3,none⟩=some (.slice qoa qos.length qoc)/\w'.cell? ⟨p4,4,none⟩=some (.slice qra qrs.length qrc)/\w'.cell? ⟨p4,5,none⟩=some (.slice qba qbs.length qbc)/\w'.cell? ⟨p4,6,none⟩=some (.slice qia qis.length qic)):=Z λ w' hb=>⟨hb,HC5.o w' (HD6.o.trans (hb.mono HD6.o.size))⟩
 have HLT:Hid ((termsI ⟨pca,pcc,pcs,pst,psp,poa,poc,pos,pra,prc,prs,pba,pbc,pbs,pia,pic,pis⟩).length+(termsI ⟨qca,qcc,qcs,qst,qsp,qoa,qoc,qos,qra,qrc,qrs,qba,qbc,qbs,qia,qic,qis⟩).length<=1000000):=Z (by have e:=congrArg List.length HTI.o;rw[List.length_append,intsN_len] at e;have:=HNT.o;omega);rename_i K hK
 go_region_held3(λ w'=>Below w6.heap.size w6 w'/\w'.cell? ⟨p1,0,none⟩=some (.pointer (some ⟨gb,0,none⟩))/\w'.cell? ⟨p3,0,none⟩=some (.slice pca pcs.length pcc)/\w'.cell? ⟨p3,1,none⟩=some (.int .u8 pst)/\w'.cell? ⟨p3,2,none⟩=some (.int .i64 psp)/\w'.cell? ⟨p3,3,none⟩=some (.slice poa pos.length poc)/\w'.cell? ⟨p3,4,none⟩=some (.slice pra prs.length prc)/\w'.cell? ⟨p3,5,none⟩=some (.slice pba pbs.length pbc)/\w'.cell? ⟨p3,6,none⟩=some (.slice pia pis.length pic)/\w'.cell? ⟨p4,0,none⟩=some (.slice qca qcs.length qcc)/\w'.cell? ⟨p4,1,none⟩=some (.int .u8 qst)/\w'.cell? ⟨p4,2,none⟩=some (.int .i64 qsp)/\w'.cell? ⟨p4,3,none⟩=some (.slice qoa qos.length qoc)/\w'.cell? ⟨p4,4,none⟩=some (.slice qra qrs.length qrc)/\w'.cell? ⟨p4,5,none⟩=some (.slice qba qbs.length qbc)/\w'.cell? ⟨p4,6,none⟩=some (.slice qia qis.length qic))
  (first|with_reducible exact HS6.o _ (Below.refl _ _).drew|with_reducible exact HS6.o _ KV.o|with_reducible exact HS6.o _ KJ.o|with_reducible exact HS6.o _ KA.o|with_reducible exact HS6.o _ KB.o|fail)
  (first
    |(go_at_call 25
      have ho1:=HO1.o;have hcur:=(‹Below w6.heap.size w6 _/\_›).1;refine(HTQ.o _ (HB6.o.trans (hcur.mono HB6.o.size))).mono ?_;rintro e wb ⟨v2,rfl,ho,hb⟩;obtain⟨a2,k2,rfl,hat2,hn2,_⟩:=ho.atBase (d:=0);have KB:=Z (hcur.trans (hb.mono hcur.size));have HA2:=Z hat2;have HN2:=Z hn2;have HO1x:=Z (ho1.grown hb);have HBLx:=Z (Nat.le_trans HBL.o hb.size);clear ho hb hcur hat2 hn2 ho1)
    |(go_at_call 25
      have hcur:=(‹Below w6.heap.size w6 _/\_›).1;refine(HTP.o _ (HB6.o.trans (hcur.mono HB6.o.size))).mono ?_;rintro e wa ⟨v1,rfl,ho,hb⟩;have KA:=Z (hcur.trans (hb.mono hcur.size));have HO1:=Z ho;have HBS:=Z hcur.size;have HBL:=Z hb.size;clear ho hb hcur)
    |(refine step_join (d:=0) Tryz.elemI rfl _ _ rfl rfl HO1x.o rfl HN2.o rfl HA2.o HLT.o HBLx.o ?_
      intro v3 w8 p1 p2 p3;have hcur:=(‹Below w6.heap.size w6 _/\_›).1;have KJ:Hid (Below w6.heap.size w6 w8):=Z (hcur.grown p2 hcur.size λ k e=>Nat.le_trans HBS.o (HO1x.o.lt k e).1);rw[HTI.o] at p1;obtain⟨a3,k3,rfl,hat3,hn3,_⟩:=p1.atBase (d:=0);rw[intsN_len];have HA3:=Z hat3;have HN3:=Z hn3;clear p1 p2 p3 hat3 hn3 hcur)
    |(go_at_call 24
      refine(HVA.o _ _ _ (HB6.o.trans (KJ.o.mono HB6.o.size)) HN3.o HA3.o).mono ?_;rintro e w9 ⟨v,ys2,rfl,q1,q2,q3,q4,q5⟩;have KV:=Z (KJ.o.trans (q5.mono KJ.o.size));obtain⟨vs,rfl⟩:=vars_nat q2;obtain⟨va,vcap,rfl,qa,_,qm⟩:=q1.at_ (d:=0);rw[intsN_len] at q3;rw[intsN_len];have HYA:=Z qa;have HY2:=Z q2;have HY3:=Z q3;clear q1 q2 q3 q4 q5 qa qm))
 clear HC5 HTP HTQ HVA HLT HNT HTI HM HB5 c5 c6 c7 xa0 xa1 xa2 xa3 xa4 xa5 xa6 xb0 xb1 xb2 xb3 xb4 xb5 xb6;obtain⟨vn,hvn⟩:∃vn,vs.length=vn:=⟨_,rfl⟩
 rw[hvn] at HY3⊢;have HVN:=Z hvn;clear hvn;have HV12:Hid (∀n∈vs,n<12):=Z λ n hn=>by
  obtain⟨j,o,e1,e2⟩:=(HY2.o (n:Int)).1 (List.mem_map.2 ⟨n,hn,rfl⟩);have:=HST.o.vok j e1;omega
 have hvn3:=HY3.o
 go_wp2_with fail
 go_loopw [52] (λ i wr=>∃k:Nat,k<=vn/\i= .int .i64 k/\wr=w9/\Hid (∀n∈vs.take k,n%2=0)) (λ i _=>vn-(intOf i).toNat)
 case atStart=>exact⟨0,by omega,rfl,rfl,Z (by simp)⟩
 case round=>
  obtain⟨k,hk,rfl,rfl,hev⟩:=hrel;by_cases hk0:k<vn
  ·have hki:(k:Int)<vn:=by omega
   obtain⟨tb,to_,rfl,htb,c0⟩:=HYA.o.int (i:=k) (by rw[intsN_len,HVN.o];exact hk0);rw[intsN_getD] at c0;have hxm:=getD_mem 0 vs k (by rw[HVN.o];exact hk0);have hx12:=HV12.o _ hxm;have HTK:=Z (take_getD 0 vs k (by rw[HVN.o];exact hk0));have HXM:=Z hxm;generalize vs.getD k 0=x at*;clear hxm;have t3:decide ((4194302:Int)<x)=false:=decide_eq_false (by omega);have t4:decide (4194302<x)=false:=decide_eq_false (by omega);by_cases hx2:x%2=0
   ·have t1:Int.tmod (x:Int) 2=0:=by rw[Int.tmod_eq_emod_of_nonneg (by omega)];omega
    have t2:(x:Int)%2=0:=by omega
    have HX2:=Z hx2
    go_wp2_with fail
    go_roundw
    case rel=>exact⟨k+1,by omega,by go_num,trivial,Z λ n hn=>by rw[HTK.o] at hn;rcases List.mem_append.1 hn with hn|hn;exact hev.o n hn;simp at hn;subst hn;exact HX2.o⟩
    case measure=>simp[intOf]<;>omega
   ·have t1:Int.tmod (x:Int) 2=1:=by rw[Int.tmod_eq_emod_of_nonneg (by omega)];omega
    have t2:(x:Int)%2=1:=by omega
    have HODD:Hid (OddV L ts):=Z ⟨x,(HY2.o (x:Int)).1 (List.mem_map.2 ⟨x,HXM.o,rfl⟩),by omega⟩
    go_wp2_with fail
    go_ret2
    exact .inl ⟨by rw[HTS2.o];exact HODD.o,rfl,HB6.o.trans (KV.o.mono HB6.o.size)⟩
  ·obtain rfl:k=vn:=by omega
   have hall:∀n∈vs,n%2=0:=λ n hn=>hev.o n (by rw[<-HVN.o,List.take_length];exact hn)
   have HNO:Hid (¬OddV L ts):=Z λ⟨n,hn,h2⟩=>by
    obtain⟨m,hm,e⟩:=List.mem_map.1 ((HY2.o (n:Int)).2 hn);have:=hall m hm;omega
   clear hk0 hk hvn3 hall hev HV12 HY2 HYA HY3;generalize wr=w9 at*
   go_upto_region 17 with fail
   generalize hw12:((w9.alloc (.cells #[.pointer (some ⟨gb,0,none⟩),.int .i64 0] 77)).alloc (.cells #[.pointer (some ⟨w9.heap.size,0,none⟩)] 75)).alloc (.cells #[.func (Fn.func 26) #[] #[.pointer (some ⟨w9.heap.size+1,0,none⟩),.pointer (some ⟨p1,0,none⟩),.pointer (some ⟨w.heap.size,0,none⟩),.pointer (some ⟨p2,0,none⟩)]] 81)=w12;obtain⟨m1,m2,m3,hb12⟩:=boxes3 w9 _ _ _ _ _ _ _ hw12;clear hw12;generalize hb1:w9.heap.size+1=b1 at*;generalize hb5:b1+1=b5 at*;have HBB2:Hid (w.heap.size<=w9.heap.size/\b1=w9.heap.size+1/\b5=w9.heap.size+2):=Z ⟨Nat.le_trans HB6.o.size KV.o.size,hb1.symm,by omega⟩;clear hb1 hb5;have HB69:Hid (Below w.heap.size w w9):=Z (HB6.o.trans (KV.o.mono HB6.o.size));have HB12:Hid (Below w.heap.size w w12):=Z (HB69.o.trans (hb12.mono HB69.o.size));have HD12:Hid (Below w5.heap.size w5 w12):=Z ((HD6.o.trans (KV.o.mono HD6.o.size)).trans (hb12.mono (Nat.le_trans HD6.o.size KV.o.size)));have HU12:Hid (Below u.heap.size u w12):=Z (HU.o.trans (HB12.o.mono HU.o.size));have hlt:∀k,MutB gb (some mb) nv k->k<w.heap.size:=λ k hk=>(HP.o.lo k hk).2
   obtain⟨q1,q2,q3,q4,q5⟩:=HQ5.o;have q1:=q1.keep HD12.o;have q2:=q2.keep HD12.o;have q3:=q3.keep HD12.o;have q4:=q4.keep HD12.o;have q5:=q5.keep HD12.o;have HNN:Hid (¬MutB gb (some mb) nv w.heap.size/\¬MutB gb (some mb) nv p1/\¬MutB gb (some mb) nv p2/\¬MutB gb (some mb) nv p3/\¬MutB gb (some mb) nv p4/\¬MutB gb (some mb) nv w9.heap.size/\¬MutB gb (some mb) nv b1/\¬MutB gb (some mb) nv b5):=Z (by
    have e1:=HPP.o;have e2:=HBB2.o;refine⟨?_,?_,?_,?_,?_,?_,?_,?_⟩<;>(intro hm;have:=hlt _ hm;omega))
   have HSD:Hid (sb<u.heap.size/\0<u.heap.size/\∀k,k<u.heap.size->¬MutB gb (some mb) nv k):=Z ⟨HSI.o.lt,Nat.lt_of_le_of_lt (Nat.zero_le _) HSI.o.lt,λ k hk hm=>by have:=(HP.o.lo k hm).1;have:=HUB.o;omega⟩;have hso:=HSO.o;unfold sideOk at hso;simp only[Bool.and_eq_true,decide_eq_true_eq,List.all_append] at hso;have hlv:=HOK.o;unfold okB at hlv;rw[Bool.and_eq_true] at hlv;have HE12:Hid (OthE u w12 B gb mb nv lb N up dn level ca cc xs sa sc ys sb w9.heap.size b1 p1 w.heap.size p2 b5):=Z
    ⟨HU12.o,HUB.o,Nat.le_trans HBB.o HB12.o.size,λ k hk=>(HP.o.lo k hk).1,HSI.o,HLA.o,hlv.1,hso.2.1,hso.1.1.1,hso.1.1.2,m1,HNN.o.2.2.2.2.2.1,(m2.at_ 0 _ rfl).1,HNN.o.2.2.2.2.2.2.1,(q2.at_ 0 _ rfl).1,HNN.o.2.1,(q1.at_ 0 _ rfl).1,HNN.o.1,(q3.at_ 0 _ rfl).1,HNN.o.2.2.1,(m3.at_ 0 _ rfl).1,HNN.o.2.2.2.2.2.2.2⟩
   have HC12:Hid (Cur u w12 w12 B A noB gb mb nv nv W (visB N up xs level) L0 L c lb N up dn level ca cc xs sa sc ys sb w9.heap.size b1 p1 w.heap.size p2 b5):=Z ⟨Run.start (HP.o.below HB12.o),HE12.o,HST.o⟩;have HALL:Hid (∀w',Mut (MutB gb (some mb) nv) w12 w'->w'.cell? ⟨0,0,none⟩=some (.func (Fn.func 209) #[] #[])/\w'.cell? ⟨0,1,none⟩=some (.func (Fn.func 210) #[] #[])/\w'.cell? ⟨b1,0,none⟩=some (.pointer (some ⟨w9.heap.size,0,none⟩))/\w'.cell? ⟨w.heap.size,0,none⟩=some (.pointer (some ⟨sb,0,none⟩))/\w'.cell? ⟨p2,0,none⟩=some (.int .i64 level)/\w'.cell? ⟨sb,1,none⟩=some (.slice ca xs.length cc)/\w'.cell? ⟨sb,2,none⟩=some (.slice sa ys.length sc)/\w'.cell? ⟨p3,3,none⟩=some (.slice poa pos.length poc)/\w'.cell? ⟨p3,4,none⟩=some (.slice pra prs.length prc)/\w'.cell? ⟨p4,3,none⟩=some (.slice qoa qos.length qoc)/\w'.cell? ⟨p4,4,none⟩=some (.slice qra qrs.length qrc)):=Z λ w' hm=>by
    have r1:=q1.written hm HNN.o.1;have r3:=q3.written hm HNN.o.2.2.1;have r4:=q4.written hm HNN.o.2.2.2.1;have r5:=q5.written hm HNN.o.2.2.2.2.1;have r6:=m2.written hm HNN.o.2.2.2.2.2.2.1;have hbu:∀k,k<u.heap.size->w'.heap[k]? =u.heap[k]? :=λ k hk=>(hm.block k (Nat.lt_of_lt_of_le hk HU12.o.size) (HSD.o.2.2 k hk)).trans (HU12.o.block k hk)
    exact⟨(World.cell?_of_block (a:=⟨0,0,none⟩) (hbu 0 HSD.o.2.1)).trans HCM.o.1,(World.cell?_of_block (a:=⟨0,1,none⟩) (hbu 0 HSD.o.2.1)).trans HCM.o.2,(r6.at_ 0 _ rfl).1,(r1.at_ 0 _ rfl).1,(r3.at_ 0 _ rfl).1,(World.cell?_of_block (a:=⟨sb,1,none⟩) (hbu sb HSD.o.1)).trans HSI.o.c1,(World.cell?_of_block (a:=⟨sb,2,none⟩) (hbu sb HSD.o.1)).trans HSI.o.c2,(r4.at_ 3 _ rfl).1,(r4.at_ 4 _ rfl).1,(r5.at_ 3 _ rfl).1,(r5.at_ 4 _ rfl).1⟩
   have HAL2:Hid (∀w',Mut (MutB gb (some mb) nv) w12 w'->w'.cell? ⟨sb,3,none⟩=some (.bool sens)/\w'.cell? ⟨p3,0,none⟩=some (.slice pca pcs.length pcc)/\w'.cell? ⟨p3,1,none⟩=some (.int .u8 pst)/\w'.cell? ⟨p4,0,none⟩=some (.slice qca qcs.length qcc)/\w'.cell? ⟨p4,1,none⟩=some (.int .u8 qst)):=Z λ w' hm=>by
    have r4:=q4.written hm HNN.o.2.2.2.1;have r5:=q5.written hm HNN.o.2.2.2.2.1;have hbu:∀k,k<u.heap.size->w'.heap[k]? =u.heap[k]? :=λ k hk=>(hm.block k (Nat.lt_of_lt_of_le hk HU12.o.size) (HSD.o.2.2 k hk)).trans (HU12.o.block k hk)
    exact⟨(World.cell?_of_block (a:=⟨sb,3,none⟩) (hbu sb HSD.o.1)).trans HSE.o,(r4.at_ 0 _ rfl).1,(r4.at_ 1 _ rfl).1,(r5.at_ 0 _ rfl).1,(r5.at_ 1 _ rfl).1⟩
   obtain⟨d0,d1,d2,d3,d4⟩:=HAL2.o w12 (Mut.of_below (Below.refl _ _));have d5:=(q1.at_ 0 _ rfl).1;have hpst:p'.st=pst:=by rw[HPQ.o.1]
   have hqst:q'.st=qst:=by rw[HPQ.o.2]
   have hsix:(sens=true/\¬pst=qst/\modeB sens p' q'=false/\(modeB sens p' q'||decide (p'.st=q'.st))=false)\/(sens=false/\¬pst=2/\¬qst=2/\¬pst=qst/\modeB sens p' q'=false/\(modeB sens p' q'||decide (p'.st=q'.st))=false)\/(sens=true/\pst=qst/\modeB sens p' q'=false/\(modeB sens p' q'||decide (p'.st=q'.st))=true)\/(sens=false/\pst=2/\modeB sens p' q'=true/\(modeB sens p' q'||decide (p'.st=q'.st))=true)\/(sens=false/\¬pst=2/\qst=2/\modeB sens p' q'=true/\(modeB sens p' q'||decide (p'.st=q'.st))=true)\/(sens=false/\¬pst=2/\¬qst=2/\pst=qst/\modeB sens p' q'=false/\(modeB sens p' q'||decide (p'.st=q'.st))=true):=by
    unfold modeB;rw[hpst,hqst];cases sens<;>by_cases e1:pst=2<;>by_cases e2:qst=2<;>by_cases e3:pst=qst<;>simp_all
   clear q1 q2 q3 q4 q5 m1 m2 m3 hb12 hlt hso hlv hpst hqst HQ5 HD6 HSO HOK HE12;rcases hsix with⟨rfl,e3,hm,hsm⟩|⟨rfl,e1,e2,e3,hm,hsm⟩|⟨rfl,e3,hm,hsm⟩|⟨rfl,rfl,hm,hsm⟩|⟨rfl,e1,rfl,hm,hsm⟩|⟨rfl,e1,e2,e3,hm,hsm⟩
   all_goals
    have HMD:=Z (And.intro hm hsm);clear hm hsm
    try have f1:(pst==2)=false:=by simpa using e1
    try have f2:decide (pst=2)=false:=by simpa using e1
    try have g1:(qst==2)=false:=by simpa using e2
    try have g2:decide (qst=2)=false:=by simpa using e2
    try have e4:(pst==qst)=true:=by simpa using e3
    try have e4:(pst==qst)=false:=by simpa using e3
    try have e5:decide (pst=qst)=true:=by simpa using e3
    try have e5:decide (pst=qst)=false:=by simpa using e3
    go_upto_region 19 with fail
    clear d0 d1 d2 d3 d4 d5
   all_goals
    have hnev:=HNEV.o HNO.o;have HXA:=Z hnev.1;have HXB:=Z hnev.2.1;have HXC:=Z hnev.2.2.1;have HXD:=Z hnev.2.2.2;clear hnev;have hvl:=(HST.o.len)
    have HCB:Hid (∀(M:List Nd) k,St W (visB N up xs level) L0 M (c+k)->k<=150->M.length+1+4*12<=999):=Z λ M k hs hk=>by have:=hs.len;have:=HRM.o;omega
    have HK0:=Z (HC12.o.keep (Below.refl _ _).drew)
    go_region_held3(λ w'=>w'.cell? ⟨0,0,none⟩=some (.func (Fn.func 209) #[] #[])/\w'.cell? ⟨0,1,none⟩=some (.func (Fn.func 210) #[] #[])/\w'.cell? ⟨b1,0,none⟩=some (.pointer (some ⟨w9.heap.size,0,none⟩))/\w'.cell? ⟨w.heap.size,0,none⟩=some (.pointer (some ⟨sb,0,none⟩))/\w'.cell? ⟨p2,0,none⟩=some (.int .i64 level)/\w'.cell? ⟨sb,1,none⟩=some (.slice ca xs.length cc)/\w'.cell? ⟨sb,2,none⟩=some (.slice sa ys.length sc)/\w'.cell? ⟨p3,3,none⟩=some (.slice poa pos.length poc)/\w'.cell? ⟨p3,4,none⟩=some (.slice pra prs.length prc)/\w'.cell? ⟨p4,3,none⟩=some (.slice qoa qos.length qoc)/\w'.cell? ⟨p4,4,none⟩=some (.slice qra qrs.length qrc))
     (first|with_reducible exact HALL.o _ HK0.o.run.mt|with_reducible exact HALL.o _ HKc.o.run.mt|with_reducible exact HALL.o _ HKm.o.run.mt|with_reducible exact HALL.o _ HKb.o.run.mt|with_reducible exact HALL.o _ HKa.o.run.mt|fail)
     (first
       |(go_at_call 29
         have hk:=HKa.o;refine(HSQR.o _ hk.oth.bu).mono ?_;rintro e wb ⟨v,rfl,ho,hb⟩;have hs:=SevAt.own hk.run.pg ho;obtain⟨ab,kb,rfl,hab,hnb⟩:=hs;have HKb:=Z (hk.keep hb);have HLb:=Z (And.intro hab hnb);have HLa2:=Z ((SevAt.keep (v:=.slice aa (evI XA).length ka) ⟨aa,ka,rfl,HLa.o.1,HLa.o.2⟩ hb));clear hk ho hb hab hnb)
       |(go_at_call 29
         refine(HSPR.o _ HK0.o.oth.bu).mono ?_;rintro e wa ⟨v,rfl,ho,hb⟩;have hs:=SevAt.own HK0.o.run.pg ho;obtain⟨aa,ka,rfl,haa,hna⟩:=hs;have HKa:=Z (HK0.o.keep hb);have HLa:=Z (And.intro haa hna);clear ho hb haa hna)
       |(go_at_call 28
         have hk:=HKb.o;refine(moved28 hk.oth hk.run.pg HW.o.1 HW.o.2 hk.st (by have:=HRM.o;omega) HG0.o XB (evI XB).length (evI_len _).symm (by rw[evI_len];have:=HXB.o.1;omega) HXB.o.2.1 HXB.o.2.2 HLb.o.1 (λ ad e=>(HLb.o.2 ad e).2)).mono ?_;rintro e wm ⟨v,nvm,Am,M,XB',rfl,hl,hs,hpre,hme⟩;obtain⟨am,km,rfl,ham,hnm⟩:=hl.sev;have HKm:=Z (hk.step hl.run hs);have HLm:=Z (And.intro ham hnm);have HME:=Z hme;have HPM:=Z hpre;have HLa3:=Z (HLa2.o.step hl.run);clear hk hl hs hpre hme ham hnm)
       |(go_at_call 209
         have hk:=HKm.o;have hla:=HLa3.o.slice;have hlen:=hk.st.len;have hle:=hk.st.pre.length_le;have hma:∀x∈XA,x.2<M.length:=λ x hx=>Nat.lt_of_lt_of_le (HXA.o.2.1 x hx) hle
         refine(equal209 hk.run.pg hk.oth.bw HW.o.1 HW.o.2 hk.oth.q hk.oth.qn XA XB' (evI XA).length (evI XB').length (evI_len _).symm (evI_len _).symm (by rw[evI_len];have:=HXA.o.1;have:=HRM.o;omega) hma HME.o.lt hla.1 (λ ad e=>(hla.2 ad e).2) HLm.o.1 (λ ad e=>(HLm.o.2 ad e).2)).mono ?_;intro e wc hs;obtain⟨nvc,Ac,rfl,hr⟩:=hs;have hmd:Made W (visB N up xs level) L0 M (c+1+4*XA.length) (λ vals=>b2n (Cmp W vals M false XA XB')) (equalM W XA XB' M):=cmp_made HW.o.1 HW.o.2 hk.st false hma HME.o.lt;have hrv:=cmp_two HW.o.1 HW.o.2 hk.st.gok hk.st.vok hk.st.pre HXA.o.2.1 HXB.o.2.1 HME.o hmd.val;generalize equalM W XA XB' M=r1 at*;have HKc:=Z (hk.step hr hmd.st);have HRV:=Z (And.intro hmd.lt hrv);have HPC:=Z hmd.pre;clear hk hla hlen hle hma hr hmd hrv)
       |(go_at_call 210
         have hk:=HKm.o;have hla:=HLa3.o.slice;have hlen:=hk.st.len;have hle:=hk.st.pre.length_le;have hma:∀x∈XA,x.2<M.length:=λ x hx=>Nat.lt_of_lt_of_le (HXA.o.2.1 x hx) hle
         refine(begun210 hk.run.pg hk.oth.bw HW.o.1 HW.o.2 hk.oth.q hk.oth.qn XA XB' (evI XA).length (evI XB').length (evI_len _).symm (evI_len _).symm (by rw[evI_len];have:=HXA.o.1;have:=HRM.o;omega) hma HME.o.lt hla.1 (λ ad e=>(hla.2 ad e).2) HLm.o.1 (λ ad e=>(HLm.o.2 ad e).2)).mono ?_;intro e wc hs;obtain⟨nvc,Ac,rfl,hr⟩:=hs;have hmd:Made W (visB N up xs level) L0 M (c+1+4*XA.length) (λ vals=>b2n (Cmp W vals M true XA XB')) (begunM W XA XB' M):=cmp_made HW.o.1 HW.o.2 hk.st true hma HME.o.lt;have hrv:=cmp_two HW.o.1 HW.o.2 hk.st.gok hk.st.vok hk.st.pre HXA.o.2.1 HXB.o.2.1 HME.o hmd.val;generalize begunM W XA XB' M=r1 at*;have HKc:=Z (hk.step hr hmd.st);have HRV:=Z (And.intro hmd.lt hrv);have HPC:=Z hmd.pre;clear hk hla hlen hle hma hr hmd hrv))
    have z1:=HKc.o.oth.c1;have HN0:=Z (num30 HKc.o.run.pg HKc.o.oth.bw (by have:=HKc.o.st.len;have:=HXA.o.1;have:=HRM.o;omega) HW.o.1 HW.o.2 HKc.o.oth.q HKc.o.oth.qn 0 (by decide));have HNM:=Z (num_made HW.o.2 HKc.o.st 0);generalize numM W 0 r1.2=r2 at*
   iterate 2
    focus
     go_upto_region 23 with(go_at_call 30;refine HN0.o.mono ?_;rintro e wd ⟨nvd,Ad,rfl,hr⟩;have HKd:=Z (HKc.o.step hr (HNM.o.st.mono (d:=c+50) (by have:=HXA.o.1;omega)));obtain⟨_,y0,y1,_,y2⟩:=HAL2.o _ HKd.o.run.mt;clear hr)
     have HKs:=Z (Cur.mk HKd.o.run HKd.o.oth (HKd.o.st.mono (d:=c+99) (by omega)));have HLK:=Z (LkI.no (ao:=XC) (bo:=XD) HRV.o.1 HRV.o.2 HNM.o);clear HKd HNM HN0 HRV HPC HKc;generalize r2.1=same at*;generalize r2.2=M3 at*;generalize wd=ws at*;have hcp:=HCSP.o HNO.o;have HBC:=Z hcp.2.2;have HBL:=Z hcp.2.1;have HAC:=Z hcp.1.1;have HPA0:=HPO.o.c;have HQA0:=HQO.o.c;have HPN0:=HPO.o.cn
     try simp only at hcp
     try simp only at HPA0
     try simp only at HQA0
     try simp only at HPN0
     have hpcs:=HPCS.o;have hqcs:=HQCS.o;have hpcl:=HPCL.o
     try simp only at hpcs
     try simp only at hqcs
     try simp only at hpcl
     have HPE:=Z hpcs;have hqe:qcs.length=(qcs.map Int.toNat).length:=by simp
     have hpe:pcs.length=(pcs.map Int.toNat).length:=by simp
     have HAC2:Hid (∀x∈pcs.map Int.toNat,x<L0.length):=Z hcp.1.1;have HBL2:Hid (∀x∈qcs.map Int.toNat,x<L0.length):=Z hcp.2.1;have HBC2:Hid (∀x∈qcs.map Int.toNat,∀j,Occ L0 x j->(L0.getD j default).op=1->(L0.getD j default).num%2=0):=Z hcp.2.2;rw[hqcs] at HQA0;have HQA:=Z HQA0;have HPA:=Z HPA0;have HPN:=Z HPN0;have HEL:Hid (p'.cs.map Int.toNat=pcs.map Int.toNat/\q'.cs.map Int.toNat=qcs.map Int.toNat):=Z ⟨by rw[HPQ.o.1],by rw[HPQ.o.2]⟩;have HLN:Hid ((pcs.map Int.toNat).length<=12/\(qcs.map Int.toNat).length<=12):=Z ⟨by rw[<-hpe];exact hpcl.1,by rw[<-hqe];exact hpcl.2⟩;have HPL2:=Z hpcl.1;clear hcp HBC HBL HAC HPA0 HQA0 HPN0 hqcs hpcl hpcs hqe hpe;obtain⟨_,x0,_,_,_⟩:=HAL2.o _ HKs.o.run.mt
     go_wp2_with(
      at_builtin
      refine app_join (d:=0) Tryz.elemI (base:=w12.heap.size) rfl _ _ rfl rfl (Lay.Own.nil _ _) rfl HPN.o rfl (HPA.o.below HKs.o.oth.bu) (by have:=HPL2.o;simp only[List.length_nil];omega) HKs.o.run.mt.size ?_;intro v23 w23 j1 j2 j3;rw[List.nil_append,HPE.o] at j1;have HL0:=Z (Lst.app (Lst.mk HKs.o.run (Lay.Own.nil ws w12.heap.size) (λ g e=>by cases e)) j1 j2 j3);have x3:=(HAL2.o _ HL0.o.run.mt).2.2.2.1;clear j1 j2 j3)
     generalize hbc:qcs.map Int.toNat=bc at*;generalize hac:pcs.map Int.toNat=ac at*;have HBN:Hid (bc.length=qcs.length):=Z (by rw[<-hbc];simp);clear hbc hac;obtain⟨qn,hqn⟩:∃qn,qcs.length=qn:=⟨_,rfl⟩
     rw[hqn] at HBN x3⊢;have HQN:=Z hqn;clear hqn;have hqb:qn<=12:=by have h:=HLN.o.2;rw[HBN.o] at h;exact h
     go_wp2_with fail
     go_loopw [23,151] (λ v23 i wr=>∃(k:Nat) (nvk:Value) (A':Nat->Prop) (M:List Nd) (l:List Nat),k<=qn/\i= .int .i64 k/\Hid (Lst (Lay.int .i64) 3 w12 wr B A A' gb mb nv nvk W M v23 (intsN l))/\Hid (St W (visB N up xs level) L0 M (c+99)/\M3<+:M/\∃bc',l=ac++bc'/\MovT W (visB N up xs level) M (bc.take k) bc')) (λ _ i _=>qn-(intOf i).toNat)
     case atStart=>exact⟨0,_,_,_,ac,by omega,rfl,HL0,Z ⟨HKs.o.st,List.prefix_rfl,[],by simp,by rw[List.take_zero];exact .nil⟩⟩
     case round=>
      obtain⟨k,nvk,A',M,l,hk,rfl,hl,hg⟩:=hrel;have HOT:=Z (HC12.o.oth.step hl.o.run);by_cases hkn:k<qn
      ·have hki:(k:Int)<qn:=by omega
       have hkl:k<bc.length:=by rw[HBN.o];exact hkn
       obtain⟨e1,o1,rfl,hb1,c0⟩:=(HQA.o.below HOT.o.bu).int (i:=k) (by rw[intsN_len];exact hkl);rw[intsN_getD] at c0;have hx:=HBL2.o _ (getD_mem 0 bc k hkl);have hxe:=HBC2.o _ (getD_mem 0 bc k hkl);have HTK:=Z (take_getD 0 bc k hkl);generalize bc.getD k 0=x at*;have HC:=Z (HOT.o.call (c:=c+99) hl.o.run.pg HW.o.1 HW.o.2 hg.o.1 (by have:=HRM.o;omega) x hx HG0.o hxe);have HX:=Z hx;have z5:=HOT.o.c5;have HALN:Hid (l.length+1<=1000000):=Z (by
        obtain⟨bc',e,hm⟩:=hg.o.2.2;have:=hm.len;rw[List.length_take] at this;have:=HLN.o;rw[e,List.length_append];omega)
       clear hx hxe hkl hb1
       go_wp2_with(first
        |(go_at_call 26
          refine HC.o.mono ?_;rintro e wo ⟨r,hs,s1,s2,s3,s4⟩;obtain⟨nvo,Ao,rfl,hr⟩:=hs;have HL2:=Z (hl.o.step hr);have HG2:=Z (And.intro s1 (And.intro s2 (And.intro s3 s4)));clear hr s1 s2 s3 s4)
        |(at_builtin
          refine app_keep Tryz.elemI [(r.1:Int)] rfl _ _ rfl rfl HL2.o.own rfl (by simp) rfl (by rw[intsN_len];exact HALN.o) HL2.o.run.mt.size ?_;intro v8 w8 j1 j2 j3;have HL3:=Z ((HL2.o.keep (bel_al (Below.refl _ _) _)).app (ys:=intsN (l++[r.1])) (by rw[intsN_append];exact j1) j2 (j3.elim .inl λ e=>.inr (by rw[e];simp)));clear j1 j2 j3))
       go_roundw
       case rel=>exact⟨k+1,nvo,_,r.2,l++[r.1],by omega,by go_num,HL3,Z ⟨HG2.o.1,hg.o.2.1.trans HG2.o.2.1,by
        obtain⟨bc',e,hm⟩:=hg.o.2.2;exact⟨bc'++[r.1],by rw[e,List.append_assoc],by rw[HTK.o];exact(hm.pre hg.o.1.gok HG2.o.2.1).snoc HG2.o.2.2.1 (Nat.lt_of_lt_of_le HX.o HG2.o.1.pre.length_le) HG2.o.2.2.2⟩⟩⟩
       case measure=>simp[intOf]<;>omega
      ·obtain rfl:k=qn:=by omega
       have e1:bc.take k=bc:=by rw[<-HBN.o,List.take_length]
       rw[e1] at hg;obtain⟨g1,g2,bc',rfl,g3⟩:=hg.o;have hd:=hl.o.keep (Below.refl wr.heap.size wr).drew;have hod:=HOT.o.keep (Below.refl wr.heap.size wr).drew;have g1l:=g1.len;have m4:=num_made HW.o.2 g1 0;have HN0:=Z (num30 hd.run.pg hod.bw (by have:=HRM.o;omega) HW.o.1 HW.o.2 hod.q hod.qn 0 (by decide));generalize numM W 0 M=r4 at*;have hsl:same<r4.2.length:=Nat.lt_of_lt_of_le HLK.o.sl (g2.trans m4.pre).length_le;have m5:=simp_made HW.o.1 HW.o.2 m4.st (o:=15) (by decide) (by decide) hsl m4.lt;have m4l:=m4.st.len;have hx5:∀x∈[same,r4.1],x<r4.2.length:=by simpa using And.intro hsl m4.lt
       have HT5:=Z (λ wn nvn An (hr:Run w12 wn B A An gb mb nv nvn W r4.2)=>app32 (hr.pg.below (bel_al (Below.refl _ _) (.cells #[.int .i64 (same:Nat),.int .i64 (r4.1:Nat)] 3))) (Nat.le_trans (HC12.o.oth.step hr).bw (by simp)) (by have:=HRM.o;omega) HW.o.1 HW.o.2 ((HC12.o.oth.step hr).q.alloc _) (HC12.o.oth.step hr).qn 15 (by decide) (by decide) [same,r4.1] 2 rfl rfl hx5 (cap:=2) (two_at wn same r4.1));generalize simpM W 15 [same,r4.1] r4.2=r5 at*;have p35:=g2.trans (m4.pre.trans m5.pre);have m5l:=m5.st.len;have hm5:=g3.pre g1.gok (m4.pre.trans m5.pre);have HLM:=Z (leak_made (c:=c+101) HW.o.1 HW.o.2 m5.st p35 p35 HAC2.o HBL2.o HLK.o.rl HLK.o.rv HLK.o.sl HLK.o.sv hm5 m5.lt (λ vals=>by
        rw[m5.val vals,vAt_pre m5.pre hsl];show b2n (vAt W vals r4.2 same=vAt W vals r4.2 r4.1)=_;rw[m4.val vals,Nat.zero_mod]))
       have HLL:Hid ((ac++bc'++[r1.1,r5.1]).length<=26):=Z (by
        have:=hm5.len;have:=HLN.o;simp only[List.length_append,List.length_cons,List.length_nil];omega)
       have HLL2:Hid ((intsN (ac++bc')).length+2<=1000000):=Z (by
        have:=HLL.o;simp only[List.length_append,List.length_cons,List.length_nil] at this;rw[intsN_len,List.length_append];omega)
       have HLTL:Hid (∀t∈ac++bc'++[r1.1,r5.1],t<r5.2.length):=Z λ t ht=>by
        simp only[List.mem_append,List.mem_cons,List.not_mem_nil,or_false] at ht;rcases ht with(ht|ht)|rfl|rfl
        ·exact Nat.lt_of_lt_of_le (HAC2.o t ht) m5.st.pre.length_le
        ·exact hm5.lt t ht
        ·exact Nat.lt_of_lt_of_le HLK.o.rl p35.length_le
        ·exact m5.lt
       have HM5:Hid (r5.2.length+1+3*26<=999):=Z (by have:=HRM.o;omega);have HD:=Z hd;have HOD:=Z hod;have HLD:Hid (Run w12 wr B A A' gb mb nv nvk W M):=Z hl.o.run;have x9:=HOT.o.c1;clear g1 g2 g3 m4 m5 hx5 hsl m4l m5l g1l p35 hm5 hd hod
       go_wp2_with fail
       go_region_held3(λ w'=>w'.cell? ⟨b1,0,none⟩=some (.pointer (some ⟨w9.heap.size,0,none⟩)))
        (first|with_reducible exact HOD.o.c1|with_reducible exact(HC12.o.oth.step HRZ.o).c1|with_reducible exact(HC12.o.oth.step HL4.o.run).c1|with_reducible exact(HC12.o.oth.step HL3a.o.run).c1|with_reducible exact(HC12.o.oth.step HL3.o.run).c1|with_reducible exact(HC12.o.oth.step HL2a.o.run).c1|with_reducible exact(HC12.o.oth.step HL2.o.run).c1|fail)
        (first
          |(go_at_call 30
            apply Calls.mono HN0.o;rintro e wn ⟨nvn,An,rfl,hr⟩;have HL2:=Z (HD.o.step hr);have HL2a:=Z (HL2.o.keep (bel_al (Below.refl wn.heap.size wn) (.cells #[.int .i64 (same:Nat),.int .i64 (r4.1:Nat)] 3)));have HT6:=Z (HT5.o _ _ _ HL2.o.run);clear hr)
          |(go_at_call 32
            apply Calls.mono HT6.o;rintro e wq ⟨nvq,Aq,rfl,hr⟩;have HL3:=Z (HL2a.o.step hr);have HL3a:=Z (HL3.o.keep (bel_al (Below.refl wq.heap.size wq) (.cells #[.int .i64 (r1.1:Nat),.int .i64 (r5.1:Nat)] 3)));clear hr)
          |(have _q:=HL3.o
            fail_if_success have _p:=HL4.o
            refine step_app Tryz.elemI [(r1.1:Int),(r5.1:Int)] rfl _ _ rfl rfl HL3.o.own rfl rfl rfl HLL2.o HL3.o.run.mt.size ?_;clear _q;intro v9 w10 j1 j2 j3;rw[<-intsN_app2] at j1;have HL4:=Z (HL3a.o.app j1 j2 (j3.elim .inl λ e=>.inr (by rw[e];simp)));obtain⟨vf,kf,rfl,hff,hnf⟩:=HL4.o.form (d:=0);obtain⟨nf,hlf⟩:∃nf,(intsN (ac++bc'++[r1.1,r5.1])).length=nf:=⟨_,rfl⟩
            rw[hlf];rw[intsN_len] at hlf;have hot:=HC12.o.oth.step HL4.o.run;have HA31:=Z (all31 HL4.o.run.pg hot.bw HW.o.1 HW.o.2 hot.q hot.qn (ac++bc'++[r1.1,r5.1]) nf hlf (by have:=HM5.o;have:=HLL.o;omega) HLTL.o (tc:=kf) hff hnf);clear j1 j2 j3 hff hnf hot hlf)
          |(go_at_call 31
            apply Calls.mono HA31.o;rintro e wz ⟨nvz,Az,rfl,hr⟩;have HRZ:=Z (HL4.o.run.trans hr);have zq:=((HC12.o.oth.step HRZ.o).q.at_ 1 _ rfl).1;have zc:=(HC12.o.oth.step HRZ.o).c1;clear hr))
       go_wp2_with fail
       go_ret2
       have hal:=HLM.o;have hrz:=HRZ.o;have hll:=HLL.o;rw[List.append_assoc] at hal hrz hll;refine .inr ⟨by rw[HTS2.o];exact HNO.o,nvz,_,_,_,rfl,hrz.lift HB12.o,hal.1.mono (by omega),hal.2.2.1,λ vals sec h=> ?_⟩;rw[HMD.o.2,HMD.o.1,HEL.o.1,HEL.o.2,HXE.o.1,HXE.o.2.1,HXE.o.2.2.1,HXE.o.2.2.2];exact hal.2.2.2 vals sec h
   all_goals
    go_upto_region 22 with(go_at_call 30;refine HN0.o.mono ?_;rintro e wd ⟨nvd,Ad,rfl,hr⟩;have HKd:=Z (HKc.o.step hr (HNM.o.st.mono (d:=c+50) (by have:=HXA.o.1;omega)));obtain⟨_,y0,y1,_,y2⟩:=HAL2.o _ HKd.o.run.mt;clear hr)
    have HJ0:=Z (HKd.o.keep (Below.refl _ _).drew)
    go_region_held3(λ w'=>w'.cell? ⟨0,0,none⟩=some (.func (Fn.func 209) #[] #[])/\w'.cell? ⟨0,1,none⟩=some (.func (Fn.func 210) #[] #[])/\w'.cell? ⟨b1,0,none⟩=some (.pointer (some ⟨w9.heap.size,0,none⟩))/\w'.cell? ⟨w.heap.size,0,none⟩=some (.pointer (some ⟨sb,0,none⟩))/\w'.cell? ⟨p2,0,none⟩=some (.int .i64 level)/\w'.cell? ⟨sb,1,none⟩=some (.slice ca xs.length cc)/\w'.cell? ⟨sb,2,none⟩=some (.slice sa ys.length sc)/\w'.cell? ⟨p3,3,none⟩=some (.slice poa pos.length poc)/\w'.cell? ⟨p3,4,none⟩=some (.slice pra prs.length prc)/\w'.cell? ⟨p4,3,none⟩=some (.slice qoa qos.length qoc)/\w'.cell? ⟨p4,4,none⟩=some (.slice qra qrs.length qrc))
     (first|with_reducible exact HALL.o _ HJ0.o.run.mt|with_reducible exact HALL.o _ HJc.o.run.mt|with_reducible exact HALL.o _ HJm.o.run.mt|with_reducible exact HALL.o _ HJb.o.run.mt|with_reducible exact HALL.o _ HJa.o.run.mt|fail)
     (first
       |(go_at_call 29
         have hk:=HJa.o;refine(HSQO.o _ hk.oth.bu).mono ?_;rintro e wb2 ⟨v,rfl,ho,hb⟩;have hs:=SevAt.own hk.run.pg ho;obtain⟨ab,kb,rfl,hab,hnb⟩:=hs;have HJb:=Z (hk.keep hb);have HIb:=Z (And.intro hab hnb);have HIa2:=Z ((SevAt.keep (v:=.slice aa (evI XC).length ka) ⟨aa,ka,rfl,HIa.o.1,HIa.o.2⟩ hb));clear hk ho hb hab hnb)
       |(go_at_call 29
         refine(HSPO.o _ HJ0.o.oth.bu).mono ?_;rintro e wa2 ⟨v,rfl,ho,hb⟩;have hs:=SevAt.own HJ0.o.run.pg ho;obtain⟨aa,ka,rfl,haa,hna⟩:=hs;have HJa:=Z (HJ0.o.keep hb);have HIa:=Z (And.intro haa hna);clear ho hb haa hna)
       |(go_at_call 28
         have hk:=HJb.o;refine(moved28 hk.oth hk.run.pg HW.o.1 HW.o.2 hk.st (by have:=HRM.o;omega) HG0.o XD (evI XD).length (evI_len _).symm (by rw[evI_len];have:=HXD.o.1;omega) HXD.o.2.1 HXD.o.2.2 HIb.o.1 (λ ad e=>(HIb.o.2 ad e).2)).mono ?_;rintro e wm2 ⟨v,nvn,An,M2,XD',rfl,hl,hs,hpre,hme⟩;obtain⟨am,km,rfl,ham,hnm⟩:=hl.sev;have HJm:=Z (hk.step hl.run hs);have HIm:=Z (And.intro ham hnm);have HMF:=Z hme;have HPN:=Z hpre;have HIa3:=Z (HIa2.o.step hl.run);clear hk hl hs hpre hme ham hnm)
       |(go_at_call 209
         have hk:=HJm.o;have hla:=HIa3.o.slice;have hlen:=hk.st.len;have hle:=hk.st.pre.length_le;have hma:∀x∈XC,x.2<M2.length:=λ x hx=>Nat.lt_of_lt_of_le (HXC.o.2.1 x hx) hle
         refine(equal209 hk.run.pg hk.oth.bw HW.o.1 HW.o.2 hk.oth.q hk.oth.qn XC XD' (evI XC).length (evI XD').length (evI_len _).symm (evI_len _).symm (by rw[evI_len];have:=HXC.o.1;have:=HRM.o;omega) hma HMF.o.lt hla.1 (λ ad e=>(hla.2 ad e).2) HIm.o.1 (λ ad e=>(HIm.o.2 ad e).2)).mono ?_;intro e wc2 hs;obtain⟨nve,Ae,rfl,hr⟩:=hs;have hmd:Made W (visB N up xs level) L0 M2 (c+50+1+4*XC.length) (λ vals=>b2n (Cmp W vals M2 false XC XD')) (equalM W XC XD' M2):=cmp_made HW.o.1 HW.o.2 hk.st false hma HMF.o.lt;have hrv:=cmp_two HW.o.1 HW.o.2 hk.st.gok hk.st.vok hk.st.pre HXC.o.2.1 HXD.o.2.1 HMF.o hmd.val;generalize equalM W XC XD' M2=r3 at*;have HJc:=Z (hk.step hr hmd.st);have HRW:=Z (And.intro hmd.lt hrv);have HPD:=Z hmd.pre;clear hk hla hlen hle hma hr hmd hrv)
       |(go_at_call 210
         have hk:=HJm.o;have hla:=HIa3.o.slice;have hlen:=hk.st.len;have hle:=hk.st.pre.length_le;have hma:∀x∈XC,x.2<M2.length:=λ x hx=>Nat.lt_of_lt_of_le (HXC.o.2.1 x hx) hle
         refine(begun210 hk.run.pg hk.oth.bw HW.o.1 HW.o.2 hk.oth.q hk.oth.qn XC XD' (evI XC).length (evI XD').length (evI_len _).symm (evI_len _).symm (by rw[evI_len];have:=HXC.o.1;have:=HRM.o;omega) hma HMF.o.lt hla.1 (λ ad e=>(hla.2 ad e).2) HIm.o.1 (λ ad e=>(HIm.o.2 ad e).2)).mono ?_;intro e wc2 hs;obtain⟨nve,Ae,rfl,hr⟩:=hs;have hmd:Made W (visB N up xs level) L0 M2 (c+50+1+4*XC.length) (λ vals=>b2n (Cmp W vals M2 true XC XD')) (begunM W XC XD' M2):=cmp_made HW.o.1 HW.o.2 hk.st true hma HMF.o.lt;have hrv:=cmp_two HW.o.1 HW.o.2 hk.st.gok hk.st.vok hk.st.pre HXC.o.2.1 HXD.o.2.1 HMF.o hmd.val;generalize begunM W XC XD' M2=r3 at*;have HJc:=Z (hk.step hr hmd.st);have HRW:=Z (And.intro hmd.lt hrv);have HPD:=Z hmd.pre;clear hk hla hlen hle hma hr hmd hrv))
    have HKs:=Z (Cur.mk HJc.o.run HJc.o.oth (HJc.o.st.mono (d:=c+99) (by have:=HXC.o.1;omega)));have HLK:=Z (LkI.yes HRV.o.1 HRV.o.2 HRW.o.1 HRW.o.2 (HNM.o.pre.trans (HPN.o.trans HPD.o)));clear HJ0 HJa HJb HJm HJc HIa HIa2 HIa3 HIb HIm HMF HPN HPD HRW HKd HNM HN0 HRV HPC HKc;generalize r3.1=same at*;generalize r3.2=M3 at*;generalize wc2=ws at*;have hcp:=HCSP.o HNO.o;have HBC:=Z hcp.2.2;have HBL:=Z hcp.2.1;have HAC:=Z hcp.1.1;have HPA0:=HPO.o.c;have HQA0:=HQO.o.c;have HPN0:=HPO.o.cn
    try simp only at hcp
    try simp only at HPA0
    try simp only at HQA0
    try simp only at HPN0
    have hpcs:=HPCS.o;have hqcs:=HQCS.o;have hpcl:=HPCL.o
    try simp only at hpcs
    try simp only at hqcs
    try simp only at hpcl
    have HPE:=Z hpcs;have hqe:qcs.length=(qcs.map Int.toNat).length:=by simp
    have hpe:pcs.length=(pcs.map Int.toNat).length:=by simp
    have HAC2:Hid (∀x∈pcs.map Int.toNat,x<L0.length):=Z hcp.1.1;have HBL2:Hid (∀x∈qcs.map Int.toNat,x<L0.length):=Z hcp.2.1;have HBC2:Hid (∀x∈qcs.map Int.toNat,∀j,Occ L0 x j->(L0.getD j default).op=1->(L0.getD j default).num%2=0):=Z hcp.2.2;rw[hqcs] at HQA0;have HQA:=Z HQA0;have HPA:=Z HPA0;have HPN:=Z HPN0;have HEL:Hid (p'.cs.map Int.toNat=pcs.map Int.toNat/\q'.cs.map Int.toNat=qcs.map Int.toNat):=Z ⟨by rw[HPQ.o.1],by rw[HPQ.o.2]⟩;have HLN:Hid ((pcs.map Int.toNat).length<=12/\(qcs.map Int.toNat).length<=12):=Z ⟨by rw[<-hpe];exact hpcl.1,by rw[<-hqe];exact hpcl.2⟩;have HPL2:=Z hpcl.1;clear hcp HBC HBL HAC HPA0 HQA0 HPN0 hqcs hpcl hpcs hqe hpe;obtain⟨_,x0,_,_,_⟩:=HAL2.o _ HKs.o.run.mt
    go_wp2_with(
     at_builtin
     refine app_join (d:=0) Tryz.elemI (base:=w12.heap.size) rfl _ _ rfl rfl (Lay.Own.nil _ _) rfl HPN.o rfl (HPA.o.below HKs.o.oth.bu) (by have:=HPL2.o;simp only[List.length_nil];omega) HKs.o.run.mt.size ?_;intro v23 w23 j1 j2 j3;rw[List.nil_append,HPE.o] at j1;have HL0:=Z (Lst.app (Lst.mk HKs.o.run (Lay.Own.nil ws w12.heap.size) (λ g e=>by cases e)) j1 j2 j3);have x3:=(HAL2.o _ HL0.o.run.mt).2.2.2.1;clear j1 j2 j3)
    generalize hbc:qcs.map Int.toNat=bc at*;generalize hac:pcs.map Int.toNat=ac at*;have HBN:Hid (bc.length=qcs.length):=Z (by rw[<-hbc];simp);clear hbc hac;obtain⟨qn,hqn⟩:∃qn,qcs.length=qn:=⟨_,rfl⟩
    rw[hqn] at HBN x3⊢;have HQN:=Z hqn;clear hqn;have hqb:qn<=12:=by have h:=HLN.o.2;rw[HBN.o] at h;exact h
    go_wp2_with fail
    go_loopw [23,151] (λ v23 i wr=>∃(k:Nat) (nvk:Value) (A':Nat->Prop) (M:List Nd) (l:List Nat),k<=qn/\i= .int .i64 k/\Hid (Lst (Lay.int .i64) 3 w12 wr B A A' gb mb nv nvk W M v23 (intsN l))/\Hid (St W (visB N up xs level) L0 M (c+99)/\M3<+:M/\∃bc',l=ac++bc'/\MovT W (visB N up xs level) M (bc.take k) bc')) (λ _ i _=>qn-(intOf i).toNat)
    case atStart=>exact⟨0,_,_,_,ac,by omega,rfl,HL0,Z ⟨HKs.o.st,List.prefix_rfl,[],by simp,by rw[List.take_zero];exact .nil⟩⟩
    case round=>
     obtain⟨k,nvk,A',M,l,hk,rfl,hl,hg⟩:=hrel;have HOT:=Z (HC12.o.oth.step hl.o.run);by_cases hkn:k<qn
     ·have hki:(k:Int)<qn:=by omega
      have hkl:k<bc.length:=by rw[HBN.o];exact hkn
      obtain⟨e1,o1,rfl,hb1,c0⟩:=(HQA.o.below HOT.o.bu).int (i:=k) (by rw[intsN_len];exact hkl);rw[intsN_getD] at c0;have hx:=HBL2.o _ (getD_mem 0 bc k hkl);have hxe:=HBC2.o _ (getD_mem 0 bc k hkl);have HTK:=Z (take_getD 0 bc k hkl);generalize bc.getD k 0=x at*;have HC:=Z (HOT.o.call (c:=c+99) hl.o.run.pg HW.o.1 HW.o.2 hg.o.1 (by have:=HRM.o;omega) x hx HG0.o hxe);have HX:=Z hx;have z5:=HOT.o.c5;have HALN:Hid (l.length+1<=1000000):=Z (by
       obtain⟨bc',e,hm⟩:=hg.o.2.2;have:=hm.len;rw[List.length_take] at this;have:=HLN.o;rw[e,List.length_append];omega)
      clear hx hxe hkl hb1
      go_wp2_with(first
       |(go_at_call 26
         refine HC.o.mono ?_;rintro e wo ⟨r,hs,s1,s2,s3,s4⟩;obtain⟨nvo,Ao,rfl,hr⟩:=hs;have HL2:=Z (hl.o.step hr);have HG2:=Z (And.intro s1 (And.intro s2 (And.intro s3 s4)));clear hr s1 s2 s3 s4)
       |(at_builtin
         refine app_keep Tryz.elemI [(r.1:Int)] rfl _ _ rfl rfl HL2.o.own rfl (by simp) rfl (by rw[intsN_len];exact HALN.o) HL2.o.run.mt.size ?_;intro v8 w8 j1 j2 j3;have HL3:=Z ((HL2.o.keep (bel_al (Below.refl _ _) _)).app (ys:=intsN (l++[r.1])) (by rw[intsN_append];exact j1) j2 (j3.elim .inl λ e=>.inr (by rw[e];simp)));clear j1 j2 j3))
      go_roundw
      case rel=>exact⟨k+1,nvo,_,r.2,l++[r.1],by omega,by go_num,HL3,Z ⟨HG2.o.1,hg.o.2.1.trans HG2.o.2.1,by
       obtain⟨bc',e,hm⟩:=hg.o.2.2;exact⟨bc'++[r.1],by rw[e,List.append_assoc],by rw[HTK.o];exact(hm.pre hg.o.1.gok HG2.o.2.1).snoc HG2.o.2.2.1 (Nat.lt_of_lt_of_le HX.o HG2.o.1.pre.length_le) HG2.o.2.2.2⟩⟩⟩
      case measure=>simp[intOf]<;>omega
     ·obtain rfl:k=qn:=by omega
      have e1:bc.take k=bc:=by rw[<-HBN.o,List.take_length]
      rw[e1] at hg;obtain⟨g1,g2,bc',rfl,g3⟩:=hg.o;have hd:=hl.o.keep (Below.refl wr.heap.size wr).drew;have hod:=HOT.o.keep (Below.refl wr.heap.size wr).drew;have g1l:=g1.len;have m4:=num_made HW.o.2 g1 0;have HN0:=Z (num30 hd.run.pg hod.bw (by have:=HRM.o;omega) HW.o.1 HW.o.2 hod.q hod.qn 0 (by decide));generalize numM W 0 M=r4 at*;have hsl:same<r4.2.length:=Nat.lt_of_lt_of_le HLK.o.sl (g2.trans m4.pre).length_le;have m5:=simp_made HW.o.1 HW.o.2 m4.st (o:=15) (by decide) (by decide) hsl m4.lt;have m4l:=m4.st.len;have hx5:∀x∈[same,r4.1],x<r4.2.length:=by simpa using And.intro hsl m4.lt
      have HT5:=Z (λ wn nvn An (hr:Run w12 wn B A An gb mb nv nvn W r4.2)=>app32 (hr.pg.below (bel_al (Below.refl _ _) (.cells #[.int .i64 (same:Nat),.int .i64 (r4.1:Nat)] 3))) (Nat.le_trans (HC12.o.oth.step hr).bw (by simp)) (by have:=HRM.o;omega) HW.o.1 HW.o.2 ((HC12.o.oth.step hr).q.alloc _) (HC12.o.oth.step hr).qn 15 (by decide) (by decide) [same,r4.1] 2 rfl rfl hx5 (cap:=2) (two_at wn same r4.1));generalize simpM W 15 [same,r4.1] r4.2=r5 at*;have p35:=g2.trans (m4.pre.trans m5.pre);have m5l:=m5.st.len;have hm5:=g3.pre g1.gok (m4.pre.trans m5.pre);have HLM:=Z (leak_made (c:=c+101) HW.o.1 HW.o.2 m5.st p35 p35 HAC2.o HBL2.o HLK.o.rl HLK.o.rv HLK.o.sl HLK.o.sv hm5 m5.lt (λ vals=>by
       rw[m5.val vals,vAt_pre m5.pre hsl];show b2n (vAt W vals r4.2 same=vAt W vals r4.2 r4.1)=_;rw[m4.val vals,Nat.zero_mod]))
      have HLL:Hid ((ac++bc'++[r1.1,r5.1]).length<=26):=Z (by
       have:=hm5.len;have:=HLN.o;simp only[List.length_append,List.length_cons,List.length_nil];omega)
      have HLL2:Hid ((intsN (ac++bc')).length+2<=1000000):=Z (by
       have:=HLL.o;simp only[List.length_append,List.length_cons,List.length_nil] at this;rw[intsN_len,List.length_append];omega)
      have HLTL:Hid (∀t∈ac++bc'++[r1.1,r5.1],t<r5.2.length):=Z λ t ht=>by
       simp only[List.mem_append,List.mem_cons,List.not_mem_nil,or_false] at ht;rcases ht with(ht|ht)|rfl|rfl
       ·exact Nat.lt_of_lt_of_le (HAC2.o t ht) m5.st.pre.length_le
       ·exact hm5.lt t ht
       ·exact Nat.lt_of_lt_of_le HLK.o.rl p35.length_le
       ·exact m5.lt
      have HM5:Hid (r5.2.length+1+3*26<=999):=Z (by have:=HRM.o;omega);have HD:=Z hd;have HOD:=Z hod;have HLD:Hid (Run w12 wr B A A' gb mb nv nvk W M):=Z hl.o.run;have x9:=HOT.o.c1;clear g1 g2 g3 m4 m5 hx5 hsl m4l m5l g1l p35 hm5 hd hod
      go_wp2_with fail
      go_region_held3(λ w'=>w'.cell? ⟨b1,0,none⟩=some (.pointer (some ⟨w9.heap.size,0,none⟩)))
       (first|with_reducible exact HOD.o.c1|with_reducible exact(HC12.o.oth.step HRZ.o).c1|with_reducible exact(HC12.o.oth.step HL4.o.run).c1|with_reducible exact(HC12.o.oth.step HL3a.o.run).c1|with_reducible exact(HC12.o.oth.step HL3.o.run).c1|with_reducible exact(HC12.o.oth.step HL2a.o.run).c1|with_reducible exact(HC12.o.oth.step HL2.o.run).c1|fail)
       (first
         |(go_at_call 30
           apply Calls.mono HN0.o;rintro e wn ⟨nvn,An,rfl,hr⟩;have HL2:=Z (HD.o.step hr);have HL2a:=Z (HL2.o.keep (bel_al (Below.refl wn.heap.size wn) (.cells #[.int .i64 (same:Nat),.int .i64 (r4.1:Nat)] 3)));have HT6:=Z (HT5.o _ _ _ HL2.o.run);clear hr)
         |(go_at_call 32
           apply Calls.mono HT6.o;rintro e wq ⟨nvq,Aq,rfl,hr⟩;have HL3:=Z (HL2a.o.step hr);have HL3a:=Z (HL3.o.keep (bel_al (Below.refl wq.heap.size wq) (.cells #[.int .i64 (r1.1:Nat),.int .i64 (r5.1:Nat)] 3)));clear hr)
         |(have _q:=HL3.o
           fail_if_success have _p:=HL4.o
           refine step_app Tryz.elemI [(r1.1:Int),(r5.1:Int)] rfl _ _ rfl rfl HL3.o.own rfl rfl rfl HLL2.o HL3.o.run.mt.size ?_;clear _q;intro v9 w10 j1 j2 j3;rw[<-intsN_app2] at j1;have HL4:=Z (HL3a.o.app j1 j2 (j3.elim .inl λ e=>.inr (by rw[e];simp)));obtain⟨vf,kf,rfl,hff,hnf⟩:=HL4.o.form (d:=0);obtain⟨nf,hlf⟩:∃nf,(intsN (ac++bc'++[r1.1,r5.1])).length=nf:=⟨_,rfl⟩
           rw[hlf];rw[intsN_len] at hlf;have hot:=HC12.o.oth.step HL4.o.run;have HA31:=Z (all31 HL4.o.run.pg hot.bw HW.o.1 HW.o.2 hot.q hot.qn (ac++bc'++[r1.1,r5.1]) nf hlf (by have:=HM5.o;have:=HLL.o;omega) HLTL.o (tc:=kf) hff hnf);clear j1 j2 j3 hff hnf hot hlf)
         |(go_at_call 31
           apply Calls.mono HA31.o;rintro e wz ⟨nvz,Az,rfl,hr⟩;have HRZ:=Z (HL4.o.run.trans hr);have zq:=((HC12.o.oth.step HRZ.o).q.at_ 1 _ rfl).1;have zc:=(HC12.o.oth.step HRZ.o).c1;clear hr))
      go_wp2_with fail
      go_ret2
      have hal:=HLM.o;have hrz:=HRZ.o;have hll:=HLL.o;rw[List.append_assoc] at hal hrz hll;refine .inr ⟨by rw[HTS2.o];exact HNO.o,nvz,_,_,_,rfl,hrz.lift HB12.o,hal.1.mono (by omega),hal.2.2.1,λ vals sec h=> ?_⟩;rw[HMD.o.2,HMD.o.1,HEL.o.1,HEL.o.2,HXE.o.1,HXE.o.2.1,HXE.o.2.2.1,HXE.o.2.2.2];exact hal.2.2.2 vals sec h
end
end Go.Proofs.YtgdpkkjfcdhmdaaGreatDoor
