/- Walk: App of simp. -/
import Derived.Test.YtgdpkkjfcdhmdaaGreatDoorS0
import Derived.Test.YtgdpkkjfcdhmdaaGreatDoorU5
import Derived.Test.YtgdpkkjfcdhmdaaGreatDoorS15
import Derived.StillTailTactics
import Derived.Deep.RegionLaw
import Derived.Deep.DeepCutAuto
namespace Go.Proofs.YtgdpkkjfcdhmdaaGreatDoor
open Go.RowKit
def SimpPost(w:World)(B:Nat)(A:Nat->Prop)(gb mb:Nat)(nv:Value)(W:Nat)(r:Nat×List Nd)(e:Ending)(w':World):Prop:=
 ∃(nv':Value) (A':Nat->Prop),e= .returned (.tuple #[.int .i64 (r.1:Nat),.int .i64 0])/\PG w' B (λ k=>A k\/A' k) gb mb nv' W r.2/\(∀k,A' k->w.heap.size<=k)/\Mut (MutB gb (some mb) nv) w w'/\NewB w nv nv'
section
variable {w w3 w':World} {B:Nat} {A A':Nat->Prop} {gb mb:Nat} {nv:Value} {W:Nat} {L:List Nd} {e:Ending}
theorem SimpPost.ask{n:Nd}(hb:Below w.heap.size w w3)(hA:∀k,A' k->w.heap.size<=k)(h:AskPost w3 B A A' gb mb nv W L n e w'):SimpPost w B A gb mb nv W (runP L (.ask n)) e w':=by
 obtain⟨nv',h1,h2,h3,h4⟩:=h.lift hb;exact⟨nv',A',h1,h2,hA,h3,h4⟩
theorem SimpPost.app{n:Nd}(hb:Below w.heap.size w w3)(h:AppPost w3 B A gb mb nv W L n e w'):SimpPost w B A gb mb nv W (runP L (.ask n)) e w':=by
 obtain⟨A',hA,h⟩:=h;exact SimpPost.ask hb (λ k hk=>Nat.le_trans hb.size (hA k hk)) h
theorem SimpPost.same(hp:PG w B A gb mb nv W L)(hb:Below w.heap.size w w')(t:Nat):SimpPost w B A gb mb nv W (runP L (.same t)) (.returned (.tuple #[.int .i64 (t:Nat),.int .i64 0])) w':=
 ⟨nv,noB,rfl,(hp.below hb).more λ _ h=>h.elim,λ _ h=>h.elim,Mut.of_below hb,.inl rfl⟩
theorem SimpPost.lift{r:Nat×List Nd}(hb:Below w.heap.size w w3)(h:SimpPost w3 B A gb mb nv W r e w'):SimpPost w B A gb mb nv W r e w':=by
 obtain⟨nv',A',h1,h2,h3,h4,h5⟩:=h;exact⟨nv',A',h1,h2,λ k hk=>Nat.le_trans hb.size (h3 k hk),(Mut.of_below hb).trans h4,h5.elim .inl λ⟨k,e1,e2⟩=>.inr ⟨k,e1,Nat.le_trans hb.size e2⟩⟩
end
theorem mk31_1(w:World):(Instr.makeSlice 31 (.int .i64 1) (.int .i64 1)).run Tryz.prog w= .ok (.slice (some ⟨w.heap.size,0,none⟩) 1 1) (w.alloc (.cells #[.int .u64 0] 46)):=by kernel_rfl
theorem mk31_2(w:World):(Instr.makeSlice 31 (.int .i64 2) (.int .i64 2)).run Tryz.prog w= .ok (.slice (some ⟨w.heap.size,0,none⟩) 2 2) (w.alloc (.cells #[.int .u64 0,.int .u64 0] 46)):=by kernel_rfl
theorem mk26_1(w:World):(Instr.makeSlice 26 (.int .i64 1) (.int .i64 1)).run Tryz.prog w= .ok (.slice (some ⟨w.heap.size,0,none⟩) 1 1) (w.alloc (.cells #[.bool false] 4)):=by kernel_rfl
theorem mk26_2(w:World):(Instr.makeSlice 26 (.int .i64 2) (.int .i64 2)).run Tryz.prog w= .ok (.slice (some ⟨w.heap.size,0,none⟩) 2 2) (w.alloc (.cells #[.bool false,.bool false] 4)):=by kernel_rfl
theorem mk31{n:Nat}(h1:1<=n)(h2:n<=2)(w:World):(Instr.makeSlice 31 (.int .i64 (n:Int)) (.int .i64 (n:Int))).run Tryz.prog w= .ok (.slice (some ⟨w.heap.size,0,none⟩) n n) (w.alloc (.cells ⟨wordV (List.replicate n 0)⟩ 46)):=by
 have:n=1\/n=2:=by omega
 rcases this with rfl|rfl
 ·exact mk31_1 w
 ·exact mk31_2 w
theorem mk26{n:Nat}(h1:1<=n)(h2:n<=2)(w:World):(Instr.makeSlice 26 (.int .i64 (n:Int)) (.int .i64 (n:Int))).run Tryz.prog w= .ok (.slice (some ⟨w.heap.size,0,none⟩) n n) (w.alloc (.cells ⟨boolV (List.replicate n false)⟩ 4)):=by
 have:n=1\/n=2:=by omega
 rcases this with rfl|rfl
 ·exact mk26_1 w
 ·exact mk26_2 w
section
variable {w:World} {B:Nat} {A:Nat->Prop} {gb mb:Nat} {nv:Value} {W:Nat} {L:List Nd}
set_option maxRecDepth 100000 in
set_option maxHeartbeats 8000000 in
theorem simp67_core(h:PG w B A gb mb nv W L)(hB:B<=w.heap.size)(hL:L.length<=999)(h1:1<=W)(h2:W<=64)(o:Nat)(ho:2<=o)(ho2:o<=20)(args:List Nat)(n:Nat)(hl:args.length=n)(hn:n=arN o)(ha:∀a∈args,a<L.length){ad:Option Addr}{cap:Nat}(hat:(Lay.int .i64).At 0 w ad (intsN args))
  (hU:4<=o->∀t,t<L.length->∀w',Below w.heap.size w w'->∀(ad:Option Addr) (cap:Nat),(Lay.int .i64).At 0 w' ad (intsN [t])->Calls Tryz.prog 67 #[.pointer (some ⟨gb,0,none⟩),.int .u8 2,.slice ad 1 cap] w' (SimpPost w' B A gb mb nv W (simpM W 2 [t] L))):
  Calls Tryz.prog 67 #[.pointer (some ⟨gb,0,none⟩),.int .u8 o,.slice ad n cap] w (SimpPost w B A gb mb nv W (simpM W o args L)):=by
 have hg:=h.rv;obtain⟨na,ncap,rfl,hcl,hcm⟩:=h.slice;have c2:w.cell? ⟨gb,2,none⟩=some (.slice na L.length ncap):=by simp[World.cell?,h.blk]
 have HAR:=Z (arity72 o (by omega) (w:=w));rw[<-hn] at HAR;have hn12:n=1\/n=2:=by rw[hn];unfold arN;(repeat' split)<;>omega
 have hgl:=(h.lo gb (.inl rfl)).2;obtain⟨pb,po,rfl,hpl,p0⟩:=hat.int (i:=0) (by simp[intsN];omega);have HAT:=Z hat;have hz:((n:Int)==0)=false:=by rw[beq_eq_false_iff_ne];omega
 have hnn:1<=n/\n<=2:=by omega
 generalize hQ:SimpPost w B A gb mb (.slice na L.length ncap) W (simpM W o args L)=Q;have HQ:=Z hQ;have HLA:=Z hl;have HN:=Z hn;have HU:=Z hU;clear hU;clear hQ hat p0 hn12 hl hn;obtain⟨hn1,hn2⟩:=hnn;go_enter Tryz.func67,Tryz.ntmps67
 go_upto_region 6 with(go_at_call 92;refine HAR.o.mono ?_;rintro e w1 ⟨rfl,hb1⟩;have HB1:=Z hb1;clear hb1)
 have HBO:Hid (∀(x y:World),x.grownBy y none->Below x.heap.size x y):=Z λ x y hg=>(Below.refl _ _).grown hg (Nat.le_refl _) (λ k hk=>by cases hk)
 have hm1:=λ w=>mk31 hn1 hn2 w
 have hm2:=λ w=>mk26 hn1 hn2 w
 go_cut[10] (λ s wx=>∃xb ga gn gi ca,s= .pointer (some ⟨xb,0,none⟩)/\XP w.heap.size wx xb ga gn gi gb o n ca args (List.replicate n 0) (List.replicate n false)/\Below w.heap.size w wx)
 case first=>
  go_region_law(
   (refine step_copy Tryz.elemI rfl _ (.tmp 40) rfl rfl rfl (by simp[intsN,HLA.o]) (HAT.o.below ?bel) (by omega) (Nat.le_refl _) ?_
    case bel=>repeat(first|exact HB1.o|apply bel_al|apply Below.drew)
    intro va wA ha hgA;obtain⟨ga,ca,hva,hga1,hga2⟩:=ha.form (n:=n) (by simp[intsN,HLA.o]) (by omega);subst hva;have PA:=Z (flat_intV args▸ha.part (by simp[intsN,HLA.o]));have GA:=Z (HBO.o _ _ hgA);clear ha hgA))
  all_goals
   have hs0:=HB1.o.size;have hs1:=GA.o.size
   go_wp2_with fail
   go_meet
   case rel=>
    simp only[World.size_drew,World.size_alloc] at hga1 hs1;refine⟨_,_,_,_,_,rfl,XP.box (by first|exact(PA.o.alloc _).alloc _|exact PA.o.alloc _|exact PA.o)
     (by first|exact(Part.made (by simp)).alloc _|exact Part.made (by simp)|exact(Part.made (by simp)).drew.keep GA.o|exact((Part.made (by simp)).drew.keep GA.o).alloc _|exact((Part.made (by simp)).alloc _).drew.keep GA.o)
     (by first|exact(Part.made (by simp)).alloc _|exact Part.made (by simp)|exact(Part.made (by simp)).drew.keep GA.o|exact((Part.made (by simp)).drew.keep GA.o).alloc _|exact((Part.made (by simp)).alloc _).drew.keep GA.o)
     ⟨HLA.o,List.length_replicate ..,List.length_replicate ..⟩ (by omega) (by omega) (by first|omega|(simp;omega)) (by simp),?_⟩
    repeat(first|exact HB1.o|apply bel_al|apply Below.drew|refine bel_st ?_ GA.o)
 case rest=>
  obtain⟨xb,ga,gn,gi,ca,rfl,hX,hbw⟩:=hcut;have HX:=Z hX;have HBW:=Z hbw;clear hX hbw hm1 hm2 HBO;have HLEN:Hid (∀w',Below w.heap.size w w'->Calls Tryz.prog 59 #[.pointer (some ⟨gb,0,none⟩)] w' λ e w''=>e= .returned (.int .i64 L.length)/\w'=w''):=Z λ w' hb=>len58 gb L.length w' ((hb.cell (p:=⟨gb,2,none⟩) hgl).trans c2)
  have HNUM:Hid (∀w' t,Below w.heap.size w w'->t<L.length->Calls Tryz.prog 102 #[.pointer (some ⟨gb,0,none⟩),.int .i64 t] w' λ e w''=>e= .returned (.tuple #[.int .u64 (numZ L t:Nat),.bool (isC L t)])/\Below w'.heap.size w' w''):=Z λ w' t hb ht=>number102 (hg.below hb) t ht
  have HP:=Z h;have HRV:=Z hg;have HA:=Z ha;clear h hg ha c2
  go_wp2_with fail
  go_loopw [52,11] (λ i al wr=>∃k:Nat,k<=n/\i= .int .i64 k/\al= .bool ((args.take k).all (isC L))/\Hid (XP w.heap.size wr xb ga gn gi gb o n ca args (numsK L n args k) (boolsK L n args k))/\Hid (Below w.heap.size w wr)) (λ i _ _=>n-(intOf i).toNat)
  case atStart=>exact⟨0,by omega,rfl,rfl,by simpa[numsK,boolsK] using HX,HBW⟩
  case round=>
   obtain⟨k,hk,rfl,rfl,hX,hbw⟩:=hrel;by_cases hlk:k<n
   ·obtain⟨ib,io,hib,hpb,hp0⟩:=HAT.o.int (i:=k) (by simp[intsN,HLA.o];exact hlk);obtain⟨rfl,rfl⟩:ib=pb/\io=po:=by injection hib with e;injection e with e1 e2;exact⟨e1.symm,e2.symm⟩
    have hv:(intsN args).getD k 0=((args.getD k 0:Nat):Int):=by simp[intsN,List.getD_eq_getElem?_getD,List.getElem?_eq_getElem (HLA.o.symm▸hlk)]
    rw[hv] at hp0;have hp0':=(hbw.o.cell (p:=⟨ib,io+k,none⟩) hpb).trans hp0;have hal:args.getD k 0<L.length:=HA.o _ (by rw[List.getD_eq_getElem?_getD,List.getElem?_eq_getElem (HLA.o.symm▸hlk)];exact List.getElem_mem _);have HAS:=Z (all_step (L:=L) (args:=args) (k:=k) (HLA.o.symm▸hlk));have HNS:=Z (numsK_succ (L:=L) HLA.o hlk);have HBS:=Z (boolsK_succ (L:=L) HLA.o hlk);have HBT:=Z (boolsK_at (L:=L) HLA.o hlk);have HL1:=Z (HLEN.o _ hbw.o);have HN1:Hid (∀w',Below wr.heap.size wr w'->_):=Z (λ w' hb=>HNUM.o w' _ (bel_st hbw.o hb) hal);have hki:(k:Int)<n:=by omega
    have hti:((args.getD k 0:Nat):Int)<L.length:=by omega
    have hgne:=hX.o.ne.1.2.2;clear hv hp0 hib hal hpl;generalize args.getD k 0=t at*
    go_upto_region 13 with(first|(go_at_call 59;refine HL1.o.mono ?_;rintro e w' ⟨rfl,rfl⟩))
    clear hp0'
    go_cut[] (λ wx=>XP w.heap.size wx xb ga gn gi gb o n ca args (numsK L n args (k+1)) (boolsK L n args (k+1))/\Below w.heap.size w wx)
    case first=>as_aux_lemma=>
     have HXK:Hid (∀w',Below wr.heap.size wr w'->XP w.heap.size w' xb ga gn gi gb o n ca args (numsK L n args k) (boolsK L n args k)):=Z λ w' hb=>hX.o.keep hb
     have HS:Hid (∀w' ns bs,XP w.heap.size w' xb ga gn gi gb o n ca args ns bs->Below w.heap.size w w'->w'.cell? ⟨xb,3,none⟩=some (.slice (some ⟨gn,0,none⟩) n n)/\w'.cell? ⟨xb,4,none⟩=some (.slice (some ⟨gi,0,none⟩) n n)/\Below w.heap.size w w'):=Z λ w' ns bs hx hb=>⟨hx.cells.2.2.2.1,hx.cells.2.2.2.2,hb⟩
     have HG:=Z hX.o.lo
     go_region_held3(λ w'=>w'.cell? ⟨xb,3,none⟩=some (.slice (some ⟨gn,0,none⟩) n n)/\w'.cell? ⟨xb,4,none⟩=some (.slice (some ⟨gi,0,none⟩) n n)/\Below w.heap.size w w')
      (first|exact HS.o _ _ _ hX.o hbw.o|exact HS.o _ _ _ (HXK.o _ (Below.refl _ _).drew) hbw.o.drew|exact HS.o _ _ _ (HXK.o _ KB.o) (bel_st hbw.o KB.o)|exact HS.o _ _ _ ((HXK.o _ KB.o).setn hlk _) ((bel_st hbw.o KB.o).setCell HG.o.2.1 _)|exact HS.o _ _ _ (((HXK.o _ KB.o).setn hlk _).setb hlk _) (((bel_st hbw.o KB.o).setCell HG.o.2.1 _).setCell HG.o.2.2.1 _))
      (first
        |(go_at_call 102
          refine(HN1.o _ (by first|exact Below.refl _ _|exact(Below.refl _ _).drew)).mono ?_;rintro e w3 ⟨rfl,hb3⟩;have KB:Hid (Below wr.heap.size wr w3):=Z ⟨hb3.os,hb3.tape,hb3.output,hb3.size,hb3.block⟩;obtain⟨q1,q2⟩:=(HXK.o _ KB.o).nc hlk;obtain⟨q3,q4⟩:=(HXK.o _ KB.o).bc hlk;clear hb3))
     go_wp2_with fail
     go_meet
     exact⟨by rw[<-HNS.o,<-HBS.o];exact((HXK.o _ KB.o).setn hlk _).setb hlk _,((bel_st hbw.o KB.o).setCell HG.o.2.1 _).setCell HG.o.2.2.1 _⟩
    case rest=>as_aux_lemma=>
     obtain⟨hX1,hb1⟩:=hcut;have HX1:=Z hX1;have HBX:=Z hb1;have x4:=hX1.cells.2.2.2.2;have b4:=(hX1.bc hlk).1;rw[HBT.o] at b4;clear hX1 hb1 hX hgne hti;generalize(args.take k).all (isC L)=al at*;generalize isC L t=it at*;cases al with
     |true=>
      go_wp2_with fail
      go_roundw
      case rel=>exact⟨k+1,by omega,by go_num,by rw[HAS.o];rfl,HX1,HBX⟩
      case measure=>simp[intOf];omega
     |false=>
      go_wp2_with fail
      go_roundw
      case rel=>exact⟨k+1,by omega,by go_num,by rw[HAS.o];rfl,HX1,HBX⟩
      case measure=>simp[intOf];omega
   ·obtain rfl:k=n:=by omega
    have HX2:Hid (XP w.heap.size wr xb ga gn gi gb o k ca args (args.map (numZ L)) (args.map (isC L))):=Z (by have:=hX.o;rwa[numsK_all HLA.o,boolsK_all HLA.o] at this);have hAL:(args.take k).all (isC L)=args.all (isC L):=by rw[<-HLA.o,List.take_length]
    have HOK:=Z HP.o.ok;have HLL:=Z hL;have HPW:Hid (∀w',Below w.heap.size w w'->PG w' B A gb mb (.slice na L.length ncap) W L):=Z λ w' hb=>HP.o.below hb
    have HBS:Hid (∀w',Below w.heap.size w w'->B<=w'.heap.size):=Z λ w' hb=>Nat.le_trans hB hb.size
    rw[hAL];clear hAL hX HX HBW HLEN HNUM hlk hk hpl HAT;cases hall:args.all (isC L) with
    |true=>
     have HPL:=Z (plan_num HOK.o ho ho2 (by rw[HLA.o,HN.o]) HA.o hall);have hlt:=map_lt HOK.o HA.o;have hp2:=pow_le h2;have HAP:Hid (∀w',Below wr.heap.size wr w'->Calls Tryz.prog 75 #[.int .u8 o,.int .i64 W,.slice (some ⟨gn,0,none⟩) k k] w' (ApPost o W ((args.map (numZ L)).getD 0 0) ((args.map (numZ L)).getD 1 0) w')):=Z λ w' hb=>apply_any ho ho2 (by rw[List.length_map,HLA.o]) HN.o _ _ w' h1 h2 (λ v hv=>Nat.lt_of_lt_of_le (hlt v hv) hp2) (HX2.o.keep hb).numsAt
     have HWD:Hid (∀w',Below wr.heap.size wr w'->Calls Tryz.prog 72 #[.pointer (some ⟨gb,0,none⟩)] w' λ e w''=>e= .returned (.int .i64 (W:Nat))/\w'=w''):=Z λ w' hb=>width72 (HRV.o.below (bel_st hbw.o hb))
     have HX3:Hid (∀w',Below wr.heap.size wr w'->w'.cell? ⟨xb,3,none⟩=some (.slice (some ⟨gn,0,none⟩) k k)/\Below wr.heap.size wr w'):=Z λ w' hb=>⟨(HX2.o.keep hb).cells.2.2.2.1,hb⟩
     have x3:=HX2.o.cells.2.2.2.1;clear hlt hp2 hall;generalize(args.map (numZ L)).getD 0 0=v0 at*;generalize(args.map (numZ L)).getD 1 0=v1 at*
     go_upto_region 17 with fail
     go_region_held3(λ w'=>w'.cell? ⟨xb,3,none⟩=some (.slice (some ⟨gn,0,none⟩) k k)/\Below wr.heap.size wr w')
      (first|exact HX3.o _ (Below.refl _ _)|exact HX3.o _ (Below.refl _ _).drew|exact HX3.o _ KB.o)
      (first
        |(go_at_call 72
          refine(HWD.o _ (by first|exact Below.refl _ _|exact(Below.refl _ _).drew)).mono ?_;rintro e w3 ⟨rfl,rfl⟩)
        |(go_at_call 75
          refine(HAP.o _ (by first|exact Below.refl _ _|exact(Below.refl _ _).drew)).mono ?_;rintro e w3 ⟨rfl,hb3⟩;have KB:Hid (Below wr.heap.size wr w3):=Z ⟨hb3.os,hb3.tape,hb3.output,hb3.size,hb3.block⟩;clear hb3))
     have HB3:=Z (bel_st hbw.o KB.o);have hv64:appN o W (v0%2^W) (v1%2^W)<18446744073709551616:=Nat.lt_of_lt_of_le (appN_lt h1 (Nat.mod_lt _ (Nat.two_pow_pos W)) (Nat.mod_lt _ (Nat.two_pow_pos W))) (pow_le h2);have HC:=Z (const50 (HPW.o _ HB3.o) (HBS.o _ HB3.o) HLL.o h1 h2 _ hv64);have HE:Hid (simpM W o args L=runP L (.ask (cN W (appN o W (v0%2^W) (v1%2^W))))):=Z (by unfold simpM;rw[HPL.o]);clear hv64 x3;generalize appN o W (v0%2^W) (v1%2^W)=v at*
     go_wp2_with(first|(go_at_call 49;refine HC.o.mono ?_;rintro e w4 ⟨nv',rfl,p1,p2,p3⟩;have H1:=Z p1;have H2:=Z p2;have H3:=Z p3;clear p1 p2 p3))
     rw[<-HQ.o,HE.o];exact SimpPost.ask HB3.o (λ _ h=>h.elim) ⟨nv',rfl,H1.o,H2.o,H3.o⟩
    |false=>
     have HPL:=Z (planS_not (W:=W) ho ho2 (by rw[HLA.o,HN.o]) hall);clear hall;have HCQ:Hid (∀m,Calls Tryz.prog 103 #[.int .u8 o] (wr.drewN m) λ e w''=>e= .returned (.bool (commN o))/\∃k,w''=wr.drewN k):=Z λ m=>(commQ103 o ho ho2).mono λ e w'' h=>⟨h.1,m,h.2.symm⟩
     go_upto_region 19 with fail
     go_cut[144] (λ s wx=>s= .bool (swQ L o args)/\Below wr.heap.size wr wx)
     case first=>as_aux_lemma=>
      cases hcm:commN o with
      |false=>
       have HSW:Hid (swQ L o args=false):=Z (by
        unfold swQ swapB
        split
        ·rw[hcm];rfl
        ·rfl)
       rw[hcm] at HCQ;clear hcm
       go_quiet((go_at_call 103;exact HCQ.o _))
       go_wp2_with fail
       go_meet
       exact⟨by rw[HSW.o],below_drewN (Below.refl _ _) _⟩
      |true=>
       have hk2:k=2:=by
        rcases one_two ho ho2 HN.o with⟨_,e⟩|⟨e,_⟩
        ·rcases e with rfl|rfl<;>cases hcm
        ·exact e
       subst hk2;obtain⟨a,b,hab⟩:∃a b,args=[a,b]:=by
        have:=HLA.o
        match args,this with
        |[a,b],_=>exact⟨a,b,rfl⟩
       have HAB:=Z hab;have hb0:=(HX2.o.bc (i:=0) (by decide)).1;have hb1:=(HX2.o.bc (i:=1) (by decide)).1;have ha0:=(HX2.o.ac (i:=0) (by decide)).1;have ha1:=(HX2.o.ac (i:=1) (by decide)).1;have x2:=HX2.o.cells.2.2.1;have x4:=HX2.o.cells.2.2.2.2;have e0:(args.map (isC L)).getD 0 false=isC L a:=by rw[hab];rfl
       have e1:(args.map (isC L)).getD 1 false=isC L b:=by rw[hab];rfl
       have e2:args.getD 0 0=a:=by rw[hab];rfl
       have e3:args.getD 1 0=b:=by rw[hab];rfl
       rw[e0] at hb0;rw[e1] at hb1;rw[e2] at ha0;rw[e3] at ha1;have HSW:Hid (swQ L o args=(isC L a||(!isC L b&&decide (b<a)))):=Z (by rw[hab];show swapB L o a b=_;unfold swapB;rw[hcm,Bool.true_and]);rw[hcm] at HCQ;have hdec:decide ((b:Int)<(a:Int))=decide (b<a):=by simp
       clear hcm e0 e1 e2 e3 hab HPL HPW HBS HX2 HAB HRV HA;generalize isC L a=ia at*;generalize isC L b=ib at*;cases ia with
       |true=>
        go_quiet((go_at_call 103;exact HCQ.o _))
        go_wp2_with fail
        go_meet
        exact⟨by rw[HSW.o];rfl,below_drewN (Below.refl _ _) _⟩
       |false=>
        cases ib with
        |true=>
         go_quiet((go_at_call 103;exact HCQ.o _))
         go_wp2_with fail
         go_meet
         exact⟨by rw[HSW.o];rfl,below_drewN (Below.refl _ _) _⟩
        |false=>
         go_quiet((go_at_call 103;exact HCQ.o _))
         go_wp2_with fail
         go_meet
         exact⟨by rw[HSW.o];first|rfl|(congr 1;simp),below_drewN (Below.refl _ _) _⟩
     case rest=>as_aux_lemma=>
      obtain⟨rfl,hbc⟩:=hcut;have HBC:=Z hbc;clear hbc HCQ;have HXC:=Z (HX2.o.keep HBC.o);have HBW:=Z (bel_st hbw.o HBC.o);clear HX2 HBC
      go_upto_if 144 with fail
      go_cut[] (λ wx=>XP w.heap.size wx xb ga gn gi gb o k ca (swG L o args) ((swG L o args).map (numZ L)) ((swG L o args).map (isC L))/\Below w.heap.size w wx)
      case first=>as_aux_lemma=>
       cases hsw:swQ L o args with
       |false=>
        have HSW:=Z (swQ_no hsw);clear hsw
        go_wp2_with fail
        go_meet
        exact⟨by rw[HSW.o];exact HXC.o,HBW.o⟩
       |true=>
        obtain⟨a,b,hab,hsg⟩:=swQ_yes hsw;have HSG:=Z hsg;have hk2:k=2:=by rw[<-HLA.o,hab];rfl
        subst hk2;subst hab;have HXS:Hid (XP w.heap.size wc xb ga gn gi gb o 2 ca [a,b] [numZ L a,numZ L b] [isC L a,isC L b]):=HXC;clear hsw hsg HXC
        go_upto_region 20 with fail
        go_cut[] (λ wx=>XP w.heap.size wx xb ga gn gi gb o 2 ca [b,a] [numZ L a,numZ L b] [isC L a,isC L b]/\Below w.heap.size w wx)
        case first=>as_aux_lemma=>
         have HX0:=Z (HXS.o.keep (Below.refl _ _).drew);have HB0:=Z HBW.o.drew;have x2:=HX0.o.cells.2.2.1;obtain⟨a00,a01⟩:=HX0.o.ac (i:=0) (by decide);obtain⟨a10,a11⟩:=HX0.o.ac (i:=1) (by decide);simp only[List.getD_cons_zero,List.getD_cons_succ] at a00 a10;have x2':=HXS.o.cells.2.2.1;have a00':=(HXS.o.ac (i:=0) (by decide)).1;have a10':=(HXS.o.ac (i:=1) (by decide)).1;simp only[List.getD_cons_zero,List.getD_cons_succ] at a00' a10'
         go_still_tail 20,(by kernel_rfl)
         change wpList _ _ _ _ _ (World.drew _)
         generalize wc.drew=w2 at*
         go_wp2_with fail
         go_meet
         exact⟨(HX0.o.seta (k:=0) (by decide) _).seta (k:=1) (by decide) _,(HB0.o.setCell HX0.o.lo.1 _).setCell HX0.o.lo.1 _⟩
        case rest=>as_aux_lemma=>
         obtain⟨hX5,hB5⟩:=hcut;have HX5:=Z hX5;have HB5:=Z hB5;clear hX5 hB5
         go_upto_region 21 with fail
         go_cut[] (λ wx=>XP w.heap.size wx xb ga gn gi gb o 2 ca [b,a] [numZ L b,numZ L a] [isC L a,isC L b]/\Below w.heap.size w wx)
         case first=>as_aux_lemma=>
          have HX0:=Z (HX5.o.keep (Below.refl _ _).drew);have HB0:=Z HB5.o.drew;have x2:=HX0.o.cells.2.2.2.1;obtain⟨a00,a01⟩:=HX0.o.nc (i:=0) (by decide);obtain⟨a10,a11⟩:=HX0.o.nc (i:=1) (by decide);simp only[List.getD_cons_zero,List.getD_cons_succ] at a00 a10;have x2':=HX5.o.cells.2.2.2.1;have a00':=(HX5.o.nc (i:=0) (by decide)).1;have a10':=(HX5.o.nc (i:=1) (by decide)).1;simp only[List.getD_cons_zero,List.getD_cons_succ] at a00' a10'
          go_still_tail 20,(by kernel_rfl)
          change wpList _ _ _ _ _ (World.drew _)
          generalize wc.drew=w2 at*
          go_wp2_with fail
          go_meet
          exact⟨(HX0.o.setn (k:=0) (by decide) _).setn (k:=1) (by decide) _,(HB0.o.setCell HX0.o.lo.2.1 _).setCell HX0.o.lo.2.1 _⟩
         case rest=>as_aux_lemma=>
          obtain⟨hX6,hB6⟩:=hcut;have HX6:=Z hX6;have HB6:=Z hB6;clear hX6 hB6;have HX0:=Z (HX6.o.keep (Below.refl _ _).drew);have HB0:=Z HB6.o.drew;have x2:=HX0.o.cells.2.2.2.2;obtain⟨a00,a01⟩:=HX0.o.bc (i:=0) (by decide);obtain⟨a10,a11⟩:=HX0.o.bc (i:=1) (by decide);simp only[List.getD_cons_zero,List.getD_cons_succ] at a00 a10;have x2':=HX6.o.cells.2.2.2.2;have a00':=(HX6.o.bc (i:=0) (by decide)).1;have a10':=(HX6.o.bc (i:=1) (by decide)).1;simp only[List.getD_cons_zero,List.getD_cons_succ] at a00' a10'
          go_upto_region 22 with fail
          go_still_tail 20,(by kernel_rfl)
          change wpList _ _ _ _ _ (World.drew _)
          generalize wc.drew=w2 at*
          go_wp2_with fail
          go_meet
          rw[HSG.o];exact⟨(HX0.o.setb (k:=0) (by decide) _).setb (k:=1) (by decide) _,(HB0.o.setCell HX0.o.lo.2.2.1 _).setCell HX0.o.lo.2.2.1 _⟩
      case rest=>as_aux_lemma=>
       obtain⟨hX7,hB7⟩:=hcut;have HX7:=Z hX7;have HB7:=Z hB7;clear hX7 hB7 HXC HBW;have HZL:Hid ((swG L o args).length=k):=Z (by rw[swG_len,HLA.o]);have HZM:Hid (∀a∈swG L o args,a<L.length):=Z (swG_mem HA.o);have HRL:=Z (Cr.rules104 o ho ho2 wc);have HRA:Hid (∀r∈rulesN o,(∀v,ruleA W L o ((swG L o args).getD 0 0) ((swG L o args).getD 1 0) r= .known v->v<18446744073709551616)/\∀t,ruleA W L o ((swG L o args).getD 0 0) ((swG L o args).getD 1 0) r= .not t->4<=o/\t=(swG L o args).getD 0 0):=Z (rule_ans h2 ho);have HZ0:Hid ((swG L o args).getD 0 0<L.length):=Z (HZM.o _ (by rw[List.getD_eq_getElem?_getD,List.getElem?_eq_getElem (by have:=HZL.o;omega)];exact List.getElem_mem _));clear HA;generalize swG L o args=zs at*
       go_wp2_with(go_at_call 104;refine HRL.o.mono ?_;rintro e w5 ⟨v,rfl,⟨rb,ro,rcap,rfl,hrb,hrc⟩,hb5⟩;have HRC:=Z hrc;have HB5:=Z hb5;have HRB:=Z hrb;clear hrc hb5 hrb)
       have HX8:=Z (HX7.o.keep HB5.o);have HB8:=Z (bel_st HB7.o HB5.o);have HLR:Hid (((rulesN o).length:Int)<=100):=Z (by unfold rulesN;split<;>simp);clear HX7 HB7 HB5 HRL;generalize hrs:rulesN o=rs at*
       go_loopw [214] (λ i wr2=>∃j:Nat,j<=rs.length/\i= .int .i64 j/\Hid (firstA (ruleA W L o (zs.getD 0 0) (zs.getD 1 0)) (rs.drop j)=firstA (ruleA W L o (zs.getD 0 0) (zs.getD 1 0)) rs)/\Hid (Below w5.heap.size w5 wr2)) (λ i _=>rs.length-(intOf i).toNat)
       case atStart=>exact⟨0,by omega,rfl,Z rfl,Z (Below.refl _ _)⟩
       case round=>
        obtain⟨j,hj,rfl,hfa,hbr⟩:=hrel;have HX9:=Z (HX8.o.keep hbr.o);have HB9:=Z (bel_st HB8.o hbr.o);by_cases hlj:j<rs.length
        ·obtain⟨r,hr⟩:∃r,rs[j]? =some r:=⟨_,List.getElem?_eq_getElem hlj⟩
         obtain⟨f,hcf,hfr⟩:=HRC.o j r hr;have hmem:r∈rs:=List.mem_of_getElem? hr;have hcf':=(hbr.o.cell (p:=⟨rb,ro+j,none⟩) HRB.o).trans hcf;have HRW:=Z (HRV.o.below HB9.o);obtain⟨fn,cs,rfl,hent,hcalls⟩:=answers_enter (any_answer HRW.o h1 h2 ho ho2 (by rw[HZL.o,HN.o]) HZM.o HX9.o.xat (hrs▸hmem) (hfr.below hbr.o)) (hfr.below hbr.o);have HCA:=Z hcalls;have hst:=hfa.o.symm.trans (firstA_step hr);have hra:=HRA.o r hmem;have hji:(j:Int)<rs.length:=by omega
         have hlr:=HLR.o;clear hcalls hcf hfr hmem hfa HRC hr;generalize ruleA W L o (zs.getD 0 0) (zs.getD 1 0) r=x at*;cases x with
         |no=>
          have HCB:Hid (Calls Tryz.prog fn ⟨.pointer (some ⟨xb,0,none⟩)::cs⟩ wr λ e w'=>∃t u:Int,e= .returned (.agg #[.int .u8 0,.int .i64 t,.int .u64 u])/\Below wr.heap.size wr w'):=Z (HCA.o.mono λ e w' ⟨v,h1,⟨t,u,h2⟩,h3⟩=>⟨t,u,by rw[h1,h2],h3⟩);have HFN:=Z hst;clear HCA hst hra
          go_wp2_with(refine HCB.o.mono ?_;rintro e w6 ⟨t,u,rfl,hb6⟩;have HB6:=Z hb6;clear hb6)
          go_roundw
          case rel=>exact⟨j+1,by omega,by go_num,Z HFN.o.symm,Z (bel_al (bel_st hbr.o HB6.o) _)⟩
          case measure=>simp[intOf];omega
         |same t=>
          have HCB:Hid (Calls Tryz.prog fn ⟨.pointer (some ⟨xb,0,none⟩)::cs⟩ wr λ e w'=>∃u:Int,e= .returned (.agg #[.int .u8 1,.int .i64 (t:Nat),.int .u64 u])/\Below wr.heap.size wr w'):=Z (HCA.o.mono λ e w' ⟨v,h1,⟨u,h2⟩,h3⟩=>⟨u,by rw[h1,h2],h3⟩);have HE:Hid (simpM W o args L=runP L (.same t)):=Z (by unfold simpM;rw[HPL.o,hst];rfl);clear HCA hst hra HPL
          go_wp2_with(refine HCB.o.mono ?_;rintro e w6 ⟨u,rfl,hb6⟩;have HB6:=Z hb6;clear hb6)
          rw[<-HQ.o,HE.o];exact SimpPost.same HP.o (bel_al (bel_st HB9.o HB6.o) _) t
         |known v=>
          have HCB:Hid (Calls Tryz.prog fn ⟨.pointer (some ⟨xb,0,none⟩)::cs⟩ wr λ e w'=>∃t:Int,e= .returned (.agg #[.int .u8 2,.int .i64 t,.int .u64 (v:Nat)])/\Below wr.heap.size wr w'):=Z (HCA.o.mono λ e w' ⟨_,h1,⟨t,h2⟩,h3⟩=>⟨t,by rw[h1,h2],h3⟩);have HE:Hid (simpM W o args L=runP L (.ask (cN W v))):=Z (by unfold simpM;rw[HPL.o,hst];rfl);have hv64:=hra.1 v rfl;have HC:Hid (∀w',Below w.heap.size w w'->Calls Tryz.prog 49 #[.pointer (some ⟨gb,0,none⟩),.int .u64 v] w' (AskPost w' B A noB gb mb (.slice na L.length ncap) W L ⟨0,v%2^W,[]⟩)):=Z λ w' hb=>const50 (HPW.o _ hb) (HBS.o _ hb) HLL.o h1 h2 _ hv64
          clear HCA hst hra HPL hv64
          go_wp2_with(first
           |(go_at_call 49;refine(HC.o _ (bel_al (bel_st HB9.o HB6.o) _)).mono ?_;rintro e w7 ⟨nv',rfl,p1,p2,p3⟩;have H1:=Z p1;have H2:=Z p2;have H3:=Z p3;clear p1 p2 p3)
           |(refine HCB.o.mono ?_;rintro e w6 ⟨t,rfl,hb6⟩;have HB6:=Z hb6;clear hb6))
          rw[<-HQ.o,HE.o];exact SimpPost.ask (bel_al (bel_st HB9.o HB6.o) _) (λ _ h=>h.elim) ⟨nv',rfl,H1.o,H2.o,H3.o⟩
         |not t=>
          have HCB:Hid (Calls Tryz.prog fn ⟨.pointer (some ⟨xb,0,none⟩)::cs⟩ wr λ e w'=>∃u:Int,e= .returned (.agg #[.int .u8 3,.int .i64 (t:Nat),.int .u64 u])/\Below wr.heap.size wr w'):=Z (HCA.o.mono λ e w' ⟨v,h1,⟨u,h2⟩,h3⟩=>⟨u,by rw[h1,h2],h3⟩);have hn4:=hra.2 t rfl;have htl:t<L.length:=by rw[hn4.2];exact HZ0.o
          have HE:Hid (simpM W o args L=simpM W 2 [t] L):=Z (by unfold simpM;rw[HPL.o,hst];rfl);have HC:=Z (λ w' hb (b:Nat) hl=>HU.o hn4.1 t htl w' (hb:Below w.heap.size w w') (some ⟨b,0,none⟩) 1 hl);clear HCA hst hra HPL hn4 htl
          go_wp2_with(first
           |(go_at_call 67
             refine(HC.o _ (bel_al (bel_al (bel_st HB9.o HB6.o) _) _) _ (at_one_new (by simp) _)).mono ?_;rintro e w7 ⟨nv',A',rfl,p1,p2,p3,p4⟩;have H1:=Z p1;have H2:=Z p2;have H3:=Z p3;have H4:=Z p4;clear p1 p2 p3 p4)
           |(refine HCB.o.mono ?_;rintro e w6 ⟨u,rfl,hb6⟩;have HB6:=Z hb6;clear hb6))
          rw[<-HQ.o,HE.o];exact SimpPost.lift (bel_al (bel_al (bel_st HB9.o HB6.o) _) _) ⟨nv',A',rfl,H1.o,H2.o,H3.o,H4.o⟩
        ·obtain rfl:j=rs.length:=by omega
         have HAN:Hid (firstA (ruleA W L o (zs.getD 0 0) (zs.getD 1 0)) rs= .no):=Z (by rw[<-hfa.o,List.drop_length];rfl);have HE:Hid (simpM W o args L=runP L (.ask ⟨o,0,zs⟩)):=Z (by unfold simpM;rw[HPL.o,HAN.o];rfl);have HC:=Z (app54 (HPW.o _ HB9.o) (HBS.o _ HB9.o) HLL.o o ho ho2 zs (by rw[HZL.o,HN.o]) HZM.o (len:=k) (cap:=ca) HZL.o HX9.o.argsAt (λ h=>by cases h));have x2:=HX9.o.cells.2.2.1;clear HPL HAN hfa hlj
         go_wp2_with(go_at_call 53;refine HC.o.mono ?_;rintro e w7 ⟨A',q0,nv',rfl,p1,p2,p3⟩;have H0:=Z q0;have H1:=Z p1;have H2:=Z p2;have H3:=Z p3;clear q0 p1 p2 p3)
         rw[<-HQ.o,HE.o];exact SimpPost.app HB9.o ⟨A',H0.o,nv',rfl,H1.o,H2.o,H3.o⟩
theorem simp67(h:PG w B A gb mb nv W L)(hB:B<=w.heap.size)(hL:L.length<=999)(h1:1<=W)(h2:W<=64)(o:Nat)(ho:2<=o)(ho2:o<=20)(args:List Nat)(n:Nat)(hl:args.length=n)(hn:n=arN o)(ha:∀a∈args,a<L.length){ad:Option Addr}{cap:Nat}(hat:(Lay.int .i64).At 0 w ad (intsN args)):
  Calls Tryz.prog 67 #[.pointer (some ⟨gb,0,none⟩),.int .u8 o,.slice ad n cap] w (SimpPost w B A gb mb nv W (simpM W o args L)):=
 simp67_core h hB hL h1 h2 o ho ho2 args n hl hn ha hat λ _ t ht w' hb ad cap hat=>
  simp67_core (h.below hb) (Nat.le_trans hB hb.size) hL h1 h2 2 (by decide) (by decide) [t] 1 rfl rfl (by simpa using ht) hat λ h4=>absurd h4 (by decide)
end
end Go.Proofs.YtgdpkkjfcdhmdaaGreatDoor
