/- Walk: maker.all: a term that holds if all terms do. -/
import Derived.Test.YtgdpkkjfcdhmdaaGreatDoorS0
import Derived.Test.YtgdpkkjfcdhmdaaGreatDoorU14
import Derived.Deep.RegionHeldLaw
namespace Go.Proofs.YtgdpkkjfcdhmdaaGreatDoor
open Go Go.RowKit
theorem setCell_there{w:World}{b i:Nat}{v:Value}(h:w.cell? ⟨b,i,none⟩=some v):w.setCell ⟨b,i,none⟩ v=w:=by
 have hh:(w.setCell ⟨b,i,none⟩ v).heap=w.heap:=by
  apply Array.ext';apply List.ext_getElem?;intro k;have e1:(w.setCell ⟨b,i,none⟩ v).heap.toList[k]? =(w.setCell ⟨b,i,none⟩ v).heap[k]? :=by simp
  have e2:w.heap.toList[k]? =w.heap[k]? :=by simp
  rw[e1,e2];by_cases hk:k=b
  ·subst hk;cases hb:w.heap[k]? with
   |none=>simp[World.cell?,hb] at h
   |some o=>
    cases o with
    |cells c t f=>
     simp[World.cell?,hb] at h;have hc:c.setIfInBounds i v=c:=by
      apply Array.ext';apply List.ext_getElem?;intro j;simp only[Array.toList_setIfInBounds,List.getElem?_set,Array.length_toList]
      split
      ·rename_i e;subst e
       split
       ·rw[<-h];simp
       ·rename_i hn;rw[Array.getElem?_eq_none (by omega)] at h;cases h
      ·rfl
     simp[World.setCell,Array.getElem?_modify,hb,hc]
    |_=>simp[World.cell?,hb] at h
  ·exact Below.heap_setCell _ _ _ k hk
 show({w with heap:=(w.setCell ⟨b,i,none⟩ v).heap}:World)=w;rw[hh]
def TmP(w:World)(B:Nat)(A:Nat->Prop)(gb mb:Nat)(nv:Value)(W:Nat)(r:Nat×List Nd)(e:Ending)(w':World):Prop:=
 ∃(nv':Value) (A':Nat->Prop),e= .returned (.int .i64 (r.1:Nat))/\Run w w' B A A' gb mb nv nv' W r.2
section
variable {w w':World} {B:Nat} {A:Nat->Prop} {gb mb:Nat} {nv:Value} {W:Nat} {L:List Nd} {qb:Nat}
theorem TmP.of{r:Nat×List Nd}{e:Ending}(h:SimpPost w B A gb mb nv W r e w'):∃(nv':Value) (A':Nat->Prop),e= .returned (.tuple #[.int .i64 (r.1:Nat),.int .i64 0])/\Run w w' B A A' gb mb nv nv' W r.2:=by
 obtain⟨nv',A',h1,h2,h3,h4,h5⟩:=h;exact⟨nv',A',h1,h2,h3,h4,h5⟩
set_option maxHeartbeats 1000000 in
theorem num30(h:PG w B A gb mb nv W L)(hB:B<=w.heap.size)(hL:L.length<=999)(h1:1<=W)(h2:W<=64)(hq:Part w qb [.pointer (some ⟨gb,0,none⟩),.int .i64 0])(hn:¬MutB gb (some mb) nv qb)(v:Nat)(hv:v<18446744073709551616):
  Calls Tryz.prog 30 #[.pointer (some ⟨qb,0,none⟩),.int .u64 v] w (TmP w B A gb mb nv W (numM W v L)):=by
 have HC:Hid (Calls Tryz.prog 49 #[.pointer (some ⟨gb,0,none⟩),.int .u64 v] w (SimpPost w B A gb mb nv W (numM W v L))):=Z ((const50 h hB hL h1 h2 v hv).mono λ e w' k=>SimpPost.ask (A':=noB) (Below.refl _ _) (λ _ h=>h.elim) k);have c0:=(hq.at_ 0 _ rfl).1;have c1:=(hq.at_ 1 _ rfl).1;have HQ:=Z hq;have HN:=Z hn;clear h hq hn hv;generalize numM W v L=r at*;go_enter Tryz.func30,Tryz.ntmps30
 go_wp2_with(
  go_at_call 49
  refine HC.o.mono ?_;intro e w' hs;obtain⟨nv',A',rfl,hr⟩:=TmP.of hs;have hq':=HQ.o.written hr.mt HN.o;have c2:=(hq'.at_ 1 _ rfl).1;have f2:=(hq'.at_ 1 _ rfl).2;have HR:=Z hr;have HST:=Z (setCell_there c2);clear hs hr hq')
 go_ret
 exact⟨nv',A',rfl,by rw[HST.o];exact HR.o⟩
set_option maxHeartbeats 1000000 in
theorem app32(h:PG w B A gb mb nv W L)(hB:B<=w.heap.size)(hL:L.length<=999)(h1:1<=W)(h2:W<=64)(hq:Part w qb [.pointer (some ⟨gb,0,none⟩),.int .i64 0])(hn:¬MutB gb (some mb) nv qb)(o:Nat)(ho:2<=o)(ho2:o<=20)(args:List Nat)(n:Nat)(hl:args.length=n)(hna:n=arN o)(ha:∀a∈args,a<L.length){ad:Option Addr}{cap:Nat}(hat:(Lay.int .i64).At 0 w ad (intsN args)):
  Calls Tryz.prog 32 #[.pointer (some ⟨qb,0,none⟩),.int .u8 (o:Nat),.slice ad n cap] w (TmP w B A gb mb nv W (simpM W o args L)):=by
 have HC:=Z (simp67 h hB hL h1 h2 o ho ho2 args n hl hna ha (cap:=cap) hat);have c0:=(hq.at_ 0 _ rfl).1;have c1:=(hq.at_ 1 _ rfl).1;have HQ:=Z hq;have HN:=Z hn;clear h hq hn hat hna ho ho2 ha hl;generalize simpM W o args L=r at*;go_enter Tryz.func32,Tryz.ntmps32
 go_wp2_with(
  go_at_call 67
  refine HC.o.mono ?_;intro e w' hs;obtain⟨nv',A',rfl,hr⟩:=TmP.of hs;have hq':=HQ.o.written hr.mt HN.o;have c2:=(hq'.at_ 1 _ rfl).1;have f2:=(hq'.at_ 1 _ rfl).2;have HR:=Z hr;have HST:=Z (setCell_there c2);clear hs hr hq')
 go_ret
 exact⟨nv',A',rfl,by rw[HST.o];exact HR.o⟩
end
section
variable {w w':World} {B:Nat} {A:Nat->Prop} {gb mb:Nat} {nv:Value} {W:Nat} {L:List Nd} {qb:Nat}
theorem Run.trans{w1 w2:World}{A1 A2:Nat->Prop}{nv1 nv2:Value}{L1 L2:List Nd}(h:Run w w1 B A A1 gb mb nv nv1 W L1)(k:Run w1 w2 B (λ k=>A k\/A1 k) A2 gb mb nv1 nv2 W L2):Run w w2 B A (λ k=>A1 k\/A2 k) gb mb nv nv2 W L2:=by
 have eA:(λ k=>(A k\/A1 k)\/A2 k)=λ k=>(A k\/(A1 k\/A2 k)):=funext λ k=>propext or_assoc
 refine⟨by rw[<-eA];exact k.pg,λ b hb=>hb.elim (h.new b) λ hb=>Nat.le_trans h.mt.size (k.new b hb),?_,?_⟩
 ·refine⟨k.mt.os.trans h.mt.os,k.mt.tape.trans h.mt.tape,k.mt.output.trans h.mt.output,Nat.le_trans h.mt.size k.mt.size,λ b hb hn=> ?_⟩;rw[k.mt.block b (Nat.lt_of_lt_of_le hb h.mt.size) (h.free hb hn)];exact h.mt.block b hb hn
 ·rcases k.nb with e|⟨b,e,hb⟩
  ·rcases h.nb with e2|⟨b,e2,hb⟩
   ·exact .inl (e.trans e2)
   ·exact .inr ⟨b,e.trans e2,hb⟩
  ·exact .inr ⟨b,e,Nat.le_trans h.mt.size hb⟩
theorem Run.lift{w1 w2:World}{A1:Nat->Prop}{nv1:Value}(hb:Below w.heap.size w w1)(h:Run w1 w2 B A A1 gb mb nv nv1 W L):Run w w2 B A A1 gb mb nv nv1 W L:=
 ⟨h.pg,λ k hk=>Nat.le_trans hb.size (h.new k hk),(Mut.of_below hb).trans h.mt,h.nb.elim .inl λ⟨k,e,hk⟩=>.inr ⟨k,e,Nat.le_trans hb.size hk⟩⟩
theorem Run.cell{w1:World}{A1:Nat->Prop}{nv1:Value}(h:Run w w1 B A A1 gb mb nv nv1 W L){p i:Nat}{v:Value}(c:w.cell? ⟨p,i,none⟩=some v)(hn:¬MutB gb (some mb) nv p):w1.cell? ⟨p,i,none⟩=some v:=
 (World.cell?_of_block (a:=⟨p,i,none⟩) (h.block (World.block_lt_of_cell? _ _ c) hn)).trans c
theorem alloc_cell{p i:Nat}{v:Value}(c:w.cell? ⟨p,i,none⟩=some v)(ob:Obj):(w.alloc ob).cell? ⟨p,i,none⟩=some v:=
 ((bel_al (Below.refl _ _) ob).cell (p:=⟨p,i,none⟩) (World.block_lt_of_cell? _ _ c)).trans c
theorem two_at(w:World)(a b:Nat):(Lay.int .i64).At 0 (w.alloc (.cells #[.int .i64 (a:Nat),.int .i64 (b:Nat)] 3)) (some ⟨w.heap.size,0,none⟩) (intsN [a,b]):=Lay.At.made w (intsN [a,b]) 3
def JoinP(w:World)(B:Nat)(A:Nat->Prop)(gb mb:Nat)(nv:Value)(W:Nat)(p5:Nat)(r:Nat×List Nd)(e:Ending)(w':World):Prop:=
 ∃(nv':Value) (A':Nat->Prop) (w1:World),e= .returned (.tuple #[])/\Run w w1 B A A' gb mb nv nv' W r.2/\w'=w1.setCell ⟨p5,0,none⟩ (.int .i64 (r.1:Nat))
set_option maxRecDepth 100000 in
set_option maxHeartbeats 80000000 in
theorem join66(h:PG w B A gb mb nv W L)(hB:B<=w.heap.size)(hL:L.length+3<=999)(h1:1<=W)(h2:W<=64)(hq:Part w qb [.pointer (some ⟨gb,0,none⟩),.int .i64 0])(hn:¬MutB gb (some mb) nv qb){p2 p5:Nat}(c2:w.cell? ⟨p2,0,none⟩=some (.pointer (some ⟨qb,0,none⟩)))(n2:¬MutB gb (some mb) nv p2)
  {out:Nat}(hp5:Part w p5 [.int .i64 (out:Nat)])(n5:¬MutB gb (some mb) nv p5)(hne:¬p2=p5)(ho:out<L.length)(t:Nat)(ht:t<L.length):
  Calls Tryz.prog 66 #[.int .i64 (t:Nat),.pointer (some ⟨p2,0,none⟩),.pointer (some ⟨p5,0,none⟩)] w (JoinP w B A gb mb nv W p5 (joinM W out t L)):=by
 have c5:=(hp5.at_ 0 _ rfl).1;have f5:=(hp5.at_ 0 _ rfl).2;have hd:Below w.heap.size w w.drew:=(Below.refl _ _).drew;have k2:w.drew.cell? ⟨p2,0,none⟩=some (.pointer (some ⟨qb,0,none⟩)):=c2;have k5:w.drew.cell? ⟨p5,0,none⟩=some (.int .i64 (out:Nat)):=c5;have HN30:=Z (num30 (h.below hd) hB (by omega) h1 h2 (hq.keep hd) hn 0 (by decide));have hg1:((numM W 0 L).1<(numM W 0 L).2.length/\L<+:(numM W 0 L).2/\GOk W (numM W 0 L).2/\(numM W 0 L).2.length<=L.length+1):=⟨runP_lt (p:=.ask (cN W 0)) (cN_ok h2),runP_pre _ _,runP_ok h.ok (p:=.ask (cN W 0)) (cN_ok h2),runP_len _ _⟩
 have HJ:Hid (joinM W out t L=simpM W 9 [out,(simpM W 16 [t,(numM W 0 L).1] (numM W 0 L).2).1] (simpM W 16 [t,(numM W 0 L).1] (numM W 0 L).2).2):=Z rfl;generalize joinM W out t L=J at*;generalize numM W 0 L=r1 at*;obtain⟨g1,g2,g3,g4⟩:=hg1;have hx1:∀x∈[t,r1.1],x<r1.2.length:=by simp;exact⟨Nat.lt_of_lt_of_le ht g2.length_le,g1⟩
 have hg2:=simpM_good h1 h2 g3 (o:=16) (by decide) (by decide) (args:=[t,r1.1]) rfl hx1;have hp2:=simpM_pre W 16 [t,r1.1] r1.2;have hl2:=simpM_len W 16 [t,r1.1] r1.2;have HX1:=Z hx1;generalize hR2:simpM W 16 [t,r1.1] r1.2=r2 at*;have HR2:=Z hR2;have HX2:Hid (∀x∈[out,r2.1],x<r2.2.length):=Z (by simp;exact⟨Nat.lt_of_lt_of_le ho (Nat.le_trans g2.length_le hp2.length_le),hg2.2.1⟩);have HQD:=Z (hq.keep hd);have HP5:=Z (hp5.keep hd);have HS:Hid (r1.2.length<=999/\r2.2.length<=999):=Z (by omega);have HBw:=Z hB;have HNQ:=Z hn;have HN2:=Z n2;have HN5:=Z n5;have HD:=Z hd;have HA1:Hid (∀w1 nv1 A1,Run w.drew w1 B A A1 gb mb nv nv1 W r1.2->Calls Tryz.prog 32 #[.pointer (some ⟨qb,0,none⟩),.int .u8 16,.slice (some ⟨w1.heap.size,0,none⟩) 2 2] (w1.alloc (.cells #[.int .i64 (t:Nat),.int .i64 (r1.1:Nat)] 3)) λ e w3=>∃(nv2:Value) (A2:Nat->Prop),e= .returned (.int .i64 (r2.1:Nat))/\Run w.drew w3 B A A2 gb mb nv nv2 W r2.2):=Z λ w1 nv1 A1 hr=>by
  have:=app32 (hr.pg.below (bel_al (Below.refl _ _) (.cells #[.int .i64 (t:Nat),.int .i64 (r1.1:Nat)] 3))) (Nat.le_trans (Nat.le_trans HBw.o (show w.heap.size<=w1.heap.size from hr.mt.size)) (by simp)) HS.o.1 h1 h2 ((HQD.o.written hr.mt HNQ.o).alloc _) (hr.free HQD.o.lt HNQ.o) 16 (by decide) (by decide) [t,r1.1] 2 rfl rfl HX1.o (cap:=2) (two_at w1 t r1.1);rw[HR2.o] at this;refine this.mono ?_;rintro e w3 ⟨nv2,A2,rfl,k⟩;exact⟨nv2,_,rfl,hr.trans (k.lift (bel_al (Below.refl _ _) _))⟩
 have HA2:Hid (∀w3 nv2 A2,Run w.drew w3 B A A2 gb mb nv nv2 W r2.2->Calls Tryz.prog 32 #[.pointer (some ⟨qb,0,none⟩),.int .u8 9,.slice (some ⟨w3.heap.size,0,none⟩) 2 2] (w3.alloc (.cells #[.int .i64 (out:Nat),.int .i64 (r2.1:Nat)] 3)) λ e w5=>∃(nv3:Value) (A3:Nat->Prop),e= .returned (.int .i64 (J.1:Nat))/\Run w.drew w5 B A A3 gb mb nv nv3 W J.2):=Z λ w1 nv1 A1 hr=>by
  have:=app32 (hr.pg.below (bel_al (Below.refl _ _) (.cells #[.int .i64 (out:Nat),.int .i64 (r2.1:Nat)] 3))) (Nat.le_trans (Nat.le_trans HBw.o (show w.heap.size<=w1.heap.size from hr.mt.size)) (by simp)) HS.o.2 h1 h2 ((HQD.o.written hr.mt HNQ.o).alloc _) (hr.free HQD.o.lt HNQ.o) 9 (by decide) (by decide) [out,r2.1] 2 rfl rfl HX2.o (cap:=2) (two_at w1 out r2.1);rw[<-HJ.o] at this;refine this.mono ?_;rintro e w3 ⟨nv2,A2,rfl,k⟩;exact⟨nv2,_,rfl,hr.trans (k.lift (bel_al (Below.refl _ _) _))⟩
 clear hg2 hR2 hx1 g1 g2 g3 g4 hp2 hl2 hq h hn n2 n5 hB hp5 f5 HS HX1 HX2 HR2 HJ HBw h1 h2 hL ho ht;have HK:Hid (∀w1 nv1 A1 M,Run w.drew w1 B A A1 gb mb nv nv1 W M->w1.cell? ⟨p2,0,none⟩=some (.pointer (some ⟨qb,0,none⟩))/\w1.cell? ⟨p5,0,none⟩=some (.int .i64 (out:Nat))/\w1.frozen? ⟨p5,0,none⟩=false):=Z λ w1 nv1 A1 M hr=>⟨hr.cell k2 HN2.o,hr.cell k5 HN5.o,((HP5.o.written hr.mt HN5.o).at_ 0 _ rfl).2⟩
 go_enter Tryz.func66,Tryz.ntmps66;refine wp_region_held_drew (S:=λ w'=>w'.cell? ⟨p2,0,none⟩=some (.pointer (some ⟨qb,0,none⟩))) (by kernel_rfl) k2 (λ hHeld=> ?_);refine wpAnyH_take (i:=0) (v:= ?_) rfl (by kernel_rfl) (by kernel_rfl) (by kernel_rfl) (λ _ _ _ h=>h) (Or.inl ⟨by rfl,?_⟩) (by assumption) ?_
 rotate_left
 ·intro w hSw;(try dsimp only at hSw);go_simp;try with_reducible rfl
 simp only[Act.put];refine wpAnyH_take (i:=2) (v:= ?_) rfl (by kernel_rfl) (by kernel_rfl) (by kernel_rfl) (λ _ _ _ h=>h) (Or.inl ⟨by rfl,?_⟩) (by assumption) ?_
 rotate_left
 ·intro w hSw;(try dsimp only at hSw);go_simp;try with_reducible rfl
 simp only[Act.put];refine wpAnyH_take (i:=3) (v:= ?_) rfl (by kernel_rfl) (by kernel_rfl) (by kernel_rfl) (λ _ _ _ h=>h) (Or.inl ⟨by rfl,?_⟩) (by assumption) ?_
 rotate_left
 ·intro w hSw;(try dsimp only at hSw);go_simp;try with_reducible rfl
 simp only[Act.put];refine wpAnyH_take (i:=4) (v:= ?_) rfl (by kernel_rfl) (by kernel_rfl) (by kernel_rfl) (λ _ _ _ h=>h) (Or.inl ⟨by rfl,?_⟩) (by assumption) ?_
 rotate_left
 ·intro w hSw;(try dsimp only at hSw);go_simp;try with_reducible rfl
 simp only[Act.put]
 iterate 7
  all_goals
   first
    |(refine wpAnyH_ready (rs:=[1,5]) (by decide+kernel) (by simp) ?_;refine AllReadyH.cons rfl (λ K hK=> ?_) (AllReadyH.cons rfl (λ K hK=> ?_) AllReadyH.nil))
    |(refine wpAnyH_ready (rs:=[1,6]) (by decide+kernel) (by simp) ?_;refine AllReadyH.cons rfl (λ K hK=> ?_) (AllReadyH.cons rfl (λ K hK=> ?_) AllReadyH.nil))
    |(refine wpAnyH_ready (rs:=[1,7]) (by decide+kernel) (by simp) ?_;refine AllReadyH.cons rfl (λ K hK=> ?_) (AllReadyH.cons rfl (λ K hK=> ?_) AllReadyH.nil))
    |(refine wpAnyH_ready (rs:=[1]) (by decide+kernel) (by simp) ?_;refine AllReadyH.cons rfl (λ K hK=> ?_) AllReadyH.nil)
    |(refine wpAnyH_ready (rs:=[5]) (by decide+kernel) (by simp) ?_;refine AllReadyH.cons rfl (λ K hK=> ?_) AllReadyH.nil)
    |(refine wpAnyH_ready (rs:=[6]) (by decide+kernel) (by simp) ?_;refine AllReadyH.cons rfl (λ K hK=> ?_) AllReadyH.nil)
    |(refine wpAnyH_ready (rs:=[7]) (by decide+kernel) (by simp) ?_;refine AllReadyH.cons rfl (λ K hK=> ?_) AllReadyH.nil)
    |(refine wpAnyH_ready (rs:=[8]) (by decide+kernel) (by simp) ?_;refine AllReadyH.cons rfl (λ K hK=> ?_) AllReadyH.nil)
    |(refine wpAnyH_ready (rs:=[9]) (by decide+kernel) (by simp) ?_;refine AllReadyH.cons rfl (λ K hK=> ?_) AllReadyH.nil)
    |(refine wpAnyH_ready (rs:=[10]) (by decide+kernel) (by simp) ?_;refine AllReadyH.cons rfl (λ K hK=> ?_) AllReadyH.nil)
  all_goals
   go_simp
  all_goals
   try
    first
     |(go_at_call 30
       refine HN30.o.mono ?_;rintro e w1 ⟨nv1,A1,rfl,hr⟩;obtain⟨x1,e1,_⟩:=HK.o _ _ _ _ hr;have K1:=Z x1;have K1a:=Z (alloc_cell x1 (.cells #[.int .i64 (t:Nat),.int .i64 (r1.1:Nat)] 3));have e1a:=alloc_cell e1 (.cells #[.int .i64 (t:Nat),.int .i64 (r1.1:Nat)] 3);have HR1:=Z hr;clear hr x1)
     |(go_at_call 32
       refine(HA2.o _ _ _ HR2.o).mono ?_;rintro e w5 ⟨nv3,A3,rfl,hr⟩;obtain⟨x1,c5w,f5w⟩:=HK.o _ _ _ _ hr;have K3:=Z x1;have K4:Hid ((w5.setCell ⟨p5,0,none⟩ (.int .i64 (J.1:Nat))).cell? ⟨p2,0,none⟩=some (.pointer (some ⟨qb,0,none⟩))):=Z (cell_set hne x1);have HR3:=Z hr;clear hr x1)
     |(go_at_call 32
       refine(HA1.o _ _ _ HR1.o).mono ?_;rintro e w3 ⟨nv2,A2,rfl,hr⟩;obtain⟨x1,e3,_⟩:=HK.o _ _ _ _ hr;have K2:=Z x1;have K2a:=Z (alloc_cell x1 (.cells #[.int .i64 (out:Nat),.int .i64 (r2.1:Nat)] 3));have e3a:=alloc_cell e3 (.cells #[.int .i64 (out:Nat),.int .i64 (r2.1:Nat)] 3);have HR2:=Z hr;clear hr x1)
  all_goals
   try dsimp only
  all_goals
   refine hK.out _ _ ?_ (λ hHeld=> ?_)
   ·first|with_reducible exact c2|with_reducible exact k2|with_reducible exact K4.o|with_reducible exact K3.o|with_reducible exact K2a.o|with_reducible exact K2.o|with_reducible exact K1a.o|with_reducible exact K1.o
   clear hK K
   try simp only[Act.put]
 all_goals
  refine wpAnyH_done (by kernel_rfl) ?_ _
  go_wp2_with fail
  refine⟨rfl,.tuple #[],?_,nv3,A3,w5,rfl,HR3.o.lift HD.o,rfl⟩;simp[results,Tryz.results66,go_sem]
end
theorem joinsM_snoc(W t:Nat):∀(l:List Nat) (out:Nat) (L:List Nd),joinsM W out (l++[t]) L=joinM W (joinsM W out l L).1 t (joinsM W out l L).2
 |[],_,_=>rfl
 |_::l,_,_=>joinsM_snoc W t l _ _
theorem join_facts{W:Nat}{L:List Nd}(h1:1<=W)(h2:W<=64)(hg:GOk W L){out t:Nat}(ho:out<L.length)(ht:t<L.length):L<+:(joinM W out t L).2/\(joinM W out t L).1<(joinM W out t L).2.length/\(joinM W out t L).2.length<=L.length+3/\GOk W (joinM W out t L).2:=by
 have g1:(numM W 0 L).1<(numM W 0 L).2.length:=runP_lt (p:=.ask (cN W 0)) (cN_ok h2);have g2:L<+:(numM W 0 L).2:=runP_pre _ _;have g3:GOk W (numM W 0 L).2:=runP_ok hg (p:=.ask (cN W 0)) (cN_ok h2);have g4:(numM W 0 L).2.length<=L.length+1:=runP_len _ _;unfold joinM;generalize numM W 0 L=r1 at*;have hx1:∀x∈[t,r1.1],x<r1.2.length:=by simp;exact⟨Nat.lt_of_lt_of_le ht g2.length_le,g1⟩
 have k:=simpM_good h1 h2 g3 (o:=16) (by decide) (by decide) (args:=[t,r1.1]) rfl hx1;have p:=simpM_pre W 16 [t,r1.1] r1.2;have n:=simpM_len W 16 [t,r1.1] r1.2;generalize simpM W 16 [t,r1.1] r1.2=r2 at*;have hx2:∀x∈[out,r2.1],x<r2.2.length:=by simp;exact⟨Nat.lt_of_lt_of_le ho (g2.trans p).length_le,k.2.1⟩
 have k2:=simpM_good h1 h2 k.1 (o:=9) (by decide) (by decide) (args:=[out,r2.1]) rfl hx2;have p2:=simpM_pre W 9 [out,r2.1] r2.2;have n2:=simpM_len W 9 [out,r2.1] r2.2;exact⟨(g2.trans p).trans p2,k2.2.1,by omega,k2.1⟩
theorem joins_facts{W:Nat}(h1:1<=W)(h2:W<=64):∀(l:List Nat) {L:List Nd} {out:Nat},GOk W L->out<L.length->(∀t∈l,t<L.length)->L<+:(joinsM W out l L).2/\(joinsM W out l L).1<(joinsM W out l L).2.length/\(joinsM W out l L).2.length<=L.length+3*l.length
 |[],L,_,_,ho,_=>⟨List.prefix_rfl,ho,by show L.length<=_;omega⟩
 |t::l,L,out,hg,ho,hl=>by
  obtain⟨a,b,c,d⟩:=join_facts h1 h2 hg ho (hl t (by simp));obtain⟨e,f,g⟩:=joins_facts h1 h2 l d b (λ u hu=>Nat.lt_of_lt_of_le (hl u (List.mem_cons_of_mem _ hu)) a.length_le);exact⟨a.trans e,f,by show(joinsM W _ l _).2.length<=_;simp;omega⟩
section
variable {w w' wr:World} {B:Nat} {A A':Nat->Prop} {gb mb:Nat} {nv nvk:Value} {W:Nat} {L:List Nd} {qb p2 p5:Nat} {r r':Nat×List Nd}
theorem Run.set{w1:World}{nv1:Value}(h:Run w w1 B A A' gb mb nv nv1 W L){p i:Nat}{v:Value}(hp:w.heap.size<=p)(ho:Off A A' gb mb nv1 p):Run w (w1.setCell ⟨p,i,none⟩ v) B A A' gb mb nv nv1 W L:=by
 refine⟨h.pg.frame (by simp[World.setCell]) λ k hk=>Below.heap_setCell _ _ _ k ?_,h.new,⟨h.mt.os,h.mt.tape,h.mt.output,by simpa[World.setCell] using h.mt.size,λ k hk hn=> ?_⟩,h.nb⟩
 ·rintro rfl;rcases hk with hk|hk
  ·exact ho.1 hk
  ·exact ho.2 hk
 ·rw[Below.heap_setCell _ _ _ k (by show k≠p;omega)];exact h.mt.block k hk hn
structure AllI (w wr:World) (B:Nat) (A A':Nat->Prop) (gb mb:Nat) (nv nvk:Value) (W qb p2 p5:Nat) (r:Nat×List Nd):Prop where
 run:Run w wr B A A' gb mb nv nvk W r.2
 c2:wr.cell? ⟨p2,0,none⟩=some (.pointer (some ⟨qb,0,none⟩))
 n2:¬MutB gb (some mb) nvk p2
 c5:Part wr p5 [.int .i64 (r.1:Nat)]
 o5:Off A A' gb mb nvk p5
 lo:w.heap.size<=p5
 ne:¬p2=p5
theorem AllI.step{e:Ending}(h:AllI w wr B A A' gb mb nv nvk W qb p2 p5 r)(hj:JoinP wr B (λ k=>A k\/A' k) gb mb nvk W p5 r' e w'):∃nv' A1,e= .returned (.tuple #[])/\AllI w w' B A A1 gb mb nv nv' W qb p2 p5 r':=by
 obtain⟨nv',A1,w1,rfl,hr,rfl⟩:=hj;have k:=h.run.trans hr;have ho:Off A (λ k=>A' k\/A1 k) gb mb nv' p5:=hr.off_step h.c5.lt h.o5;refine⟨nv',_,rfl,k.set h.lo ho,cell_set h.ne (hr.cell h.c2 h.n2),hr.free (World.block_lt_of_cell? _ _ h.c2) h.n2,?_,ho,h.lo,h.ne⟩;have:=(h.c5.written hr.mt h.o5.1).set (k:=0) (by simp) (.int .i64 (r'.1:Nat));simpa using this
theorem At.mut{xs:List Int}{ta:Option Addr}{S:Nat->Prop}(h:(Lay.int .i64).At 0 w ta xs)(hm:Mut S w w')(hn:∀ad,ta=some ad->¬S ad.block):(Lay.int .i64).At 0 w' ta xs:=λ i hi=>by
 obtain⟨b,o,e,h0,h1⟩:=h i hi;refine⟨b,o,e,Nat.lt_of_lt_of_le h0 hm.size,λ j hj=>(World.cell?_of_block (hm.block b h0 (hn _ e))).trans (h1 j hj)⟩
set_option maxRecDepth 100000 in
set_option maxHeartbeats 8000000 in
theorem all31(h:PG w B A gb mb nv W L)(hB:B<=w.heap.size)(h1:1<=W)(h2:W<=64)(hq:Part w qb [.pointer (some ⟨gb,0,none⟩),.int .i64 0])(hn:¬MutB gb (some mb) nv qb)(l:List Nat)(n:Nat)(hl:l.length=n)(hL:L.length+1+3*n<=999)(hlt:∀t∈l,t<L.length)
  {ta:Option Addr}{tc:Nat}(hat:(Lay.int .i64).At 0 w ta (intsN l))(hta:∀ad,ta=some ad->¬MutB gb (some mb) nv ad.block):
  Calls Tryz.prog 31 #[.pointer (some ⟨qb,0,none⟩),.slice ta n tc] w (TmP w B A gb mb nv W (allM W l L)):=by
 have HH:=Z h;have HQ:=Z hq;have HN:=Z hn;have HAT:=Z hat;have HTA:=Z hta;have HL:=Z hl;have HLT:=Z hlt;have HLO:Hid (∀k,MutB gb (some mb) nv k->k<w.heap.size):=Z λ k hk=>(h.lo k hk).2
 have hg:=h.ok;have e0:allM W l L=joinsM W (numM W 1 L).1 l (numM W 1 L).2:=rfl;have f1:(numM W 1 L).1<(numM W 1 L).2.length:=runP_lt (p:=.ask (cN W 1)) (cN_ok h2);have f2:L<+:(numM W 1 L).2:=runP_pre _ _;have f3:GOk W (numM W 1 L).2:=runP_ok hg (p:=.ask (cN W 1)) (cN_ok h2);have f4:(numM W 1 L).2.length<=L.length+1:=runP_len _ _;have HN30:=Z λ w' (hb:Below w.heap.size w w')=>num30 (h.below hb) (Nat.le_trans hB hb.size) (by omega) h1 h2 (hq.keep hb) hn 1 (by decide)
 rw[e0];generalize numM W 1 L=m at*;have HF:=Z (And.intro f1 (And.intro f2 (And.intro f3 f4)));clear h hq hn hat hta hl hlt hg e0 f1 f2 f3 f4;go_enter Tryz.func31,Tryz.ntmps31
 go_upto_region 1 with fail
 generalize hw1:w.alloc (.cells #[.pointer (some ⟨qb,0,none⟩)] 75)=w1;have hb1:Below w.heap.size w w1:=by rw[<-hw1];exact bel_al (Below.refl _ _) _
 have hP2:Part w1 w.heap.size [.pointer (some ⟨qb,0,none⟩)]:=by rw[<-hw1];exact Part.new _ _ _
 have c2:=(hP2.at_ 0 _ rfl).1;have HB1:=Z hb1;have HN31:=Z (HN30.o _ hb1);have HC2:=Z c2;clear hw1 hb1 hP2 HN30
 go_wp2_with(first
  |(go_at_call 30
    refine HN31.o.mono ?_;rintro e w2 ⟨nv1,A1,rfl,hr⟩;have HR1:=Z hr;have c2':=Run.cell hr HC2.o (λ hm=>by have:=HLO.o _ hm;omega);have HC2':=Z c2';clear hr))
 have HI:Hid (AllI w (w2.alloc (.cells #[.int .i64 (m.1:Nat)] 3)) B A A1 gb mb nv nv1 W qb w.heap.size w2.heap.size m):=Z
  ⟨(HR1.o.lift HB1.o).keep (bel_al (Below.refl _ _) _),alloc_cell HC2'.o _,HR1.o.free (World.block_lt_of_cell? _ _ HC2.o) (λ hm=>by have:=HLO.o _ hm;omega),Part.new _ _ _,HR1.o.off_new (Nat.le_refl _),Nat.le_trans HB1.o.size HR1.o.mt.size,
   λ e=>by have h1:=World.block_lt_of_cell? _ _ HC2.o;have h2:=HR1.o.mt.size;simp only at h1;omega⟩
 clear c2 c2' HC2 HC2' HN31 HLO;generalize w2.alloc (.cells #[.int .i64 (m.1:Nat)] 3)=w3 at*;generalize w.heap.size=p2 at HI⊢;generalize w2.heap.size=p5 at*;clear HR1
 go_loopw [14] (λ i wr=>∃(k:Nat) (nvk:Value) (A':Nat->Prop),k<=n/\i= .int .i64 k/\Hid (AllI w wr B A A' gb mb nv nvk W qb p2 p5 (joinsM W m.1 (l.take k) m.2))) (λ i _=>n-(intOf i).toNat)
 case atStart=>exact⟨0,nv1,A1,by omega,rfl,by rw[List.take_zero];exact HI⟩
 case round=>
  obtain⟨k,nvk,A',hk,rfl,hi⟩:=hrel;by_cases hkn:k<n
  ·have hki:(k:Int)<n:=by omega
   obtain⟨tb,to_,rfl,htb,c0⟩:=(At.mut HAT.o hi.o.run.mt HTA.o).int (i:=k) (by rw[intsN_len,HL.o];exact hkn);rw[intsN_getD] at c0;have hml:=HF.o.2.1.length_le;obtain⟨j1,j2,j3⟩:=joins_facts h1 h2 (l.take k) HF.o.2.2.1 HF.o.1 (λ t ht=>Nat.lt_of_lt_of_le (HLT.o t (List.mem_of_mem_take ht)) hml);rw[List.length_take] at j3;have HTK:Hid (joinsM W m.1 (l.take (k+1)) m.2=joinM W (joinsM W m.1 (l.take k) m.2).1 (l.getD k 0) (joinsM W m.1 (l.take k) m.2).2):=Z (by rw[take_getD 0 l k (by rw[HL.o];exact hkn),joinsM_snoc]);have hx:=HLT.o _ (getD_mem 0 l k (by rw[HL.o];exact hkn));have hm4:=HF.o.2.2.2;generalize l.getD k 0=x at*;generalize joinsM W m.1 (l.take k) m.2=r at*;have hp:=hi.o.run.pg;have HJ:=Z (join66 hp (Nat.le_trans hB hi.o.run.mt.size) (by omega) h1 h2 (HQ.o.written hi.o.run.mt HN.o) (hi.o.run.free HQ.o.lt HN.o) hi.o.c2 hi.o.n2 hi.o.c5 hi.o.o5.1 hi.o.ne j2 x (Nat.lt_of_lt_of_le hx (Nat.le_trans hml j1.length_le)));clear hp j1 j2 j3 hx hm4 hml
   go_wp2_with(
    go_at_call 66
    refine HJ.o.mono ?_;intro e w' hs;obtain⟨nv',A2,rfl,hs2⟩:=hi.o.step hs;have HS:=Z hs2;clear hs hs2)
   go_roundw
   case rel=>exact⟨k+1,nv',A2,by omega,by go_num,by rw[HTK.o];exact HS⟩
   case measure=>simp[intOf]<;>omega
  ·obtain rfl:k=n:=by omega
   have e1:l.take k=l:=by rw[<-HL.o,List.take_length]
   rw[e1] at hi;have c5:=(hi.o.c5.at_ 0 _ rfl).1
   go_wp2_with fail
   go_ret
   exact⟨nvk,A',rfl,hi.o.run⟩
end
end Go.Proofs.YtgdpkkjfcdhmdaaGreatDoor
