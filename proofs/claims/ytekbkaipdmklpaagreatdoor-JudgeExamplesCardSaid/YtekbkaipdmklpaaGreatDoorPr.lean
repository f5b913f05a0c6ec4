/- A text that is rejected: the parser's small functions. -/
import Derived.Test.YtekbkaipdmklpaaGreatDoorD1
import Derived.Test.YtekbkaipdmklpaaGreatDoorK4
import Derived.Test.YtekbkaipdmklpaaGreatDoorLb
import Derived.WalkKit
import Derived.WalkLawsBesides
import Derived.Recover
import Derived.Defers
import Derived.Deep.RegionHeld3
namespace Go.Proofs.YtekbkaipdmklpaaGreatDoor
namespace Cr
open Go Go.RowKit

theorem need_panics (l c e : Int) (w : World) : Calls Tryz.prog 30 #[.bool false, .agg #[.int .i64 l, .int .i64 c], .int .i64 e] w fun ed w' => ed = .panicked [{ v := .iface 98 (.agg #[.int .i64 l, .int .i64 c, .int .i64 e]), recovered := false }] ∧ Below w.heap.size w w' := by
  go_enter Tryz.func30, Tryz.ntmps30
  go_wp2
  exact ⟨rfl, rfl, (Below.refl _ _).alloc (Nat.le_refl _) _⟩
theorem need_holds {b : Bool} (hb : b = true) (l c e : Int) (w : World) : Calls Tryz.prog 30 #[.bool b, .agg #[.int .i64 l, .int .i64 c], .int .i64 e] w fun ed w' => ed = .returned (.tuple #[]) ∧ Below w.heap.size w w' := by
  subst hb
  go_enter Tryz.func30, Tryz.ntmps30
  go_wp2
  go_end0
  exact ⟨rfl, (Below.refl _ _).alloc (Nat.le_refl _) _⟩
/-- the parser's block: the words of the line, and where it is -/
structure Psr (w : World) (x wb wo : Nat) (n cap : Nat) (s : ByteArray) (l c : Int) (at_ : Int) (step : Int) : Prop where
  lx : x < w.heap.size
  lw : wb < w.heap.size
  words : w.cell? ⟨x, 5, none⟩ = some (.slice (some ⟨wb, wo, none⟩) n cap)
  pos : 0 < n
  at6 : w.cell? ⟨x, 6, none⟩ = some (.int .i64 at_)
  fz6 : w.frozen? ⟨x, 6, none⟩ = false
  step12 : w.cell? ⟨x, 12, none⟩ = some (.int .i64 step)
  t0 : w.cell? ⟨wb, wo, none⟩ = some (.string s)
  t1 : w.cell? ⟨wb, wo + 1, none⟩ = some (.int .i64 l)
  t2 : w.cell? ⟨wb, wo + 2, none⟩ = some (.int .i64 c)
theorem Psr.below {w w' : World} {x wb wo n cap : Nat} {s : ByteArray} {l c a step : Int} (h : Psr w x wb wo n cap s l c a step) (hb : Below w.heap.size w w') : Psr w' x wb wo n cap s l c a step :=
  ⟨Nat.lt_of_lt_of_le h.lx hb.size, Nat.lt_of_lt_of_le h.lw hb.size, (hb.cell (p := ⟨x, 5, none⟩) h.lx).trans h.words, h.pos, (hb.cell (p := ⟨x, 6, none⟩) h.lx).trans h.at6, (World.frozen?_of_block (a := ⟨x, 6, none⟩) (hb.block x h.lx)).trans h.fz6, (hb.cell (p := ⟨x, 12, none⟩) h.lx).trans h.step12,
    (hb.cell (p := ⟨wb, wo, none⟩) h.lw).trans h.t0, (hb.cell (p := ⟨wb, wo + 1, none⟩) h.lw).trans h.t1, (hb.cell (p := ⟨wb, wo + 2, none⟩) h.lw).trans h.t2⟩
theorem Psr.same {w w' : World} {x wb wo n cap : Nat} {s : ByteArray} {l c a step : Int} (h : Psr w x wb wo n cap s l c a step) (hs : w.heap.size ≤ w'.heap.size) (hx : w'.heap[x]? = w.heap[x]?) (hw : w'.heap[wb]? = w.heap[wb]?) : Psr w' x wb wo n cap s l c a step :=
  ⟨Nat.lt_of_lt_of_le h.lx hs, Nat.lt_of_lt_of_le h.lw hs, (World.cell?_of_block (a := ⟨x, 5, none⟩) hx).trans h.words, h.pos, (World.cell?_of_block (a := ⟨x, 6, none⟩) hx).trans h.at6, (World.frozen?_of_block (a := ⟨x, 6, none⟩) hx).trans h.fz6, (World.cell?_of_block (a := ⟨x, 12, none⟩) hx).trans h.step12,
    (World.cell?_of_block (a := ⟨wb, wo, none⟩) hw).trans h.t0, (World.cell?_of_block (a := ⟨wb, wo + 1, none⟩) hw).trans h.t1, (World.cell?_of_block (a := ⟨wb, wo + 2, none⟩) hw).trans h.t2⟩
theorem grown_below {w w' : World} {row : Option Nat} (h : Below w.heap.size w w') : w.grownBy w' row := ⟨h.os, h.tape, h.output, h.size, fun k hk _ => h.block k hk⟩
theorem grown_trans {w w1 w2 : World} {row : Option Nat} (h : w.grownBy w1 row) (k : w1.grownBy w2 row) : w.grownBy w2 row := ⟨k.os.trans h.os, k.tape.trans h.tape, k.output.trans h.output, Nat.le_trans h.size k.size, fun i hi hne => (k.block i (Nat.lt_of_lt_of_le hi h.size) hne).trans (h.block i hi hne)⟩
theorem first_calls {w : World} {x wb wo n cap : Nat} {s : ByteArray} {l c a step : Int} (h : Psr w x wb wo n cap s l c a step) : Calls Tryz.prog 176 #[.pointer (some ⟨x, 0, none⟩)] w fun e w' => e = .returned (.agg #[.int .i64 l, .int .i64 c]) ∧ Below w.heap.size w w' := by
  have hA : ∀ ob, Psr (w.alloc ob) x wb wo n cap s l c a step := fun ob => h.below ((Below.refl _ _).alloc (Nat.le_refl _) _)
  have h1 := fun ob => (hA ob).words
  have h6 := fun ob => (hA ob).t0
  have h7 := fun ob => (hA ob).t1
  have h8 := fun ob => (hA ob).t2
  have hn : (0 : Int) < n := by have := h.pos; omega
  clear hA h
  go_enter Tryz.func176, Tryz.ntmps176
  go_wp2_with fail
  exact bodyPost_ret (v := .agg #[.int .i64 l, .int .i64 c]) (by simp [results, Tryz.f176, go_sem]) rfl ⟨rfl, (Below.refl _ _).alloc (Nat.le_refl _) _⟩
/-- the parser's block after the first word -/
theorem Psr.store {w : World} {x wb wo n cap : Nat} {s : ByteArray} {l c a step : Int} (h : Psr w x wb wo n cap s l c a step) (hne : wb ≠ x) (b : Int) : Psr (w.setCell ⟨x, 6, none⟩ (.int .i64 b)) x wb wo n cap s l c b step ∧ w.grownBy (w.setCell ⟨x, 6, none⟩ (.int .i64 b)) (some x) := by
  have hs : (w.setCell ⟨x, 6, none⟩ (.int .i64 b)).heap.size = w.heap.size := by simp [World.setCell]
  have hoth : ∀ k, k ≠ x → (w.setCell ⟨x, 6, none⟩ (.int .i64 b)).heap[k]? = w.heap[k]? := fun k hk => Below.heap_setCell _ _ _ _ hk
  have hc : ∀ i, i ≠ 6 → (w.setCell ⟨x, 6, none⟩ (.int .i64 b)).cell? ⟨x, i, none⟩ = w.cell? ⟨x, i, none⟩ := fun i hi => by
    unfold World.setCell World.cell?
    simp only [Array.getElem?_modify, if_true]
    cases hx : w.heap[x]? with
    | none => rfl
    | some ob => cases ob <;> simp [Array.getElem?_setIfInBounds_ne (Ne.symm hi)]
  refine ⟨⟨by rw [hs]; exact h.lx, by rw [hs]; exact h.lw, (hc 5 (by decide)).trans h.words, h.pos, ?_, ?_, (hc 12 (by decide)).trans h.step12, ?_, ?_, ?_⟩, ⟨rfl, rfl, rfl, by rw [hs]; exact Nat.le_refl _, fun k _ hk => hoth k (fun e => hk (by rw [e]))⟩⟩
  · have := h.at6
    unfold World.setCell World.cell? at *
    simp only [Array.getElem?_modify, if_true]
    cases hx : w.heap[x]? with
    | none => rw [hx] at this; cases this
    | some ob =>
      rw [hx] at this
      cases ob with
      | cells cs t fr =>
        have hlt : 6 < cs.size := by
          rcases Nat.lt_or_ge 6 cs.size with h' | h'
          · exact h'
          · simp [Array.getElem?_eq_none h'] at this
        simp [hlt]
      | _ => cases this
  · have := h.fz6
    unfold World.setCell World.frozen? at *
    simp only [Array.getElem?_modify, if_true]
    cases hx : w.heap[x]? with
    | none => rw [hx] at this; exact this
    | some ob =>
      rw [hx] at this
      cases ob <;> exact this
  · exact (World.cell?_of_block (a := ⟨wb, wo, none⟩) (hoth wb hne)).trans h.t0
  · exact (World.cell?_of_block (a := ⟨wb, wo + 1, none⟩) (hoth wb hne)).trans h.t1
  · exact (World.cell?_of_block (a := ⟨wb, wo + 2, none⟩) (hoth wb hne)).trans h.t2
set_option maxHeartbeats 4000000 in
set_option maxRecDepth 100000 in
theorem next_calls {w : World} {x wb wo n cap : Nat} {s : ByteArray} {l c step : Int} (h : Psr w x wb wo n cap s l c 0 step) (hne : wb ≠ x) : Calls Tryz.prog 122 #[.pointer (some ⟨x, 0, none⟩)] w fun e w' => e = .returned (.agg #[.string s, .int .i64 l, .int .i64 c]) ∧ Psr w' x wb wo n cap s l c 1 step ∧ w.grownBy w' (some x) := by
  have hn : (0 : Int) < n := by have := h.pos; omega
  have hn0 : 0 < n := h.pos
  have HP := Lib.hid h
  clear h
  go_enter Tryz.func122, Tryz.ntmps122
  go_wp2_with fail
  generalize hwA : w.alloc _ = wA
  have hbA : Below w.heap.size w wA := by rw [← hwA]; exact (Below.refl _ _).alloc (Nat.le_refl _) _
  have hRA : wA.heap[w.heap.size]? = some (.cells #[.string ⟨#[]⟩, .int .i64 0, .int .i64 0] 113 (0, 0)) := by rw [← hwA]; exact heap_new w _
  have HPA := Lib.hid (HP.out.below hbA)
  have hsz : w.heap.size < wA.heap.size := (Array.getElem?_eq_some_iff.1 hRA).1
  have hgA : w.grownBy wA (some x) := by rw [← hwA]; exact World.grownBy_alloc w _ (some x)
  have hxR : x < w.heap.size := HP.out.lx
  have hwR : wb < w.heap.size := HP.out.lw
  clear hwA hbA
  generalize hRw : w.heap.size = R at *
  have HS : Hid (∀ w', Below wA.heap.size wA w' → w'.cell? ⟨x, 6, none⟩ = some (.int .i64 0) ∧ w'.cell? ⟨x, 5, none⟩ = some (.slice (some ⟨wb, wo, none⟩) n cap) ∧ Below wA.heap.size wA w') := Lib.hid fun w' hb => ⟨(HPA.out.below hb).at6, (HPA.out.below hb).words, hb⟩
  generalize hRs : wA.heap.size = Q at *
  go_region_held3 (fun w' => w'.cell? ⟨x, 6, none⟩ = some (.int .i64 0) ∧ w'.cell? ⟨x, 5, none⟩ = some (.slice (some ⟨wb, wo, none⟩) n cap) ∧ Below Q wA w')
    (first | exact HS.out _ KB | exact HS.out _ (Below.refl _ _) | exact HS.out _ (Below.refl _ _).drew | exact HS.out _ (‹_ ∧ _ ∧ Below Q wA _›).2.2 | exact HS.out _ (‹_ ∧ _ ∧ Below Q wA _›).2.2.drew)
    (first
      | (go_at_call 176
         refine (first_calls (HPA.out.below (hRs ▸ (‹_ ∧ _ ∧ Below Q wA _›).2.2))).mono ?_
         rintro e wB ⟨rfl, hbB⟩
         have KB := (‹_ ∧ _ ∧ Below Q wA _›).2.2.trans (hbB.mono (by have := (‹_ ∧ _ ∧ Below Q wA _›).2.2.size; omega)))
      | (go_at_call 30
         refine (need_holds (by first | rfl | simpa using hn0) _ _ _ _).mono ?_
         rintro e wC ⟨rfl, hbC⟩
         have KB := (‹_ ∧ _ ∧ Below Q wA _›).2.2.trans (hbC.mono (by have := (‹_ ∧ _ ∧ Below Q wA _›).2.2.size; omega))))
  have hPC := HPA.out.below (hRs ▸ KB)
  have hRC : wC.heap[R]? = some (.cells #[.string ⟨#[]⟩, .int .i64 0, .int .i64 0] 113 (0, 0)) := (KB.block R hsz).trans hRA
  have c6 := hPC.at6
  have f6 := hPC.fz6
  obtain ⟨hPD, hgD⟩ := hPC.store hne 1
  have HSTO := Lib.hid (And.intro hPD hgD)
  have HKB := Lib.hid KB
  clear HS hPD hgD
  go_wp2_with fail
  have hRD : (wC.setCell ⟨x, 6, none⟩ (.int .i64 1)).heap[R]? = some (.cells #[.string ⟨#[]⟩, .int .i64 0, .int .i64 0] 113 (0, 0)) := (Below.heap_setCell _ _ _ _ (by show R ≠ x; omega)).trans hRC
  have hgC : w.grownBy wC (some x) := grown_trans hgA (grown_below (hRs ▸ KB))
  generalize wC.setCell ⟨x, 6, none⟩ (.int .i64 1) = wD at *
  have hPD := HSTO.out.1
  have d5 := hPD.words
  have d6 := hPD.at6
  have d0 := hPD.t0
  have d1 := hPD.t1
  have d2 := hPD.t2
  have e0 : ∀ i, i < 3 → ∃ u, wD.cell? ⟨R, i, none⟩ = some u := fun i hi => by
    match i, hi with
    | 0, _ => exact ⟨_, by simp [World.cell?, hRD]; rfl⟩
    | 1, _ => exact ⟨_, by simp [World.cell?, hRD]; rfl⟩
    | 2, _ => exact ⟨_, by simp [World.cell?, hRD]; rfl⟩
  have r0 : wD.cell? ⟨R, 0, none⟩ = some (.string ⟨#[]⟩) := by simp [World.cell?, hRD]
  have r1 : wD.cell? ⟨R, 1, none⟩ = some (.int .i64 0) := by simp [World.cell?, hRD]
  have r2 : wD.cell? ⟨R, 2, none⟩ = some (.int .i64 0) := by simp [World.cell?, hRD]
  have g0 : ∀ i, wD.frozen? ⟨R, i, none⟩ = false := fun i => by simp [World.frozen?, hRD]
  clear e0 c6 f6 hPC hRC hPD
  go_region
  go_wp2_with fail
  have hE : (((wD.setCell ⟨R, 0, none⟩ (.string s)).setCell ⟨R, 1, none⟩ (.int .i64 l)).setCell ⟨R, 2, none⟩ (.int .i64 c)).drew.heap[R]? = some (.cells #[.string s, .int .i64 l, .int .i64 c] 113 (0, 0)) := by
    show (((wD.setCell ⟨R, 0, none⟩ (.string s)).setCell ⟨R, 1, none⟩ (.int .i64 l)).setCell ⟨R, 2, none⟩ (.int .i64 c)).heap[R]? = _
    simp [World.setCell, Array.getElem?_modify, hRD]
  have hw : ∀ k, k ≠ R → ((((wD.setCell ⟨R, 0, none⟩ (.string s)).setCell ⟨R, 1, none⟩ (.int .i64 l)).setCell ⟨R, 2, none⟩ (.int .i64 c)).drew).heap[k]? = wD.heap[k]? := fun k hk => by
    show (((wD.setCell ⟨R, 0, none⟩ (.string s)).setCell ⟨R, 1, none⟩ (.int .i64 l)).setCell ⟨R, 2, none⟩ (.int .i64 c)).heap[k]? = _
    rw [Below.heap_setCell _ _ _ _ (by exact hk), Below.heap_setCell _ _ _ _ (by exact hk), Below.heap_setCell _ _ _ _ (by exact hk)]
  have hwz : (((wD.setCell ⟨R, 0, none⟩ (.string s)).setCell ⟨R, 1, none⟩ (.int .i64 l)).setCell ⟨R, 2, none⟩ (.int .i64 c)).drew.heap.size = wD.heap.size := by simp [World.setCell]
  have ho : (((wD.setCell ⟨R, 0, none⟩ (.string s)).setCell ⟨R, 1, none⟩ (.int .i64 l)).setCell ⟨R, 2, none⟩ (.int .i64 c)).drew.os = wD.os ∧ (((wD.setCell ⟨R, 0, none⟩ (.string s)).setCell ⟨R, 1, none⟩ (.int .i64 l)).setCell ⟨R, 2, none⟩ (.int .i64 c)).drew.tape = wD.tape ∧ (((wD.setCell ⟨R, 0, none⟩ (.string s)).setCell ⟨R, 1, none⟩ (.int .i64 l)).setCell ⟨R, 2, none⟩ (.int .i64 c)).drew.output = wD.output := ⟨rfl, rfl, rfl⟩
  generalize (((wD.setCell ⟨R, 0, none⟩ (.string s)).setCell ⟨R, 1, none⟩ (.int .i64 l)).setCell ⟨R, 2, none⟩ (.int .i64 c)).drew = wE at *
  have f0 : wE.cell? ⟨R, 0, none⟩ = some (.string s) := by simp [World.cell?, hE]
  have f1 : wE.cell? ⟨R, 1, none⟩ = some (.int .i64 l) := by simp [World.cell?, hE]
  have f2 : wE.cell? ⟨R, 2, none⟩ = some (.int .i64 c) := by simp [World.cell?, hE]
  refine bodyPost_ret (v := .agg #[.string s, .int .i64 l, .int .i64 c]) (by simp [results, Tryz.f122, go_sem, f0, f1, f2]) rfl ⟨rfl, HSTO.out.1.same (Nat.le_of_eq hwz.symm) (hw x (by omega)) (hw wb (by omega)), ?_⟩
  have hg2 := grown_trans hgC HSTO.out.2
  exact ⟨ho.1.trans hg2.os, ho.2.1.trans hg2.tape, ho.2.2.trans hg2.output, by rw [hwz]; exact hg2.size, fun k hk hne => (hw k (by omega)).trans (hg2.block k hk hne)⟩
end Cr
end Go.Proofs.YtekbkaipdmklpaaGreatDoor
