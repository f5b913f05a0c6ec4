/- A text that is rejected: parse.Parse. -/
import Derived.Test.YtekbkaipdmklpaaGreatDoorRk
import Derived.RegionTactic
import Derived.Deep.RegionHeld2
import Derived.Laws.EntriesVeiled
namespace Go.Proofs.YtekbkaipdmklpaaGreatDoor
namespace Cr
open Go Go.RowKit

set_option maxHeartbeats 40000000 in
set_option maxRecDepth 100000 in
theorem declare_panics {w : World} {x wb wo n cap : Nat} (h : Psr w x wb wo n cap chanB 1 1 0 0) (hne : wb ≠ x) : Calls Tryz.prog 70 #[.pointer (some ⟨x, 0, none⟩)] w fun e w' => e = .panicked [{ v := .iface 98 (.agg #[.int .i64 1, .int .i64 1, .int .i64 4]), recovered := false }] ∧ w.grownBy w' (some x) := by
  have HP := Lib.hid h
  go_enter Tryz.func70, Tryz.ntmps70
  go_upto_region 1 with (go_at_call 122; refine (next_calls HP.out hne).mono ?_; rintro e w1 ⟨rfl, hP1, hg1⟩)
  rename_i Q' K hK0
  generalize hwA : w1.alloc _ = wA
  have hbA : Below w1.heap.size w1 wA := by rw [← hwA]; exact (Below.refl _ _).alloc (Nat.le_refl _) _
  have hRA : wA.heap[w1.heap.size]? = some (.cells #[.string chanB, .int .i64 1, .int .i64 1] 113 (0, 0)) := by rw [← hwA]; exact heap_new w1 _
  have HPA := Lib.hid (hP1.below hbA)
  have hgA := Lib.hid (grown_trans hg1 (grown_below hbA))
  have hsz : w1.heap.size < wA.heap.size := (Array.getElem?_eq_some_iff.1 hRA).1
  clear hwA hbA hP1 hg1
  generalize w1.heap.size = R at *
  have a0 : wA.cell? ⟨R, 0, none⟩ = some (.string chanB) := by simp [World.cell?, hRA]
  have a1 : wA.cell? ⟨R, 1, none⟩ = some (.int .i64 1) := by simp [World.cell?, hRA]
  have a2 : wA.cell? ⟨R, 2, none⟩ = some (.int .i64 1) := by simp [World.cell?, hRA]
  have HS : Hid (∀ w', Below wA.heap.size wA w' → w'.cell? ⟨R, 0, none⟩ = some (.string chanB) ∧ w'.cell? ⟨R, 1, none⟩ = some (.int .i64 1) ∧ Below wA.heap.size wA w') := Lib.hid fun w' hb => ⟨(hb.cell (p := ⟨R, 0, none⟩) hsz).trans a0, (hb.cell (p := ⟨R, 1, none⟩) hsz).trans a1, hb⟩
  have HC2 : Hid (∀ w', Below wA.heap.size wA w' → w'.cell? ⟨R, 1, none⟩ = some (.int .i64 1) ∧ w'.cell? ⟨R, 2, none⟩ = some (.int .i64 1)) := Lib.hid fun w' hb => ⟨(hb.cell (p := ⟨R, 1, none⟩) hsz).trans a1, (hb.cell (p := ⟨R, 2, none⟩) hsz).trans a2⟩
  generalize hRs : wA.heap.size = Q at *
  have b0 : ∀ ob, ((wA.alloc ob).drew).cell? ⟨R, 0, none⟩ = some (.string chanB) := fun ob => (HS.out _ ((Below.refl _ _).alloc (Nat.le_of_eq hRs.symm) _).drew).1
  have b0' : wA.drew.cell? ⟨R, 0, none⟩ = some (.string chanB) := (HS.out _ (Below.refl _ _).drew).1
  have KEY : ∀ (tb bm : Nat) (wE : World), Below Q wA wE → wE.cell? ⟨tb, 0, none⟩ = some (.int .i64 1) → wE.cell? ⟨tb, 1, none⟩ = some (.int .i64 1) → Exit.then K Q' Exit.normal { tmps := #[Value.pointer (some ⟨x, 0, none⟩), undef, Value.pointer (some ⟨R, 0, none⟩), Value.pointer (some ⟨tb, 0, none⟩), Value.bool true, Value.pointer (some ⟨x, 0, none⟩), Value.agg #[Value.string chanB, Value.int .i64 1, Value.int .i64 1], Value.tuple #[Value.agg #[Value.int .i64 1, Value.int .i64 1, Value.func (Fn.func 178) #[] #[]], Value.bool true], Value.map (some bm), Value.pointer (some ⟨R, 0, none⟩), Value.string chanB, Value.tuple #[Value.agg #[Value.int .i64 1, Value.int .i64 1, Value.func (Fn.func 178) #[] #[]], Value.bool true], Value.agg #[Value.int .i64 1, Value.int .i64 1, Value.func (Fn.func 178) #[] #[]], Value.bool true, undef, undef, undef, undef, undef, undef, undef, undef, undef, undef, undef, undef, undef, undef, undef, undef, undef, undef, undef, undef, undef, undef, undef, undef, undef, undef], defers := [] } wE := by
    intro tb bm wE KE e0 e1
    have hPE := HPA.out.below (hRs ▸ KE)
    have p12 := hPE.step12
    have p2 := (HC2.out _ KE).1
    have p3 := (HC2.out _ KE).2
    have p0 := e0
    have p1 := e1
    have KE2 := Lib.hid KE
    have hQE : Q ≤ wE.heap.size := by have := KE.size; omega
    clear hPE KE HS e0 e1
    go_wp2_with fail
    refine wp_region_held_drew (S := (fun w' => w'.cell? ⟨x, 12, none⟩ = some (.int .i64 0) ∧ w'.cell? ⟨tb, 0, none⟩ = some (.int .i64 1) ∧ w'.cell? ⟨tb, 1, none⟩ = some (.int .i64 1) ∧ w'.cell? ⟨R, 1, none⟩ = some (.int .i64 1) ∧ w'.cell? ⟨R, 2, none⟩ = some (.int .i64 1))) (by kernel_rfl) ⟨p12, p0, p1, p2, p3⟩ (fun hHeld => ?_)
    refine wpAnyH_take (i := 0) (v := ?_) rfl (by kernel_rfl) (by kernel_rfl) (by kernel_rfl) (fun _ _ _ h => h) (Or.inl ⟨by rfl, ?_⟩) hHeld ?_
    rotate_left
    · (intro w hSw; (try dsimp only at hSw); go_simp); (try with_reducible rfl)
    simp only [List.getElem_toArray, List.getElem_cons_zero, Act.put, List.setIfInBounds_toArray, List.set_cons_zero, List.set_cons_succ]
    refine wpAnyH_take (i := 1) (v := ?_) rfl (by kernel_rfl) (by kernel_rfl) (by kernel_rfl) (fun _ _ _ h => h) (Or.inl ⟨by rfl, ?_⟩) hHeld ?_
    rotate_left
    · (intro w hSw; (try dsimp only at hSw); go_simp); (try with_reducible rfl)
    simp only [List.getElem_toArray, List.getElem_cons_succ, List.getElem_cons_zero, Act.put, List.setIfInBounds_toArray, List.set_cons_zero, List.set_cons_succ]
    refine wpAnyH_take (i := 2) (v := ?_) rfl (by kernel_rfl) (by kernel_rfl) (by kernel_rfl) (fun _ _ _ h => h) (Or.inl ⟨by rfl, ?_⟩) hHeld ?_
    rotate_left
    · (intro w hSw; (try dsimp only at hSw); go_simp); (try with_reducible rfl)
    simp only [List.getElem_toArray, List.getElem_cons_succ, List.getElem_cons_zero, Act.put, List.setIfInBounds_toArray, List.set_cons_zero, List.set_cons_succ]
    refine wpAnyH_take (i := 3) (v := ?_) rfl (by kernel_rfl) (by kernel_rfl) (by kernel_rfl) (fun _ _ _ h => h) (Or.inl ⟨by rfl, ?_⟩) hHeld ?_
    rotate_left
    · (intro w hSw; (try dsimp only at hSw); go_simp); (try with_reducible rfl)
    simp only [List.getElem_toArray, List.getElem_cons_succ, List.getElem_cons_zero, Act.put, List.setIfInBounds_toArray, List.set_cons_zero, List.set_cons_succ]
    refine wpAnyH_take (i := 4) (v := ?_) rfl (by kernel_rfl) (by kernel_rfl) (by kernel_rfl) (fun _ _ _ h => h) (Or.inl ⟨by rfl, ?_⟩) hHeld ?_
    rotate_left
    · (intro w hSw; (try dsimp only at hSw); go_simp); (try with_reducible rfl)
    simp only [List.getElem_toArray, List.getElem_cons_succ, List.getElem_cons_zero, Act.put, List.setIfInBounds_toArray, List.set_cons_zero, List.set_cons_succ]
    refine wpAnyH_take (i := 5) (v := ?_) rfl (by kernel_rfl) (by kernel_rfl) (by kernel_rfl) (fun _ _ _ h => h) (Or.inl ⟨by rfl, ?_⟩) hHeld ?_
    rotate_left
    · (intro w hSw; (try dsimp only at hSw); go_simp); (try with_reducible rfl)
    simp only [List.getElem_toArray, List.getElem_cons_succ, List.getElem_cons_zero, Act.put, List.setIfInBounds_toArray, List.set_cons_zero, List.set_cons_succ]
    refine wpAnyH_take (i := 6) (v := ?_) rfl (by kernel_rfl) (by kernel_rfl) (by kernel_rfl) (fun _ _ _ h => h) (Or.inl ⟨by rfl, ?_⟩) hHeld ?_
    rotate_left
    · (intro w hSw; (try dsimp only at hSw); go_simp); (try with_reducible rfl)
    simp only [List.getElem_toArray, List.getElem_cons_succ, List.getElem_cons_zero, Act.put, List.setIfInBounds_toArray, List.set_cons_zero, List.set_cons_succ]
    refine wpAnyH_take (i := 7) (v := ?_) rfl (by kernel_rfl) (by kernel_rfl) (by kernel_rfl) (fun _ _ _ h => h) (Or.inl ⟨by rfl, ?_⟩) hHeld ?_
    rotate_left
    · (intro w hSw; (try dsimp only at hSw); go_simp); (try with_reducible rfl)
    simp only [List.getElem_toArray, List.getElem_cons_succ, List.getElem_cons_zero, Act.put, List.setIfInBounds_toArray, List.set_cons_zero, List.set_cons_succ]
    refine wpAnyH_take (i := 8) (v := ?_) rfl (by kernel_rfl) (by kernel_rfl) (by kernel_rfl) (fun _ _ _ h => h) (Or.inl ⟨by rfl, ?_⟩) hHeld ?_
    rotate_left
    · (intro w hSw; (try dsimp only at hSw); go_simp); (try with_reducible rfl)
    simp only [List.getElem_toArray, List.getElem_cons_succ, List.getElem_cons_zero, Act.put, List.setIfInBounds_toArray, List.set_cons_zero, List.set_cons_succ]
    refine wpAnyH_take (i := 9) (v := ?_) rfl (by kernel_rfl) (by kernel_rfl) (by kernel_rfl) (fun _ _ _ h => h) (Or.inl ⟨by rfl, ?_⟩) hHeld ?_
    rotate_left
    · (intro w hSw; (try dsimp only at hSw); go_simp); (try with_reducible rfl)
    simp only [List.getElem_toArray, List.getElem_cons_succ, List.getElem_cons_zero, Act.put, List.setIfInBounds_toArray, List.set_cons_zero, List.set_cons_succ]
    refine wpAnyH_take (i := 10) (v := ?_) rfl (by kernel_rfl) (by kernel_rfl) (by kernel_rfl) (fun _ _ _ h => h) (Or.inl ⟨by rfl, ?_⟩) hHeld ?_
    rotate_left
    · (intro w hSw; (try dsimp only at hSw); go_simp); (try with_reducible rfl)
    simp only [List.getElem_toArray, List.getElem_cons_succ, List.getElem_cons_zero, Act.put, List.setIfInBounds_toArray, List.set_cons_zero, List.set_cons_succ]
    refine wpAnyH_take (i := 11) (v := undef) rfl (by kernel_rfl) (by kernel_rfl) (by kernel_rfl) (fun _ _ _ h => h) (Or.inr ⟨by rfl, rfl⟩) hHeld ?_
    simp only [List.getElem_toArray, List.getElem_cons_succ, List.getElem_cons_zero, Act.put, List.setIfInBounds_toArray, List.set_cons_zero, List.set_cons_succ]
    refine wpAnyH_take (i := 12) (v := undef) rfl (by kernel_rfl) (by kernel_rfl) (by kernel_rfl) (fun _ _ _ h => h) (Or.inr ⟨by rfl, rfl⟩) hHeld ?_
    simp only [List.getElem_toArray, List.getElem_cons_succ, List.getElem_cons_zero, Act.put, List.setIfInBounds_toArray, List.set_cons_zero, List.set_cons_succ]
    refine wpAnyH_take (i := 13) (v := undef) rfl (by kernel_rfl) (by kernel_rfl) (by kernel_rfl) (fun _ _ _ h => h) (Or.inr ⟨by rfl, rfl⟩) hHeld ?_
    simp only [List.getElem_toArray, List.getElem_cons_succ, List.getElem_cons_zero, Act.put, List.setIfInBounds_toArray, List.set_cons_zero, List.set_cons_succ]
    refine wpAnyH_take (i := 14) (v := undef) rfl (by kernel_rfl) (by kernel_rfl) (by kernel_rfl) (fun _ _ _ h => h) (Or.inr ⟨by rfl, rfl⟩) hHeld ?_
    simp only [List.getElem_toArray, List.getElem_cons_succ, List.getElem_cons_zero, Act.put, List.setIfInBounds_toArray, List.set_cons_zero, List.set_cons_succ]
    refine wpAnyH_take (i := 15) (v := undef) rfl (by kernel_rfl) (by kernel_rfl) (by kernel_rfl) (fun _ _ _ h => h) (Or.inr ⟨by rfl, rfl⟩) hHeld ?_
    simp only [List.getElem_toArray, List.getElem_cons_succ, List.getElem_cons_zero, Act.put, List.setIfInBounds_toArray, List.set_cons_zero, List.set_cons_succ]
    refine wpAnyH_take (i := 16) (v := undef) rfl (by kernel_rfl) (by kernel_rfl) (by kernel_rfl) (fun _ _ _ h => h) (Or.inr ⟨by rfl, rfl⟩) hHeld ?_
    simp only [List.getElem_toArray, List.getElem_cons_succ, List.getElem_cons_zero, Act.put, List.setIfInBounds_toArray, List.set_cons_zero, List.set_cons_succ]
    refine wpAnyH_take (i := 17) (v := undef) rfl (by kernel_rfl) (by kernel_rfl) (by kernel_rfl) (fun _ _ _ h => h) (Or.inr ⟨by rfl, rfl⟩) hHeld ?_
    simp only [List.getElem_toArray, List.getElem_cons_succ, List.getElem_cons_zero, Act.put, List.setIfInBounds_toArray, List.set_cons_zero, List.set_cons_succ]
    refine wpAnyH_take (i := 18) (v := ?_) rfl (by kernel_rfl) (by kernel_rfl) (by kernel_rfl) (fun _ _ _ h => h) (Or.inl ⟨by rfl, ?_⟩) hHeld ?_
    rotate_left
    · (intro w hSw; (try dsimp only at hSw); go_simp); (try with_reducible rfl)
    simp only [List.getElem_toArray, List.getElem_cons_succ, List.getElem_cons_zero, Act.put, List.setIfInBounds_toArray, List.set_cons_zero, List.set_cons_succ]
    refine wpAnyH_take (i := 19) (v := ?_) rfl (by kernel_rfl) (by kernel_rfl) (by kernel_rfl) (fun _ _ _ h => h) (Or.inl ⟨by rfl, ?_⟩) hHeld ?_
    rotate_left
    · (intro w hSw; (try dsimp only at hSw); go_simp); (try with_reducible rfl)
    simp only [List.getElem_toArray, List.getElem_cons_succ, List.getElem_cons_zero, Act.put, List.setIfInBounds_toArray, List.set_cons_zero, List.set_cons_succ]
    refine wpAnyH_take (i := 20) (v := ?_) rfl (by kernel_rfl) (by kernel_rfl) (by kernel_rfl) (fun _ _ _ h => h) (Or.inl ⟨by rfl, ?_⟩) hHeld ?_
    rotate_left
    · (intro w hSw; (try dsimp only at hSw); go_simp); (try with_reducible rfl)
    simp only [List.getElem_toArray, List.getElem_cons_succ, List.getElem_cons_zero, Act.put, List.setIfInBounds_toArray, List.set_cons_zero, List.set_cons_succ]
    refine wpAnyH_ready (rs := [21]) (by kernel_rfl) (by simp) ?_
    refine AllReadyH.cons rfl (fun K hK => ?_) AllReadyH.nil
    go_simp
    go_at_call 30
    refine (need_panics _ _ _ _).mono ?_
    rintro e wP ⟨rfl, hbP⟩
    exact ⟨rfl, rfl, grown_trans hgA.out (grown_below (hRs ▸ (KE2.out.drew.trans (hbP.mono (by show Q ≤ wE.heap.size; omega)))))⟩
  go_region_held3 (fun w' => w'.cell? ⟨R, 0, none⟩ = some (.string chanB) ∧ w'.cell? ⟨R, 1, none⟩ = some (.int .i64 1) ∧ Below Q wA w')
    (first | exact HS.out _ KB | exact HS.out _ (Below.refl _ _) | exact HS.out _ (Below.refl _ _).drew | exact HS.out _ ((Below.refl _ _).alloc (Nat.le_of_eq hRs.symm) _).drew | exact HS.out _ (KB.alloc (by have := KB.size; omega) _) | exact HS.out _ (((KB.setCell (Nat.le_refl _) _).setCell (Nat.le_refl _) _).setCell (Nat.le_refl _) _) | exact HS.out _ (‹_ ∧ _ ∧ Below Q wA _›).2.2 | exact HS.out _ (‹_ ∧ _ ∧ Below Q wA _›).2.2.drew)
    (first
      | (go_at_call 123
         refine (decl_calls _).mono ?_
         rintro e wD ⟨bm, rfl, hbD, hlk⟩
         have hl1 := hlk wD (Below.refl _ _)
         have hl2 := fun ob => hlk (wD.alloc ob) ((Below.refl _ _).alloc (Nat.le_refl _) _)
         first
           | (have KB : Below Q wA wD := ((Below.refl _ _).alloc (Nat.le_of_eq hRs.symm) _).drew.trans (hbD.mono (by show Q ≤ (wA.alloc _).heap.size; simp; omega))
              have hq : wD.heap[Q]? = some (.cells #[.int .i64 0, .int .i64 0, .nilFunc] 290 (0, 0)) := (hbD.block Q (by show Q < (wA.alloc _).heap.size; simp; omega)).trans (by rw [← hRs]; exact heap_new wA _)
              have q0 : wD.cell? ⟨Q, 0, none⟩ = some (.int .i64 0) := by simp [World.cell?, hq]
              have q1 : wD.cell? ⟨Q, 1, none⟩ = some (.int .i64 0) := by simp [World.cell?, hq]
              have q2 : wD.cell? ⟨Q, 2, none⟩ = some .nilFunc := by simp [World.cell?, hq]
              have q3 : ∀ i, wD.frozen? ⟨Q, i, none⟩ = false := fun i => by simp [World.frozen?, hq])
           | (have KB : Below Q wA wD := (Below.refl _ _).drew.trans (hbD.mono (by show Q ≤ wA.heap.size; omega)))
         have hb0 := (HS.out _ KB).1
         have hb1 := fun ob => (HS.out _ (KB.alloc (by have := KB.size; omega) ob)).1))
  · exact KEY _ _ _ (KB.alloc (by have := KB.size; omega) _) (by simp) (by simp)
  · exact KEY _ _ _ (KB.alloc (by have := KB.size; omega) _) (by simp) (by simp)
  · have hE : (((wD.setCell ⟨Q, 0, none⟩ (.int .i64 1)).setCell ⟨Q, 1, none⟩ (.int .i64 1)).setCell ⟨Q, 2, none⟩ (.func (.func 178) #[] #[])).heap[Q]? = some (.cells #[.int .i64 1, .int .i64 1, .func (.func 178) #[] #[]] 290 (0, 0)) := by simp [World.setCell, Array.getElem?_modify, hq]
    exact KEY _ _ _ (((KB.setCell (Nat.le_refl _) _).setCell (Nat.le_refl _) _).setCell (Nat.le_refl _) _) (by simp [World.cell?, hE]) (by simp [World.cell?, hE])
/-- the parser as it begins -/
def parser0 : Array Value := #[.int .i64 0, .slice none 0 0, .slice none 0 0, .slice none 0 0, .slice none 0 0, .slice none 0 0, .int .i64 0, .slice none 0 0, .slice none 0 0, .slice none 0 0, .slice none 0 0, .int .i64 0, .int .i64 0]
set_option maxHeartbeats 4000000 in
set_option maxRecDepth 100000 in
theorem line_panics {w : World} {x wb wo n cap : Nat} (hx : w.heap[x]? = some (.cells parser0 102 (0, 0))) (hne : wb ≠ x) (hwb : wb < w.heap.size) (hn : 0 < n) (h0 : w.cell? ⟨wb, wo, none⟩ = some (.string chanB)) (h1 : w.cell? ⟨wb, wo + 1, none⟩ = some (.int .i64 1)) (h2 : w.cell? ⟨wb, wo + 2, none⟩ = some (.int .i64 1)) :
    Calls Tryz.prog 29 #[.pointer (some ⟨x, 0, none⟩), .slice (some ⟨wb, wo, none⟩) n cap] w fun e w' => e = .panicked [{ v := .iface 98 (.agg #[.int .i64 1, .int .i64 1, .int .i64 4]), recovered := false }] ∧ w.grownBy w' (some x) := by
  have hxs : x < w.heap.size := (Array.getElem?_eq_some_iff.1 hx).1
  have c5 : w.cell? ⟨x, 5, none⟩ = some (.slice none 0 0) := by simp [World.cell?, hx, parser0]
  have c6 : w.cell? ⟨x, 6, none⟩ = some (.int .i64 0) := by simp [World.cell?, hx, parser0]
  have fz : ∀ i, w.frozen? ⟨x, i, none⟩ = false := fun i => by simp [World.frozen?, hx]
  have hS : ((w.setCell ⟨x, 5, none⟩ (.slice (some ⟨wb, wo, none⟩) n cap)).setCell ⟨x, 6, none⟩ (.int .i64 0)).heap[x]? = some (.cells #[.int .i64 0, .slice none 0 0, .slice none 0 0, .slice none 0 0, .slice none 0 0, .slice (some ⟨wb, wo, none⟩) n cap, .int .i64 0, .slice none 0 0, .slice none 0 0, .slice none 0 0, .slice none 0 0, .int .i64 0, .int .i64 0] 102 (0, 0)) := by
    simp [World.setCell, Array.getElem?_modify, hx, parser0]
  have hoth : ∀ k, k ≠ x → ((w.setCell ⟨x, 5, none⟩ (.slice (some ⟨wb, wo, none⟩) n cap)).setCell ⟨x, 6, none⟩ (.int .i64 0)).heap[k]? = w.heap[k]? := fun k hk => by
    rw [Below.heap_setCell _ _ _ _ (by exact hk), Below.heap_setCell _ _ _ _ (by exact hk)]
  have hsz : ((w.setCell ⟨x, 5, none⟩ (.slice (some ⟨wb, wo, none⟩) n cap)).setCell ⟨x, 6, none⟩ (.int .i64 0)).heap.size = w.heap.size := by simp [World.setCell]
  have hg : w.grownBy ((w.setCell ⟨x, 5, none⟩ (.slice (some ⟨wb, wo, none⟩) n cap)).setCell ⟨x, 6, none⟩ (.int .i64 0)) (some x) := ⟨rfl, rfl, rfl, by rw [hsz]; exact Nat.le_refl _, fun k _ hk => hoth k (fun e => hk (by rw [e]))⟩
  have HP : Hid (Psr ((w.setCell ⟨x, 5, none⟩ (.slice (some ⟨wb, wo, none⟩) n cap)).setCell ⟨x, 6, none⟩ (.int .i64 0)) x wb wo n cap chanB 1 1 0 0) := Lib.hid ⟨by rw [hsz]; exact hxs, by rw [hsz]; exact hwb, by simp [World.cell?, hS], hn, by simp [World.cell?, hS], by simp [World.frozen?, hS], by simp [World.cell?, hS],
    (World.cell?_of_block (a := ⟨wb, wo, none⟩) (hoth wb hne)).trans h0, (World.cell?_of_block (a := ⟨wb, wo + 1, none⟩) (hoth wb hne)).trans h1, (World.cell?_of_block (a := ⟨wb, wo + 2, none⟩) (hoth wb hne)).trans h2⟩
  have d11 : ((w.setCell ⟨x, 5, none⟩ (.slice (some ⟨wb, wo, none⟩) n cap)).setCell ⟨x, 6, none⟩ (.int .i64 0)).cell? ⟨x, 11, none⟩ = some (.int .i64 0) := by simp [World.cell?, hS]
  have HG := Lib.hid hg
  clear hoth hsz hS h0 h1 h2 hg
  go_enter Tryz.func29, Tryz.ntmps29
  go_upto_region 1 with fail
  generalize (w.setCell ⟨x, 5, none⟩ (.slice (some ⟨wb, wo, none⟩) n cap)).setCell ⟨x, 6, none⟩ (.int .i64 0) = wS at *
  clear c5 c6 fz hx
  go_wp2_with (go_at_call 70; refine (declare_panics HP.out hne).mono ?_; rintro e w1 ⟨rfl, hg1⟩)
  exact ⟨rfl, rfl, grown_trans HG.out hg1⟩
end Cr
end Go.Proofs.YtekbkaipdmklpaaGreatDoor
