/- The reference's New: its memory while it is built. -/
import Derived.Test.YtjancemacdffbaaDoorRf1
import Derived.Maps.AppendAt
namespace Go.Proofs.YtjancemacdffbaaDoor
open Go.RowKit

theorem Tryd.info4 : (Tryd.prog.info? 4).map (fun i => (i.zero, i.size, i.bytes)) = some (some (.bool false), 1, 1) := by kernel_rfl
theorem Tryd.info89 : (Tryd.prog.info? 89).map (fun i => (i.zero, i.size, i.bytes)) = some (some (.slice none 0 0), 1, 24) := by kernel_rfl

/-- the slice of row i -/
def rowV (n R : Nat) : Value := .slice (some ⟨R, 0, none⟩) n n

/-- k rows are there: x lies in block w0.heap.size, the slice of the rows is v. -/
structure RefB (w0 wr : World) (n k : Nat) (v : Value) (r : Nat → Nat) (M : Nat → Nat → Bool) : Prop where
  below : Below w0.heap.size w0 wr
  xc : wr.cell? ⟨w0.heap.size, 0, none⟩ = some v
  xf : wr.frozen? ⟨w0.heap.size, 0, none⟩ = false
  own : wr.ownsRow (w0.heap.size + 1) 89 1 v k ((List.range k).map fun i => rowV n (r i))
  size : w0.heap.size < wr.heap.size
  lo : ∀ i, i < k → w0.heap.size < r i ∧ r i < wr.heap.size
  bit : ∀ i j, i < k → j < n → wr.cell? ⟨r i, j, none⟩ = some (.bool (M i j))
  fz : ∀ i j, i < k → wr.frozen? ⟨r i, j, none⟩ = false
  inj : ∀ i j, i < k → j < k → r i = r j → i = j
  sep : ∀ i, i < k → v.ownBlock ≠ some (r i)

theorem RefB.drew {w0 wr : World} {n k : Nat} {v : Value} {r : Nat → Nat} {M : Nat → Nat → Bool} (h : RefB w0 wr n k v r M) : RefB w0 wr.drew n k v r M :=
  ⟨h.below.drew, h.xc, h.xf, h.own, h.size, h.lo, h.bit, h.fz, h.inj, h.sep⟩

/-- a row that make has made -/
theorem made_row {w1 : World} {base n R : Nat} (h : w1.ownsRow base 4 1 (.slice (some ⟨R, 0, none⟩) n n) n (madeCells (Value.bool false).cells (n * 1)).toList) :
    R < w1.heap.size ∧ (∀ j, j < n → w1.cell? ⟨R, j, none⟩ = some (.bool false)) ∧ ∀ j, w1.frozen? ⟨R, j, none⟩ = false := by
  obtain ⟨hl, ⟨h1, _⟩ | ⟨g, cap, cur, hv, hg, hh, hn, hm, hs, ht⟩⟩ := h
  · cases h1
  · simp only [Value.slice.injEq, Option.some.injEq, Addr.mk.injEq, and_true, true_and] at hv
    obtain ⟨rfl, rfl⟩ := hv
    refine ⟨(Array.getElem?_eq_some_iff.1 hh).1, fun j hj => ?_, fun j => ?_⟩
    · have e : w1.cell? ⟨R, j, none⟩ = cur[j]? := by simp [World.cell?, hh]
      rw [e]
      have e2 : cur.toList[j]? = (madeCells (Value.bool false).cells (n * 1)).toList[j]? := by
        rw [← ht, List.getElem?_take_of_lt (by omega)]
      rw [Array.getElem?_toList] at e2
      rw [e2]
      simp [madeCells, Value.cells, hj, Nat.mod_one]
    · simp [World.frozen?, hh]

theorem RefB.step {w0 wq w2 w3 : World} {n k : Nat} {v v' : Value} {r : Nat → Nat} {M : Nat → Nat → Bool} (h : RefB w0 wq n k v r M)
    (hB : Below wq.heap.size wq w2) (hR : wq.heap.size < w2.heap.size) (hRc : ∀ j, j < n → w2.cell? ⟨wq.heap.size, j, none⟩ = some (.bool false)) (hRf : ∀ j, w2.frozen? ⟨wq.heap.size, j, none⟩ = false)
    (h3 : w3.ownsRow (w0.heap.size + 1) 89 1 v' (k + 1) (((List.range k).map fun i => rowV n (r i)) ++ [rowV n wq.heap.size])) (g3 : w2.grownBy w3 v.ownBlock)
    (hat : v'.ownBlock = v.ownBlock ∨ v'.ownBlock = some w2.heap.size) :
    RefB w0 (w3.setCell ⟨w0.heap.size, 0, none⟩ v') n (k + 1) v' (fun i => if i = k then wq.heap.size else r i) (fun i j => if i = k then false else M i j) := by
  have hs0 := h.size
  have gs1 := hB.size
  have gs3 := g3.size
  have hvlt : ∀ b, v.ownBlock = some b → w0.heap.size < b ∧ b < wq.heap.size := fun b hb => by have := h.own.lt b hb; omega
  -- blocks of wq that are not v's are as they were
  have keep : ∀ b, b < wq.heap.size → v.ownBlock ≠ some b → w3.heap[b]? = wq.heap[b]? := fun b hb hne =>
    (g3.block b (by omega) (Ne.symm hne)).trans (hB.block b hb)
  have keepR : w3.heap[wq.heap.size]? = w2.heap[wq.heap.size]? :=
    g3.block wq.heap.size (by omega) (fun e => by have := hvlt _ e.symm; omega)
  have hx : v.ownBlock ≠ some w0.heap.size := fun e => by have := hvlt _ e; omega
  have kx := keep w0.heap.size hs0 hx
  have far : ∀ b o', b ≠ w0.heap.size → (w3.setCell ⟨w0.heap.size, 0, none⟩ v').cell? ⟨b, o', none⟩ = w3.cell? ⟨b, o', none⟩ := fun b o' hb => World.cell?_setCell_other _ _ _ _ (fun e => hb (congrArg Addr.block e).symm)
  refine ⟨?_, ?_, ?_, ?_, ?_, ?_, ?_, ?_, ?_, ?_⟩
  · refine (h.below.trans ⟨g3.os.trans hB.os, g3.tape.trans hB.tape, g3.output.trans hB.output, by omega, fun b hb => keep b (by omega) (fun e => by have := hvlt _ e; omega)⟩).setCell (Nat.le_refl _) _
  · exact World.cell?_setCell_same _ _ _ ((World.cell?_of_block (w := wq) (a := ⟨w0.heap.size, 0, none⟩) kx).trans h.xc)
  · rw [World.frozen?_setCell]; exact (World.frozen?_of_block (w := wq) (a := ⟨w0.heap.size, 0, none⟩) kx).trans h.xf
  · refine ownsRow_setCell_below ?_ (by show w0.heap.size < w0.heap.size + 1; omega) _
    rw [List.range_succ, List.map_append]
    have e1 : ((List.range k).map fun i => rowV n (if i = k then wq.heap.size else r i)) = (List.range k).map fun i => rowV n (r i) := by
      apply List.map_congr_left
      intro i hi
      rw [if_neg (by have := List.mem_range.1 hi; omega)]
    rw [e1]
    simpa using h3
  · simp only [World.setCell, Array.size_modify]; omega
  · intro i hi
    simp only [World.setCell, Array.size_modify]
    by_cases e : i = k
    · rw [if_pos e]; omega
    · rw [if_neg e]; have := h.lo i (by omega); omega
  · intro i j hi hj
    by_cases e : i = k
    · simp only [if_pos e]
      rw [far _ _ (by omega), World.cell?_of_block (w := w2) (a := ⟨wq.heap.size, j, none⟩) keepR]
      exact hRc j hj
    · simp only [if_neg e]
      have hl := h.lo i (by omega)
      rw [far _ _ (by omega), World.cell?_of_block (w := wq) (a := ⟨r i, j, none⟩) (keep (r i) hl.2 (h.sep i (by omega)))]
      exact h.bit i j (by omega) hj
  · intro i j hi
    rw [World.frozen?_setCell]
    by_cases e : i = k
    · simp only [if_pos e]
      rw [World.frozen?_of_block (w := w2) (a := ⟨wq.heap.size, j, none⟩) keepR]
      exact hRf j
    · simp only [if_neg e]
      have hl := h.lo i (by omega)
      rw [World.frozen?_of_block (w := wq) (a := ⟨r i, j, none⟩) (keep (r i) hl.2 (h.sep i (by omega)))]
      exact h.fz i j (by omega)
  · intro i j hi hj
    by_cases ei : i = k
    · by_cases ej : j = k
      · intro _; omega
      · simp only [if_pos ei, if_neg ej]; intro e; have := h.lo j (by omega); omega
    · by_cases ej : j = k
      · simp only [if_neg ei, if_pos ej]; intro e; have := h.lo i (by omega); omega
      · simp only [if_neg ei, if_neg ej]; exact h.inj i j (by omega) (by omega)
  · intro i hi
    by_cases e : i = k
    · simp only [if_pos e]
      rcases hat with hat | hat
      · rw [hat]; intro e; have := hvlt _ e; omega
      · rw [hat]; intro e; simp at e; omega
    · simp only [if_neg e]
      rcases hat with hat | hat
      · rw [hat]; exact h.sep i (by omega)
      · rw [hat]; intro e; simp at e; have := h.lo i (by omega); omega

/-- a bit of a row is set -/
def updM (M : Nat → Nat → Bool) (a b : Nat) (x : Bool) : Nat → Nat → Bool := fun i j => if i = a ∧ j = b then x else M i j
theorem RefB.setBit {w0 wr : World} {n k : Nat} {v : Value} {r : Nat → Nat} {M : Nat → Nat → Bool} (h : RefB w0 wr n k v r M) {a b : Nat} (ha : a < k) (hb : b < n) (x : Bool) :
    RefB w0 (wr.setCell ⟨r a, b, none⟩ (.bool x)) n k v r (updM M a b x) := by
  have hl := h.lo a ha
  have ho : ∀ p : Addr, p ≠ ⟨r a, b, none⟩ → (wr.setCell ⟨r a, b, none⟩ (.bool x)).cell? p = wr.cell? p := fun p hp => World.cell?_setCell_other _ _ _ _ (Ne.symm hp)
  refine ⟨h.below.setCell (by show w0.heap.size ≤ r a; omega) _, ?_, by rw [World.frozen?_setCell]; exact h.xf, ?_, by simp [World.setCell]; exact h.size, ?_, ?_, ?_, h.inj, h.sep⟩
  · rw [ho _ (fun e => absurd (congrArg Addr.block e) (by show ¬ w0.heap.size = r a; omega))]; exact h.xc
  · refine World.ownsRow.kept (row := some (r a)) h.own ⟨rfl, rfl, rfl, by simp [World.setCell], fun q _ hq => Below.heap_setCell _ _ _ _ (by intro e; exact hq (by rw [e]))⟩ (Or.inr (h.sep a ha))
  · intro i hi; simp only [World.setCell, Array.size_modify]; exact h.lo i hi
  · intro i j hi hj
    unfold updM
    by_cases e : i = a ∧ j = b
    · obtain ⟨rfl, rfl⟩ := e
      rw [if_pos ⟨rfl, rfl⟩]
      exact World.cell?_setCell_same _ _ _ (h.bit i j hi hj)
    · rw [if_neg e, ho _ (fun e2 => e (by simp at e2; exact ⟨h.inj i a hi ha e2.1, e2.2⟩))]
      exact h.bit i j hi hj
  · intro i j hi; rw [World.frozen?_setCell]; exact h.fz i j hi

theorem dia_step {M : Nat → Nat → Bool} {k n : Nat} (hM : ∀ i j, i < k → j < n → M i j = decide (i = j)) : ∀ i j, i < k + 1 → j < n → updM (fun i j => if i = k then false else M i j) k k true i j = decide (i = j) := fun i j hi hj => by
  show (if i = k ∧ j = k then true else if i = k then false else M i j) = decide (i = j)
  by_cases e : i = k
  · by_cases e2 : j = k
    · rw [if_pos ⟨e, e2⟩]; simp; omega
    · rw [if_neg (by omega), if_pos e]; simp; omega
  · rw [if_neg (by omega), if_neg e]; exact hM i j (by omega) hj

theorem RefB.start (w : World) (n : Nat) : RefB w (w.alloc (.cells #[.slice none 0 0] 88)) n 0 (.slice none 0 0) (fun _ => 0) (fun _ _ => false) :=
  ⟨(Below.refl _ _).alloc (Nat.le_refl _) _, by simp, World.frozen?_alloc_at _ _ _ _ rfl, World.ownsRow_nil _ _ _ _, by simp, fun _ h => by omega, fun _ _ h => by omega, fun _ _ h => by omega, fun _ _ h => by omega, fun _ h => by omega⟩

theorem RefB.congr {w0 wr : World} {n k : Nat} {v : Value} {r : Nat → Nat} {M M' : Nat → Nat → Bool} (h : RefB w0 wr n k v r M) (hm : ∀ i j, i < k → j < n → M i j = M' i j) : RefB w0 wr n k v r M' :=
  ⟨h.below, h.xc, h.xf, h.own, h.size, h.lo, fun i j hi hj => by rw [← hm i j hi hj]; exact h.bit i j hi hj, h.fz, h.inj, h.sep⟩
theorem RefB.same {w0 wr wr' : World} {n k : Nat} {v : Value} {r : Nat → Nat} {M : Nat → Nat → Bool} (h : RefB w0 wr n k v r M) (s : Same wr wr') : RefB w0 wr' n k v r M := by
  obtain ⟨m, rfl⟩ := s
  exact ⟨⟨h.below.os, h.below.tape, h.below.output, h.below.size, h.below.block⟩, h.xc, h.xf, h.own, h.size, h.lo, h.bit, h.fz, h.inj, h.sep⟩
/-- all rows are there: a lattice of the reference -/
theorem RefB.form {w0 wr : World} {n : Nat} {v : Value} {r : Nat → Nat} {M : Nat → Nat → Bool} (h : RefB w0 wr n n v r M) (hn : 1 ≤ n) : ∃ g cap, v = .slice (some ⟨g, 0, none⟩) n cap := by
  obtain ⟨_, ⟨_, h0⟩ | ⟨g, cap, cur, hv, _⟩⟩ := h.own
  · omega
  · exact ⟨g, cap, hv⟩
theorem RefB.refC {w0 wr : World} {n g cap : Nat} {r : Nat → Nat} {M : Nat → Nat → Bool} (h : RefB w0 wr n n (.slice (some ⟨g, 0, none⟩) n cap) r M) (h32 : n ≤ 32) : RefC wr w0.heap.size g cap n r M := by
  refine ⟨h.xc, fun i hi => ?_, fun i j hi hj => h.bit i j hi hj, h32⟩
  have := World.ownsRow.cells h.own (g := g) rfl i (rowV n (r i)) (by simp [hi])
  rw [show (⟨g, 0, none⟩ : Addr).add i = ⟨g, i, none⟩ by unfold Addr.add; split <;> simp_all] at this
  exact this

end Go.Proofs.YtjancemacdffbaaDoor
