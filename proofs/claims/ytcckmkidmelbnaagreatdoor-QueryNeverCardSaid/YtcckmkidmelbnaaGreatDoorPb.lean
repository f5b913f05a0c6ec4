/- Lists of lists in memory: copies, comparisons (package weepholekit). -/
import Derived.Test.YtcckmkidmelbnaaGreatDoorAw
import Derived.Outline
import Derived.Deep.CutBlock
import Derived.Deep.Draws
namespace Go.Proofs.YtcckmkidmelbnaaGreatDoor
open Go.RowKit

/-- the same world, but for draws -/
def Same (w w' : World) : Prop := ∃ m, w' = w.drewN m
theorem Same.refl (w : World) : Same w w := ⟨0, rfl⟩
theorem Same.drewN {w w' : World} (h : Same w w') (n : Nat) : Same w (w'.drewN n) := by
  obtain ⟨m, rfl⟩ := h; exact ⟨m + n, World.drewN_drewN ..⟩
theorem Same.drew {w w' : World} (h : Same w w') : Same w w'.drew := h.drewN 1
theorem Same.trans {a b c : World} (h : Same a b) (k : Same b c) : Same a c := by
  obtain ⟨m, rfl⟩ := h; obtain ⟨n, rfl⟩ := k; exact ⟨m + n, World.drewN_drewN ..⟩
theorem Same.cell {w w' : World} (h : Same w w') (a : Addr) : w'.cell? a = w.cell? a := by obtain ⟨m, rfl⟩ := h; rfl
theorem Same.frozen {w w' : World} (h : Same w w') (a : Addr) : w'.frozen? a = w.frozen? a := by obtain ⟨m, rfl⟩ := h; rfl
theorem Same.heap {w w' : World} (h : Same w w') : w'.heap = w.heap := by obtain ⟨m, rfl⟩ := h; rfl
theorem Same.below {w w' : World} (h : Same w w') (B : Nat) : Below B w w' := by obtain ⟨m, rfl⟩ := h; exact ⟨rfl, rfl, rfl, Nat.le_refl _, fun _ _ => rfl⟩
theorem Lay.At.same {α : Type} {L : Lay α} {d : α} {w w' : World} {a : Option Addr} {xs : List α} (h : L.At d w a xs) (s : Same w w') : L.At d w' a xs := h.below (s.below _)
/-- lists of inputs in memory -/
def RowsAt (w : World) (a : Option Addr) (rows : List (List Int)) : Prop :=
  ∀ i, i < rows.length → ∃ b o a' cap', a = some ⟨b, o, none⟩ ∧ b < w.heap.size ∧ w.cell? ⟨b, o + i, none⟩ = some (.slice a' (rows.getD i []).length cap') ∧ (Lay.int .u64).At 0 w a' (rows.getD i []) ∧ (rows.getD i []).length ≤ cap' ∧ cap' ≤ 9223372036854775807
theorem RowsAt.nil {w : World} {a : Option Addr} : RowsAt w a [] := fun i hi => by simp at hi
theorem RowsAt.below {w w' : World} {a : Option Addr} {rows : List (List Int)} (h : RowsAt w a rows) (hb : Below w.heap.size w w') : RowsAt w' a rows := fun i hi => by
  obtain ⟨b, o, a', c', e, h0, h1, h2, h3⟩ := h i hi
  exact ⟨b, o, a', c', e, Nat.lt_of_lt_of_le h0 hb.size, (hb.cell (p := ⟨b, _, none⟩) h0).trans h1, h2.below hb, h3⟩
def RowsOk (rows : List (List Int)) : Prop := ∀ r ∈ rows, r.length ≤ 100000 ∧ ∀ v ∈ r, (Lit.int .u64 v).wf = true
theorem getD_mem {α : Type} (d : α) (xs : List α) (i : Nat) (h : i < xs.length) : xs.getD i d ∈ xs := by
  rw [List.getD_eq_getElem?_getD, List.getElem?_eq_getElem h]; exact List.getElem_mem h
theorem getD_ge {α : Type} (d : α) (xs : List α) (i : Nat) (h : xs.length ≤ i) : xs.getD i d = d := by
  rw [List.getD_eq_getElem?_getD, List.getElem?_eq_none h]; rfl
theorem RowsOk.len {rows : List (List Int)} (h : RowsOk rows) (c : Nat) : (rows.getD c []).length ≤ 100000 := by
  by_cases hc : c < rows.length
  · exact (h _ (getD_mem [] rows c hc)).1
  · rw [getD_ge _ _ _ (by omega)]; simp
theorem take_getD {α : Type} (d : α) (ps : List α) (q : Nat) (h : q < ps.length) : ps.take (q + 1) = ps.take q ++ [ps.getD q d] := by
  rw [List.take_succ_eq_append_getElem h, List.getD_eq_getElem?_getD, List.getElem?_eq_getElem h]; rfl
theorem Lay.Own.lower {α : Type} {L : Lay α} {e : TypeId} {w : World} {b b' : Nat} {v : Value} {xs : List α} (h : L.Own e w b v xs) (hb : b' ≤ b) : L.Own e w b' v xs :=
  ⟨h.1, h.2.imp id fun ⟨g, cap, cur, e, hg, r⟩ => ⟨g, cap, cur, e, Nat.le_trans hb hg, r⟩⟩
def Apart (v1 v2 : Value) : Prop := v1.ownBlock = none ∨ v2.ownBlock = none ∨ v1.ownBlock ≠ v2.ownBlock
theorem Apart.symm {v1 v2 : Value} (h : Apart v1 v2) : Apart v2 v1 := by
  rcases h with h | h | h
  · exact Or.inr (Or.inl h)
  · exact Or.inl h
  · exact Or.inr (Or.inr (Ne.symm h))
theorem Apart.ne {v1 v2 : Value} (h : Apart v1 v2) : v1.ownBlock = none ∨ v1.ownBlock ≠ v2.ownBlock := by
  rcases h with h | h | h
  · exact Or.inl h
  · cases e : v1.ownBlock with
    | none => exact Or.inl rfl
    | some k => rw [h]; exact Or.inr (by simp)
  · exact Or.inr h
section
variable {α : Type} {L : Lay α} {w : World} {P : Program} {t e : TypeId} {z : Value} {bytes : Nat}
end

abbrev Hdr := Option Addr × Nat × Nat
def hv (h : Hdr) : Value := .slice h.1 h.2.1 h.2.2
/-- rows that the call owns, and the slice of their headers -/
structure RowsOwn (w : World) (B : Nat) (v : Value) (hs : List Hdr) (rows : List (List Int)) : Prop where
  own : Lay.sl.Own 31 w B v hs
  len : hs.length = rows.length
  row : ∀ i, i < rows.length → (Lay.int .u64).Own 46 w B (hv (hs.getD i (none, 0, 0))) (rows.getD i []) ∧ Apart (hv (hs.getD i (none, 0, 0))) v
theorem RowsOwn.nil (w : World) (B : Nat) : RowsOwn w B (.slice none 0 0) [] [] := ⟨Lay.Own.nil _ _, rfl, fun i hi => by simp at hi⟩
theorem RowsOwn.below {w w' : World} {B : Nat} {v : Value} {hs : List Hdr} {rows : List (List Int)} (h : RowsOwn w B v hs rows) (hb : Below w.heap.size w w') : RowsOwn w' B v hs rows :=
  ⟨h.own.grown hb, h.len, fun i hi => ⟨(h.row i hi).1.grown hb, (h.row i hi).2⟩⟩
theorem getD_left {α : Type} (d : α) (xs ys : List α) (i : Nat) (h : i < xs.length) : (xs ++ ys).getD i d = xs.getD i d := by
  rw [List.getD_eq_getElem?_getD, List.getD_eq_getElem?_getD, List.getElem?_append_left h]
theorem getD_last {α : Type} (d x : α) (xs : List α) (i : Nat) (h : i = xs.length) : (xs ++ [x]).getD i d = x := by
  subst h; rw [List.getD_eq_getElem?_getD, List.getElem?_append_right (Nat.le_refl _)]; simp
/-- a row more -/
theorem RowsOwn.snoc {w w' : World} {B : Nat} {v v' : Value} {hs : List Hdr} {rows : List (List Int)} {hd : Hdr} {r : List Int} (h : RowsOwn w B v hs rows) (hr : (Lay.int .u64).Own 46 w B (hv hd) r) (hap : Apart (hv hd) v)
    (hown : Lay.sl.Own 31 w' B v' (hs ++ [hd])) (hg : w.grownBy w' v.ownBlock) (hat : v'.ownBlock = v.ownBlock ∨ v'.ownBlock = some w.heap.size) : RowsOwn w' B v' (hs ++ [hd]) (rows ++ [r]) := by
  have key : ∀ (x : Value) (ys : List Int), (Lay.int .u64).Own 46 w B x ys → Apart x v → (Lay.int .u64).Own 46 w' B x ys ∧ Apart x v' := fun x ys ho ha =>
    ⟨World.ownsRow.kept ho hg ha.ne, by
      unfold Apart
      rcases hat with e | e
      · rw [e]; exact ha
      · rw [e]
        cases e2 : x.ownBlock with
        | none => exact Or.inl rfl
        | some k => exact Or.inr (Or.inr (fun e3 => by have := ho.lt k e2; simp at e3; omega))⟩
  refine ⟨hown, by simp [h.len], fun i hi => ?_⟩
  rw [List.length_append, List.length_singleton] at hi
  by_cases hlt : i < rows.length
  · rw [getD_left _ _ _ _ (by rw [h.len]; exact hlt), getD_left _ _ _ _ hlt]
    exact key _ _ (h.row i hlt).1 (h.row i hlt).2
  · obtain rfl : i = rows.length := by omega
    rw [getD_last _ _ _ _ h.len.symm, getD_last _ _ _ _ rfl]
    exact key _ _ hr hap
end Go.Proofs.YtcckmkidmelbnaaGreatDoor
namespace Go.Proofs.YtcckmkidmelbnaaGreatDoor
open Go.RowKit

def eqU (xs ys : List Int) : Bool := decide (xs = ys)
theorem eqU_true {xs ys : List Int} (hl : xs.length = ys.length) (h : ∀ j, j < xs.length → xs.getD j 0 = ys.getD j 0) : eqU xs ys = true := by
  apply decide_eq_true
  apply List.ext_getElem hl
  intro i h1 h2
  have := h i h1
  rw [List.getD_eq_getElem?_getD, List.getD_eq_getElem?_getD, List.getElem?_eq_getElem h1, List.getElem?_eq_getElem h2] at this
  exact this
theorem eqU_false {xs ys : List Int} {k : Nat} (h : xs.getD k 0 ≠ ys.getD k 0) : eqU xs ys = false := decide_eq_false fun e => h (by rw [e])
end Go.Proofs.YtcckmkidmelbnaaGreatDoor
