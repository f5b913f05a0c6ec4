/- Grids of lists that the call owns; walk: Inputs. -/
import Derived.Test.YtjhbabgcoemecaaDoorPg
import Derived.OwnWalk
namespace Go.Proofs.YtjhbabgcoemecaaDoor
open Go.RowKit

section
variable {α : Type} {L : Lay α}
theorem Lay.flat_set (h1 : L.sz = 1) {x : α} {u : Value} (hu : L.f x = [u]) : ∀ (xs : List α) (j : Nat), (L.flat xs).set j u = L.flat (xs.set j x)
  | [], j => rfl
  | y :: ys, j => by
    obtain ⟨y', hy⟩ : ∃ y', L.f y = [y'] := by
      have := L.len y
      rw [h1] at this
      match hf : L.f y, this with
      | [a], _ => exact ⟨a, rfl⟩
    have e : L.flat (y :: ys) = y' :: L.flat ys := by simp [Lay.flat, hy]
    cases j with
    | zero =>
      rw [e]
      show u :: L.flat ys = L.flat (x :: ys)
      simp [Lay.flat, hu]
    | succ j =>
      rw [e]
      show y' :: (L.flat ys).set j u = L.flat (y :: ys.set j x)
      rw [Lay.flat_set h1 hu ys j]
      simp [Lay.flat, hy]
/-- storing an element of one cell -/
theorem Lay.Own.put1 (h1 : L.sz = 1) {e : TypeId} {w : World} {base g n cap : Nat} {xs : List α} (h : L.Own e w base (.slice (some ⟨g, 0, none⟩) n cap) xs) (hn : xs.length = n) {x : α} {u : Value} (hu : L.f x = [u]) (j : Nat) :
    L.Own e (w.setCell ⟨g, j, none⟩ u) base (.slice (some ⟨g, 0, none⟩) n cap) (xs.set j x) ∧ w.grownBy (w.setCell ⟨g, j, none⟩ u) (some g) ∧ w.frozen? ⟨g, j, none⟩ = false := by
  subst hn
  have h' : w.ownsRow base e 1 (.slice (some ⟨g, 0, none⟩) xs.length cap) xs.length (L.flat xs) := by rw [← h1]; exact h
  obtain ⟨s1, s2⟩ := World.ownsRow.stored h' j u
  rw [Lay.flat_set h1 hu] at s1
  refine ⟨?_, s2, World.ownsRow.frozenAt h' j⟩
  unfold Lay.Own
  rw [List.length_set, h1]
  exact s1
end

/-- rows that the call owns, apart from each other -/
structure Grid (w : World) (B g : Nat) (hs : List Hdr) (rows : List (List Int)) : Prop where
  own : Lay.sl.Own 48 w B (.slice (some ⟨g, 0, none⟩) rows.length rows.length) hs
  len : hs.length = rows.length
  row : ∀ i, i < rows.length → (Lay.int .u64).Own 33 w B (hv (hs.getD i (none, 0, 0))) (rows.getD i []) ∧ (hv (hs.getD i (none, 0, 0))).ownBlock ≠ some g
  apart : ∀ i j, i < rows.length → j < rows.length → i ≠ j → Apart (hv (hs.getD i (none, 0, 0))) (hv (hs.getD j (none, 0, 0)))
theorem Grid.below {w w' : World} {B g : Nat} {hs : List Hdr} {rows : List (List Int)} (h : Grid w B g hs rows) (hb : Below w.heap.size w w') : Grid w' B g hs rows :=
  ⟨h.own.grown hb, h.len, fun i hi => ⟨(h.row i hi).1.grown hb, (h.row i hi).2⟩, h.apart⟩
theorem Grid.base {w : World} {B g : Nat} {hs : List Hdr} {rows : List (List Int)} (h : Grid w B g hs rows) : B ≤ g ∧ g < w.heap.size := h.own.lt g rfl
theorem Grid.cell {w : World} {B g : Nat} {hs : List Hdr} {rows : List (List Int)} (h : Grid w B g hs rows) {c : Nat} (hc : c < rows.length) : w.cell? ⟨g, c, none⟩ = some (hv (hs.getD c (none, 0, 0))) ∧ w.frozen? ⟨g, c, none⟩ = false := by
  obtain ⟨a, cap, he, hat, _⟩ := h.own.at_ (d := (none, 0, 0))
  obtain ⟨b, o, e, hb, hx⟩ := hat.sl (i := c) (by rw [h.len]; exact hc)
  injection he with e1 e2 e3
  subst e1
  injection e with e
  injection e with e4 e5
  subst e4 e5
  rw [Nat.zero_add] at hx
  refine ⟨hx, ?_⟩
  have h' := h.own.put1 rfl h.len (x := (none, 0, 0)) (u := .slice none 0 0) rfl c
  exact h'.2.2
theorem getD_set_same {α : Type} (d x : α) (xs : List α) (i : Nat) (h : i < xs.length) : (xs.set i x).getD i d = x := by
  rw [List.getD_eq_getElem?_getD, List.getElem?_set_self h]; rfl
theorem getD_set_ne {α : Type} (d x : α) (xs : List α) (i j : Nat) (h : i ≠ j) : (xs.set i x).getD j d = xs.getD j d := by
  rw [List.getD_eq_getElem?_getD, List.getElem?_set_ne h, List.getD_eq_getElem?_getD]
/-- a row has grown, and its header is stored -/
theorem Grid.put {w w' : World} {B g c : Nat} {hs : List Hdr} {rows : List (List Int)} (h : Grid w B g hs rows) (hc : c < rows.length) {hd : Hdr} {r : List Int} (ho : (Lay.int .u64).Own 33 w' B (hv hd) r)
    (hg : w.grownBy w' (hv (hs.getD c (none, 0, 0))).ownBlock) (hat : (hv hd).ownBlock = (hv (hs.getD c (none, 0, 0))).ownBlock ∨ (hv hd).ownBlock = some w.heap.size) :
    Grid (w'.setCell ⟨g, c, none⟩ (hv hd)) B g (hs.set c hd) (rows.set c r) ∧ w'.grownBy (w'.setCell ⟨g, c, none⟩ (hv hd)) (some g) ∧ w'.cell? ⟨g, c, none⟩ = some (hv (hs.getD c (none, 0, 0))) ∧ w'.frozen? ⟨g, c, none⟩ = false := by
  have hgs := h.base
  obtain ⟨hr0, hr1⟩ := h.row c hc
  have hvown : (Value.slice (some ⟨g, 0, none⟩) rows.length rows.length).ownBlock = some g := rfl
  have own' : Lay.sl.Own 48 w' B (.slice (some ⟨g, 0, none⟩) rows.length rows.length) hs := World.ownsRow.kept h.own hg (.inr (by rw [hvown]; exact fun e => hr1 e.symm))
  obtain ⟨p1, p2, p3⟩ := own'.put1 rfl h.len (x := hd) (u := hv hd) rfl c
  have hnew : (hv hd).ownBlock ≠ some g := by
    rcases hat with e | e
    · rw [e]; exact hr1
    · rw [e]; intro e2; injection e2 with e2; omega
  have cell' : w'.cell? ⟨g, c, none⟩ = some (hv (hs.getD c (none, 0, 0))) := by
    obtain ⟨a, cap, he, hat', _⟩ := own'.at_ (d := (none, 0, 0))
    obtain ⟨b, o, e, hb, hx⟩ := hat'.sl (i := c) (by rw [h.len]; exact hc)
    injection he with e1 e2 e3
    subst e1
    injection e with e
    injection e with e4 e5
    subst e4 e5
    rw [Nat.zero_add] at hx
    exact hx
  have keep : ∀ (v : Value) (ys : List Int), (Lay.int .u64).Own 33 w' B v ys → v.ownBlock ≠ some g → (Lay.int .u64).Own 33 (w'.setCell ⟨g, c, none⟩ (hv hd)) B v ys := fun v ys hv' hne => World.ownsRow.kept hv' p2 (.inr hne)
  refine ⟨⟨by rw [List.length_set]; exact p1, by simp [h.len], fun i hi => ?_, fun i j hi hj hne => ?_⟩, p2, cell', p3⟩
  · rw [List.length_set] at hi
    by_cases e : i = c
    · subst e
      rw [getD_set_same _ _ _ _ (by rw [h.len]; exact hc), getD_set_same _ _ _ _ hc]
      exact ⟨keep _ _ ho hnew, hnew⟩
    · rw [getD_set_ne _ _ _ _ _ (fun e' => e e'.symm), getD_set_ne _ _ _ _ _ (fun e' => e e'.symm)]
      obtain ⟨k1, k2⟩ := h.row i hi
      exact ⟨keep _ _ (World.ownsRow.kept k1 hg (h.apart i c hi hc e).ne) k2, k2⟩
  · rw [List.length_set] at hi hj
    have key : ∀ q, q < rows.length → q ≠ c → Apart (hv hd) (hv (hs.getD q (none, 0, 0))) := fun q hq hqc => by
      unfold Apart
      rcases hat with e | e
      · rw [e]; exact h.apart c q hc hq (fun e' => hqc e'.symm)
      · rw [e]
        cases e2 : (hv (hs.getD q (none, 0, 0))).ownBlock with
        | none => exact .inr (.inl rfl)
        | some k => exact .inr (.inr (fun e3 => by have := (h.row q hq).1.lt k e2; injection e3 with e3; omega))
    by_cases ei : i = c
    · subst ei
      rw [getD_set_same _ _ _ _ (by rw [h.len]; exact hc), getD_set_ne _ _ _ _ _ hne]
      exact key j hj (fun e => hne e.symm)
    · by_cases ej : j = c
      · subst ej
        rw [getD_set_same _ _ _ _ (by rw [h.len]; exact hc), getD_set_ne _ _ _ _ _ (fun e => hne e.symm)]
        exact (key i hi hne).symm
      · rw [getD_set_ne _ _ _ _ _ (fun e => ei e.symm), getD_set_ne _ _ _ _ _ (fun e => ej e.symm)]
        exact h.apart i j hi hj hne
theorem Grid.rowsOwn {w : World} {B g : Nat} {hs : List Hdr} {rows : List (List Int)} (h : Grid w B g hs rows) : RowsOwn w B (.slice (some ⟨g, 0, none⟩) rows.length rows.length) hs rows :=
  ⟨h.own, h.len, fun i hi => ⟨(h.row i hi).1, by
    unfold Apart
    cases e : (hv (hs.getD i (none, 0, 0))).ownBlock with
    | none => exact .inl rfl
    | some k => exact .inr (.inr (by rw [← e]; exact (h.row i hi).2))⟩⟩

/-- how far Inputs has come -/
def InP (ch n : Nat) (vals : List Int) (c k : Nat) (rows : List (List Int)) : Prop := rows.length = ch ∧ ∀ i, i < ch → rows.getD i [] = if i < c then inRow ch n vals i else if i = c then inRow ch k vals i else []
theorem InP.zero (ch n : Nat) (vals : List Int) : InP ch n vals 0 0 (List.replicate ch []) := by
  refine ⟨by simp, fun i hi => ?_⟩
  rw [if_neg (by omega)]
  have e : (List.replicate ch ([] : List Int)).getD i [] = [] := by rw [List.getD_eq_getElem?_getD, List.getElem?_replicate, if_pos hi]; rfl
  rw [e]
  split <;> rfl
theorem InP.step {ch n : Nat} {vals : List Int} {c k : Nat} {rows : List (List Int)} (h : InP ch n vals c k rows) (hc : c < ch) : rows.getD c [] = inRow ch k vals c ∧ InP ch n vals c (k + 1) (rows.set c (rows.getD c [] ++ [vals.getD (2 * (k * ch + c)) 0])) := by
  have h0 := h.2 c hc
  rw [if_neg (by omega), if_pos rfl] at h0
  refine ⟨h0, by rw [List.length_set]; exact h.1, fun i hi => ?_⟩
  by_cases e : i = c
  · subst e
    rw [getD_set_same _ _ _ _ (by rw [h.1]; exact hc), if_neg (by omega), if_pos rfl, h0, inRow_succ]
  · rw [getD_set_ne _ _ _ _ _ (fun e' => e e'.symm), h.2 i hi, if_neg e, if_neg e]
theorem InP.next {ch n : Nat} {vals : List Int} {c : Nat} {rows : List (List Int)} (h : InP ch n vals c n rows) : InP ch n vals (c + 1) 0 rows := by
  refine ⟨h.1, fun i hi => ?_⟩
  rw [h.2 i hi]
  by_cases h1 : i < c
  · rw [if_pos h1, if_pos (by omega)]
  · rw [if_neg h1]
    by_cases h2 : i = c
    · rw [if_pos h2, if_pos (by omega)]
    · rw [if_neg h2, if_neg (by omega)]
      split <;> rfl
theorem InP.done {ch n : Nat} {vals : List Int} {k : Nat} {rows : List (List Int)} (h : InP ch n vals ch k rows) : rows = inRows ch n vals ch := by
  apply List.ext_getElem (by rw [h.1, inRows_len])
  intro i h1 h2
  have hi : i < ch := by rw [← h.1]; exact h1
  have := h.2 i hi
  rw [if_pos hi, List.getD_eq_getElem?_getD, List.getElem?_eq_getElem h1] at this
  simp only [Option.getD_some] at this
  rw [this]
  simp [inRows]
theorem Grid.made {w : World} {B g n : Nat} (h : w.ownsRow B 48 1 (.slice (some ⟨g, 0, none⟩) n n) n (List.replicate n (.slice none 0 0))) : Grid w B g (List.replicate n (none, 0, 0)) (List.replicate n []) := by
  have hf : ∀ m, Lay.sl.flat (List.replicate m (none, 0, 0)) = List.replicate m (.slice none 0 0) := fun m => by
    induction m with
    | zero => rfl
    | succ m ih => simp only [List.replicate_succ, Lay.flat, List.flatMap_cons] at ih ⊢; rw [ih]; rfl
  have hg0 : ∀ i, (List.replicate n ((none, 0, 0) : Hdr)).getD i (none, 0, 0) = (none, 0, 0) := fun i => by
    rw [List.getD_eq_getElem?_getD, List.getElem?_replicate]; split <;> rfl
  refine ⟨?_, by simp, fun i hi => ?_, fun i j _ _ _ => ?_⟩
  · unfold Lay.Own
    rw [hf]
    simpa [Lay.sl] using h
  · rw [hg0]
    have e : (List.replicate n ([] : List Int)).getD i [] = [] := by rw [List.getD_eq_getElem?_getD, List.getElem?_replicate]; split <;> rfl
    rw [e]
    exact ⟨Lay.Own.nil _ _, by intro e; cases e⟩
  · rw [hg0]
    exact .inl rfl
end Go.Proofs.YtjhbabgcoemecaaDoor
