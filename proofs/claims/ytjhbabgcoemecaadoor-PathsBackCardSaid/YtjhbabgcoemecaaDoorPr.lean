/- Plain law: what Inputs of Vals is. -/
import Derived.Test.YtjhbabgcoemecaaDoorPm
namespace Go.Proofs.YtjhbabgcoemecaaDoor

theorem putV_at (l : List Int) (n : Nat) (v : Int) (j : Nat) : (putV l n v).getD j 0 = if j = n then v else l.getD j 0 := by
  unfold putV
  by_cases e : j = n
  · subst e
    rw [if_pos rfl, getD_set_same _ _ _ _ (by rw [padV_len]; omega)]
  · rw [if_neg e, getD_set_ne _ _ _ _ _ (fun e' => e e'.symm)]
    unfold padV
    by_cases h : j < l.length
    · exact getD_left 0 l _ j h
    · rw [getD_ge 0 l j (by omega), List.getD_eq_getElem?_getD, List.getElem?_append_right (by omega), List.getElem?_replicate]
      split <;> rfl
theorem valK_at {ch c c' k : Nat} {row l : List Int} (hc : c < ch) (hc' : c' < ch) : ∀ K, (valK ch c row l K).getD (2 * (k * ch + c')) 0 = if c' = c ∧ k < K then row.getD k 0 else l.getD (2 * (k * ch + c')) 0
  | 0 => by rw [if_neg (by omega)]; rfl
  | K + 1 => by
    show (putV _ _ _).getD _ 0 = _
    rw [putV_at, valK_at hc hc' K]
    by_cases e : 2 * (k * ch + c') = 2 * (K * ch + c)
    · obtain ⟨e1, e2⟩ := place_inj hc' hc e
      subst e1 e2
      rw [if_pos rfl, if_pos ⟨rfl, by omega⟩]
    · rw [if_neg e]
      by_cases h : c' = c ∧ k < K
      · rw [if_pos h, if_pos ⟨h.1, by omega⟩]
      · rw [if_neg h, if_neg]
        rintro ⟨h1, h2⟩
        have : k = K := by
          have : ¬ k < K := fun h3 => h ⟨h1, h3⟩
          omega
        exact e (by rw [this, h1])
theorem valC_at {ch c k : Nat} {rows : List (List Int)} (hc : c < ch) : ∀ m, m ≤ ch → (valC ch rows m).getD (2 * (k * ch + c)) 0 = if c < m then (rows.getD c []).getD k 0 else 0
  | 0, _ => by rw [if_neg (by omega)]; rfl
  | m + 1, hm => by
    show (valK ch m (rows.getD m []) (valC ch rows m) _).getD _ 0 = _
    rw [valK_at (by omega) hc, valC_at hc m (by omega)]
    by_cases e : c = m
    · subst e
      rw [if_pos (show c < c + 1 by omega)]
      by_cases hk : k < (rows.getD c []).length
      · rw [if_pos ⟨rfl, hk⟩]
      · rw [if_neg (by omega), if_neg (by omega), getD_ge 0 (rows.getD c []) k (by omega)]
    · rw [if_neg (by omega)]
      by_cases h : c < m
      · rw [if_pos h, if_pos (by omega)]
      · rw [if_neg h, if_neg (by omega)]
/-- Inputs of Vals: the inputs, with zeros at their ends -/
theorem back_row {ch c n : Nat} {rows : List (List Int)} (hc : c < ch) (hn : (rows.getD c []).length ≤ n) : inRow ch n (valC ch rows ch) c = rows.getD c [] ++ List.replicate (n - (rows.getD c []).length) 0 := by
  apply List.ext_getElem (by rw [inRow_len, List.length_append, List.length_replicate]; omega)
  intro i h1 h2
  rw [inRow_len] at h1
  have e1 : (inRow ch n (valC ch rows ch) c)[i] = (rows.getD c []).getD i 0 := by
    simp only [inRow, List.getElem_map, List.getElem_range]
    rw [valC_at hc ch (Nat.le_refl _), if_pos hc]
  rw [e1]
  by_cases h : i < (rows.getD c []).length
  · rw [List.getElem_append_left h, List.getD_eq_getElem?_getD, List.getElem?_eq_getElem h]; rfl
  · rw [List.getElem_append_right (by omega), getD_ge _ _ _ (by omega)]
    simp
end Go.Proofs.YtjhbabgcoemecaaDoor
