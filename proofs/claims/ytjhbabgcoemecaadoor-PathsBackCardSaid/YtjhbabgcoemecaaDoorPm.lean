/- Plain law: one number more or less in the inputs changes one value of Vals. -/
import Derived.Test.YtjhbabgcoemecaaDoorPh
namespace Go.Proofs.YtjhbabgcoemecaaDoor

theorem place_inj {ch c c' k k' : Nat} (hc : c < ch) (hc' : c' < ch) (h : 2 * (k * ch + c) = 2 * (k' * ch + c')) : k = k' ∧ c = c' := by
  have h1 : k * ch + c = k' * ch + c' := by omega
  have e1 : (k * ch + c) / ch = k := by
    rw [Nat.mul_comm, Nat.mul_add_div (by omega), Nat.div_eq_of_lt hc, Nat.add_zero]
  have e2 : (k' * ch + c') / ch = k' := by
    rw [Nat.mul_comm, Nat.mul_add_div (by omega), Nat.div_eq_of_lt hc', Nat.add_zero]
  have e3 : k = k' := by rw [← e1, h1, e2]
  subst e3
  exact ⟨rfl, by omega⟩
theorem putV_set_ne {l : List Int} {p n : Nat} {t v : Int} (hp : p < l.length) (hne : p ≠ n) : putV (l.set p t) n v = (putV l n v).set p t := by
  unfold putV padV
  rw [List.length_set, ← List.set_append_left _ _ hp, List.set_comm _ _ hne]
theorem putV_set_same (l : List Int) (n : Nat) (t v : Int) : putV l n t = (putV l n v).set n t := by
  unfold putV
  rw [List.set_set]
theorem valK_mono (ch c : Nat) (row l : List Int) : ∀ K, l.length ≤ (valK ch c row l K).length
  | 0 => Nat.le_refl _
  | K + 1 => by
    have := valK_mono ch c row l K
    show _ ≤ (putV _ _ _).length
    rw [putV_len]; omega
theorem valK_set_ne {ch c : Nat} {row l : List Int} {p : Nat} {t : Int} (hp : p < l.length) : ∀ K, (∀ k, k < K → p ≠ 2 * (k * ch + c)) → valK ch c row (l.set p t) K = (valK ch c row l K).set p t
  | 0, _ => rfl
  | K + 1, h => by
    show putV _ _ _ = (putV _ _ _).set p t
    rw [valK_set_ne hp K (fun k hk => h k (by omega))]
    exact putV_set_ne (Nat.lt_of_lt_of_le hp (valK_mono ..)) (h K (by omega))
theorem valK_row {ch c : Nat} {row l : List Int} {i : Nat} {t : Int} (hc : c < ch) (hi : i < row.length) : ∀ K, valK ch c (row.set i t) l K = if i < K then (valK ch c row l K).set (2 * (i * ch + c)) t else valK ch c row l K
  | 0 => by rw [if_neg (by omega)]; rfl
  | K + 1 => by
    show putV (valK ch c (row.set i t) l K) _ ((row.set i t).getD K 0) = _
    rw [valK_row hc hi K]
    by_cases h1 : i < K
    · rw [if_pos h1, if_pos (by omega), getD_set_ne _ _ _ _ _ (by omega)]
      refine putV_set_ne ?_ (fun e => by have := (place_inj hc hc e).1; omega)
      -- the place is in the list
      have : ∀ K, i < K → 2 * (i * ch + c) < (valK ch c row l K).length := fun K hK => by
        induction K with
        | zero => omega
        | succ K ih =>
          show _ < (putV _ _ _).length
          rw [putV_len]
          by_cases e : i = K
          · subst e; omega
          · have := ih (by omega); omega
      exact this K h1
    · rw [if_neg h1]
      by_cases h2 : i = K
      · subst h2
        rw [if_pos (by omega), getD_set_same _ _ _ _ hi]
        exact putV_set_same _ _ _ _
      · rw [if_neg (by omega), getD_set_ne _ _ _ _ _ h2]
        rfl
theorem valK_has (ch c : Nat) (row l : List Int) {i : Nat} : ∀ K, i < K → 2 * (i * ch + c) < (valK ch c row l K).length
  | 0, h => by omega
  | K + 1, h => by
    show _ < (putV _ _ _).length
    rw [putV_len]
    by_cases e : i = K
    · subst e; omega
    · have := valK_has ch c row l K (i := i) (by omega); omega
theorem valC_before {ch : Nat} {rows : List (List Int)} {c : Nat} {r : List Int} : ∀ m, m ≤ c → valC ch (rows.set c r) m = valC ch rows m
  | 0, _ => rfl
  | m + 1, h => by
    show valK ch m ((rows.set c r).getD m []) _ _ = valK ch m (rows.getD m []) _ _
    rw [valC_before m (by omega), getD_set_ne _ _ _ _ _ (by omega)]
/-- changing one input changes one value -/
theorem valC_set {ch : Nat} {rows : List (List Int)} {c i : Nat} {t : Int} (hc : c < rows.length) (hi : i < (rows.getD c []).length) : ∀ m, c < m → m ≤ ch →
    2 * (i * ch + c) < (valC ch rows m).length ∧ valC ch (rows.set c ((rows.getD c []).set i t)) m = (valC ch rows m).set (2 * (i * ch + c)) t
  | 0, h, _ => by omega
  | m + 1, h, hm => by
    by_cases e : c = m
    · subst e
      refine ⟨valK_has _ _ _ _ _ hi, ?_⟩
      show valK ch c ((rows.set c _).getD c []) (valC ch (rows.set c _) c) _ = _
      rw [valC_before c (Nat.le_refl _), getD_set_same _ _ _ _ hc, List.length_set, valK_row (by omega) hi, if_pos hi]
      rfl
    · obtain ⟨h1, h2⟩ := valC_set (ch := ch) hc hi (t := t) m (by omega) (by omega)
      have hmono := valK_mono ch m (rows.getD m []) (valC ch rows m) (rows.getD m []).length
      refine ⟨Nat.lt_of_lt_of_le h1 hmono, ?_⟩
      show valK ch m ((rows.set c _).getD m []) (valC ch (rows.set c _) m) _ = _
      rw [h2, getD_set_ne _ _ _ _ _ e]
      have hcc : c < ch := by omega
      have hmm : m < ch := by omega
      exact valK_set_ne h1 _ (fun k _ e2 => e (place_inj hcc hmm e2).2)
end Go.Proofs.YtjhbabgcoemecaaDoor
