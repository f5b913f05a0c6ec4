/- The plain law of the reference's New: its matrix is the least order that holds the pairs. No program's walk. -/
import Derived.Test.YtjancemacdffbaaDoorRf2
import Derived.Test.YtjancemacdffbaaDoorPl4
namespace Go.Proofs.YtjancemacdffbaaDoor

/-- the matrix behind the first q pairs -/
def PM (n : Nat) (ps : List (Int × Int)) (q : Nat) (M : Nat → Nat → Bool) : Prop :=
  (∀ p ∈ ps.take q, okP n p = true) ∧ ∀ i j, i < n → j < n → (M i j = true ↔ i = j ∨ ∃ p ∈ ps.take q, i = p.1.toNat ∧ j = p.2.toNat)
theorem PM.start {n : Nat} {ps : List (Int × Int)} {M : Nat → Nat → Bool} (h : ∀ i j, i < n → j < n → M i j = decide (i = j)) : PM n ps 0 M :=
  ⟨fun p hp => by simp at hp, fun i j hi hj => by rw [h i j hi hj]; simp⟩
theorem take_succ_getD (ps : List (Int × Int)) (q : Nat) (h : q < ps.length) : ps.take (q + 1) = ps.take q ++ [ps.getD q (0, 0)] := by
  rw [List.take_succ_eq_append_getElem h, List.getD_eq_getElem?_getD, List.getElem?_eq_getElem h]; rfl
theorem PM.step {n q : Nat} {ps : List (Int × Int)} {M : Nat → Nat → Bool} (h : PM n ps q M) (hq : q < ps.length) {x y : Nat} (hx : x < n) (hy : y < n) (e : ps.getD q (0, 0) = ((x : Int), (y : Int))) :
    PM n ps (q + 1) (updM M x y true) := by
  have ht := take_succ_getD ps q hq
  rw [e] at ht
  refine ⟨fun p hp => ?_, fun i j hi hj => ?_⟩
  · rw [ht] at hp
    rcases List.mem_append.1 hp with hp | hp
    · exact h.1 p hp
    · rw [List.mem_singleton] at hp; subst hp; exact okP_in n x y hx hy
  · rw [ht]
    unfold updM
    by_cases c : i = x ∧ j = y
    · rw [if_pos c]
      obtain ⟨rfl, rfl⟩ := c
      simp only [true_iff]
      exact Or.inr ⟨_, List.mem_append_right _ (List.mem_singleton.2 rfl), by simp, by simp⟩
    · rw [if_neg c, h.2 i j hi hj]
      constructor
      · rintro (h | ⟨p, hp, h1⟩)
        · exact Or.inl h
        · exact Or.inr ⟨p, List.mem_append_left _ hp, h1⟩
      · rintro (h | ⟨p, hp, h1, h2⟩)
        · exact Or.inl h
        · rcases List.mem_append.1 hp with hp | hp
          · exact Or.inr ⟨p, hp, h1, h2⟩
          · rw [List.mem_singleton] at hp; subst hp
            simp only [Int.toNat_natCast] at h1 h2
            exact absurd ⟨h1, h2⟩ c

/-- the matrix behind the closure's first m rounds -/
structure CM (n : Nat) (ps : List (Int × Int)) (m : Nat) (M : Nat → Nat → Bool) : Prop where
  ok : ∀ p ∈ ps, okP n p = true
  sound : ∀ i j, i < n → j < n → M i j = true → RT ps i j
  refl : ∀ i, i < n → M i i = true
  pair : ∀ p ∈ ps, M p.1.toNat p.2.toNat = true
  trans : ∀ k, k < m → k < n → ∀ i j, i < n → j < n → M i k = true → M k j = true → M i j = true

theorem CM.start {n : Nat} {ps : List (Int × Int)} {M : Nat → Nat → Bool} (h : PM n ps ps.length M) : CM n ps 0 M := by
  rw [PM, List.take_length] at h
  refine ⟨h.1, fun i j hi hj hm => ?_, fun i hi => (h.2 i i hi hi).2 (Or.inl rfl), fun p hp => ?_, fun k hk => by omega⟩
  · rcases (h.2 i j hi hj).1 hm with rfl | ⟨p, hp, rfl, rfl⟩
    · exact RT.refl _ _
    · exact RT.pair hp
  · have := (okP_iff n p).1 (h.1 p hp)
    exact (h.2 _ _ (by omega) (by omega)).2 (Or.inr ⟨p, hp, rfl, rfl⟩)

/-- a round of the closure, up to row i and column j -/
def clM (M : Nat → Nat → Bool) (k i j : Nat) : Nat → Nat → Bool := fun a b => if a < i ∨ (a = i ∧ b < j) then M a b || (M a k && M k b) else M a b
theorem clM_ik (M : Nat → Nat → Bool) (k i j a : Nat) : clM M k i j a k = M a k := by
  unfold clM; split
  · cases M a k <;> simp
  · rfl
theorem clM_kj (M : Nat → Nat → Bool) (k i j b : Nat) : clM M k i j k b = M k b := by
  unfold clM; split
  · cases M k b <;> simp
  · rfl
theorem clM_ij (M : Nat → Nat → Bool) (k i j : Nat) : clM M k i j i j = M i j := by
  unfold clM; rw [if_neg (by omega)]
theorem clM_step (M : Nat → Nat → Bool) (k i j : Nat) : updM (clM M k i j) i j (M i j || (M i k && M k j)) = clM M k i (j + 1) := by
  funext a b
  unfold updM clM
  by_cases c : a = i ∧ b = j
  · obtain ⟨rfl, rfl⟩ := c
    rw [if_pos ⟨rfl, rfl⟩, if_pos (by omega)]
  · rw [if_neg c]
    by_cases d : a < i ∨ (a = i ∧ b < j)
    · rw [if_pos d, if_pos (by omega)]
    · rw [if_neg d, if_neg (by omega)]
theorem clM_row (M : Nat → Nat → Bool) (k i n a b : Nat) (hb : b < n) : clM M k i n a b = clM M k (i + 1) 0 a b := by
  unfold clM
  by_cases d : a < i ∨ (a = i ∧ b < n)
  · rw [if_pos d, if_pos (by omega)]
  · rw [if_neg d, if_neg (by omega)]
theorem clM_zero (M : Nat → Nat → Bool) (k a b : Nat) : clM M k 0 0 a b = M a b := by
  unfold clM; rw [if_neg (by omega)]
theorem CM.step {n m : Nat} {ps : List (Int × Int)} {M : Nat → Nat → Bool} (h : CM n ps m M) (hm : m < n) : CM n ps (m + 1) (clM M m n 0) := by
  have hv : ∀ a b, a < n → clM M m n 0 a b = (M a b || (M a m && M m b)) := fun a b ha => by unfold clM; rw [if_pos (Or.inl ha)]
  have hT : ∀ a b, a < n → (clM M m n 0 a b = true ↔ M a b = true ∨ (M a m = true ∧ M m b = true)) := fun a b ha => by rw [hv a b ha]; simp
  refine ⟨h.ok, fun i j hi hj hm' => ?_, fun i hi => (hT i i hi).2 (Or.inl (h.refl i hi)), fun p hp => ?_, fun k hk hkn i j hi hj h1 h2 => ?_⟩
  · rcases (hT i j hi).1 hm' with h1 | ⟨h1, h2⟩
    · exact h.sound i j hi hj h1
    · exact (h.sound i m hi hm h1).trans (h.sound m j hm hj h2)
  · have := (okP_iff n p).1 (h.ok p hp)
    exact (hT _ _ (by omega)).2 (Or.inl (h.pair p hp))
  · rw [hT _ _ hi] at h1 ⊢
    rw [hT _ _ hkn] at h2
    by_cases e : k = m
    · subst e
      have a : M i k = true := by rcases h1 with h | h; exact h; exact h.1
      have b : M k j = true := by rcases h2 with h | h; exact h; exact h.2
      exact Or.inr ⟨a, b⟩
    · have hkm : k < m := by omega
      rcases h1 with h1 | ⟨h1, h1'⟩
      · rcases h2 with h2 | ⟨h2, h2'⟩
        · exact Or.inl (h.trans k hkm hkn i j hi hj h1 h2)
        · exact Or.inr ⟨h.trans k hkm hkn i m hi hm h1 h2, h2'⟩
      · rcases h2 with h2 | ⟨h2, h2'⟩
        · exact Or.inr ⟨h1, h.trans k hkm hkn m j hm hj h1' h2⟩
        · exact Or.inr ⟨h1, h2'⟩
/-- the matrix is the least order -/
theorem CM.iff {n : Nat} {ps : List (Int × Int)} {M : Nat → Nat → Bool} (h : CM n ps n M) {i j : Nat} (hi : i < n) (hj : j < n) : M i j = true ↔ RT ps i j := by
  refine ⟨h.sound i j hi hj, fun hr => ?_⟩
  have key := hr (fun x y => (x < n → y < n ∧ M x y = true)) (fun x hx => ⟨hx, h.refl x hx⟩)
    (fun x y z h1 h2 hx => by
      obtain ⟨hy, h1⟩ := h1 hx
      obtain ⟨hz, h2⟩ := h2 hy
      exact ⟨hz, h.trans y hy hy x z hx hz h1 h2⟩)
    (fun p hp _ => by
      have := (okP_iff n p).1 (h.ok p hp)
      exact ⟨by omega, h.pair p hp⟩)
  exact (key hi).2

theorem firstFrom_cases (p : Nat → Bool) : ∀ f c, (firstFrom p f c = -1 ∧ ∀ j, c ≤ j → j < c + f → p j = false) ∨ ∃ k : Nat, c ≤ k ∧ k < c + f ∧ firstFrom p f c = k ∧ p k = true
  | 0, c => Or.inl ⟨rfl, fun j h1 h2 => by omega⟩
  | f + 1, c => by
    rw [firstFrom]
    cases hp : p c with
    | true => exact Or.inr ⟨c, by omega, by omega, by simp, hp⟩
    | false =>
      simp only [Bool.false_eq_true, if_false]
      rcases firstFrom_cases p f (c + 1) with ⟨h1, h2⟩ | ⟨k, h1, h2, h3, h4⟩
      · refine Or.inl ⟨h1, fun j a b => ?_⟩
        by_cases e : j = c
        · subst e; exact hp
        · exact h2 j (by omega) (by omega)
      · exact Or.inr ⟨k, by omega, by omega, h3, h4⟩

/-- the bound of two levels in a relation -/
def IsJ (R : Nat → Nat → Prop) (n i j k : Nat) : Prop := k < n ∧ R i k ∧ R j k ∧ ∀ m, m < n → R i m → R j m → R k m
theorem jgood_iff {n : Nat} {R : Nat → Nat → Prop} {M : Nat → Nat → Bool} (hM : ∀ i j, i < n → j < n → (M i j = true ↔ R i j)) {a b c : Nat} (ha : a < n) (hb : b < n) (hc : c < n) :
    jgood n M a b c = true ↔ IsJ R n a b c := by
  unfold jgood jbase IsJ
  rw [Bool.and_eq_true, Bool.and_eq_true, List.all_eq_true, hM a c ha hc, hM b c hb hc]
  constructor
  · rintro ⟨⟨h1, h2⟩, h3⟩
    refine ⟨hc, h1, h2, fun m hm h4 h5 => ?_⟩
    have := h3 m (List.mem_range.2 hm)
    unfold jok at this
    rw [(hM a m ha hm).2 h4, (hM b m hb hm).2 h5] at this
    simp at this
    exact (hM c m hc hm).1 this
  · rintro ⟨_, h1, h2, h3⟩
    refine ⟨⟨h1, h2⟩, fun m hm => ?_⟩
    have hm := List.mem_range.1 hm
    unfold jok
    cases e1 : M a m with
    | false => simp
    | true =>
      cases e2 : M b m with
      | false => simp
      | true => simp [(hM c m hc hm).2 (h3 m hm ((hM a m ha hm).1 e1) ((hM b m hb hm).1 e2))]
theorem rjoin_cases {n : Nat} {R : Nat → Nat → Prop} {M : Nat → Nat → Bool} (hM : ∀ i j, i < n → j < n → (M i j = true ↔ R i j)) {a b : Nat} (ha : a < n) (hb : b < n) :
    (rjoin n M a b = -1 ∧ ∀ k, ¬ IsJ R n a b k) ∨ ∃ k : Nat, rjoin n M a b = k ∧ IsJ R n a b k := by
  rcases firstFrom_cases (jgood n M a b) n 0 with ⟨h1, h2⟩ | ⟨k, _, h2, h3, h4⟩
  · refine Or.inl ⟨h1, fun k hk => ?_⟩
    have := h2 k (by omega) (by have := hk.1; omega)
    rw [(jgood_iff hM ha hb hk.1).2 hk] at this
    cases this
  · exact Or.inr ⟨k, h3, (jgood_iff hM ha hb (by omega)).1 h4⟩

theorem rmeet_cases {n : Nat} {ps : List (Int × Int)} {M : Nat → Nat → Bool} (hM : ∀ i j, i < n → j < n → (M i j = true ↔ RT ps i j)) {a b : Nat} (ha : a < n) (hb : b < n) :
    (rjoin n (tr M) a b = -1 ∧ ∀ k, ¬ IsMeet ps n a b k) ∨ ∃ k : Nat, rjoin n (tr M) a b = k ∧ IsMeet ps n a b k :=
  rjoin_cases (R := fun x y => RT ps y x) (fun i j hi hj => hM j i hj hi) ha hb
theorem rjoin_cases' {n : Nat} {ps : List (Int × Int)} {M : Nat → Nat → Bool} (hM : ∀ i j, i < n → j < n → (M i j = true ↔ RT ps i j)) {a b : Nat} (ha : a < n) (hb : b < n) :
    (rjoin n M a b = -1 ∧ ∀ k, ¬ IsJoin ps n a b k) ∨ ∃ k : Nat, rjoin n M a b = k ∧ IsJoin ps n a b k :=
  rjoin_cases hM ha hb

end Go.Proofs.YtjancemacdffbaaDoor
