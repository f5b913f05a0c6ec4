/- The plain law of lattice.New: what the tables hold. No program. -/
import Derived.Test.YtjancemacdffbaaDoorPl2
namespace Go.Proofs.YtjancemacdffbaaDoor

/-- level j stands in the set of i -/
def T (s : Nat → Nat) (i j : Nat) : Prop := (s i).testBit j = true

theorem T_upd (s : Nat → Nat) (x v i j : Nat) : T (upd s x v) i j ↔ (if i = x then v.testBit j = true else T s i j) := by
  unfold T upd; split <;> simp_all

theorem T_up0 (n i j : Nat) : T (up0 n) i j ↔ i < n ∧ i = j := by
  unfold T up0
  split
  · rw [Nat.testBit_two_pow]; simp; omega
  · simp; omega

theorem T_addP (s : Nat → Nat) (p : Int × Int) (i j : Nat) : T (addP s p) i j ↔ T s i j ∨ (i = p.1.toNat ∧ j = p.2.toNat) := by
  unfold addP
  rw [T_upd]
  by_cases h : i = p.1.toNat
  · subst h
    rw [if_pos rfl, Nat.testBit_or, Nat.testBit_two_pow]
    unfold T
    rw [Bool.or_eq_true, decide_eq_true_eq]
    constructor
    · rintro (h | h)
      · exact Or.inl h
      · exact Or.inr ⟨rfl, h.symm⟩
    · rintro (h | h)
      · exact Or.inl h
      · exact Or.inr h.2.symm
  · rw [if_neg h]; simp [h]

theorem T_addPairs (n : Nat) : ∀ (ps : List (Int × Int)) (s u : Nat → Nat), addPairs n ps s = some u → ∀ i j, T u i j ↔ T s i j ∨ ∃ p ∈ ps, i = p.1.toNat ∧ j = p.2.toNat
  | [], s, u, h, i, j => by simp only [addPairs, Option.some.injEq] at h; subst h; simp
  | p :: ps, s, u, h, i, j => by
    unfold addPairs at h
    split at h
    · rw [T_addPairs n ps _ u h, T_addP]
      simp only [List.mem_cons, exists_eq_or_imp]
      constructor
      · rintro ((h | h) | h)
        · exact Or.inl h
        · exact Or.inr (Or.inl h)
        · exact Or.inr (Or.inr h)
      · rintro (h | h | h)
        · exact Or.inl (Or.inl h)
        · exact Or.inl (Or.inr h)
        · exact Or.inr h
    · cases h
theorem addPairs_isSome (n : Nat) : ∀ (ps : List (Int × Int)) (s : Nat → Nat), (∀ p ∈ ps, okP n p = true) → ∃ u, addPairs n ps s = some u
  | [], s, _ => ⟨s, rfl⟩
  | p :: ps, s, h => by
    unfold addPairs
    rw [if_pos (h p (by simp))]
    exact addPairs_isSome n ps _ fun q hq => h q (by simp [hq])
theorem addPairs_ok (n : Nat) : ∀ (ps : List (Int × Int)) (s u : Nat → Nat), addPairs n ps s = some u → ∀ p ∈ ps, okP n p = true
  | [], s, u, _, p, hp => by simp at hp
  | q :: ps, s, u, h, p, hp => by
    unfold addPairs at h
    split at h
    · rcases List.mem_cons.1 hp with rfl | hp
      · assumption
      · exact addPairs_ok n ps _ u h p hp
    · cases h
theorem addPairs_none (n : Nat) (ps : List (Int × Int)) (s : Nat → Nat) (p : Int × Int) (hp : p ∈ ps) (h : okP n p = false) : addPairs n ps s = none := by
  cases e : addPairs n ps s with
  | none => rfl
  | some u => have := addPairs_ok n ps s u e p hp; rw [h] at this; cases this

/-- one row of the closure's step -/
theorem T_stepC (k : Nat) (s : Nat → Nat) (x i j : Nat) : T (stepC k s x) i j ↔ T s i j ∨ (i = x ∧ T s x k ∧ T s k j) := by
  unfold stepC
  by_cases h : (s x).testBit k = true
  · rw [if_pos h, T_upd]
    by_cases e : i = x
    · subst e
      rw [if_pos rfl, Nat.testBit_or]
      unfold T
      simp [h]
    · rw [if_neg e]; simp [e]
  · rw [if_neg h]
    constructor
    · exact Or.inl
    · rintro (h' | ⟨_, h', _⟩)
      · exact h'
      · exact absurd h' h

theorem T_closeI (k : Nat) (s : Nat → Nat) : ∀ m i j, T ((List.range m).foldl (stepC k) s) i j ↔ T s i j ∨ (i < m ∧ T s i k ∧ T s k j)
  | 0, i, j => by simp
  | m + 1, i, j => by
    rw [range_foldl_succ, T_stepC, T_closeI k s m, T_closeI k s m, T_closeI k s m]
    constructor
    · rintro ((h | h) | ⟨rfl, h1, h2⟩)
      · exact Or.inl h
      · exact Or.inr ⟨by omega, h.2⟩
      · have h1' : T s i k := by rcases h1 with h1 | h1; exact h1; exact h1.2.1
        have h2' : T s k j := by rcases h2 with h2 | h2; exact h2; exact h2.2.2
        exact Or.inr ⟨by omega, h1', h2'⟩
    · rintro (h | ⟨h, h1, h2⟩)
      · exact Or.inl (Or.inl h)
      · by_cases e : i = m
        · subst e; exact Or.inr ⟨rfl, Or.inl h1, Or.inl h2⟩
        · exact Or.inl (Or.inr ⟨by omega, h1, h2⟩)

theorem T_closeAll_succ (n : Nat) (s : Nat → Nat) (m i j : Nat) : T (closeAll n s (m + 1)) i j ↔ T (closeAll n s m) i j ∨ (i < n ∧ T (closeAll n s m) i m ∧ T (closeAll n s m) m j) := by
  unfold closeAll
  rw [range_foldl_succ]
  exact T_closeI m _ n i j

/-- the least order that holds the pairs -/
def RT (ps : List (Int × Int)) (i j : Nat) : Prop :=
  ∀ S : Nat → Nat → Prop, (∀ x, S x x) → (∀ x y z, S x y → S y z → S x z) → (∀ p ∈ ps, S p.1.toNat p.2.toNat) → S i j
theorem RT.refl (ps : List (Int × Int)) (i : Nat) : RT ps i i := fun _ h _ _ => h i
theorem RT.trans {ps : List (Int × Int)} {i j k : Nat} (h : RT ps i j) (h' : RT ps j k) : RT ps i k := fun S h1 h2 h3 => h2 i j k (h S h1 h2 h3) (h' S h1 h2 h3)
theorem RT.pair {ps : List (Int × Int)} {p : Int × Int} (h : p ∈ ps) : RT ps p.1.toNat p.2.toNat := fun _ _ _ h3 => h3 p h
theorem RT.mono {ps qs : List (Int × Int)} (h : ∀ p ∈ ps, RT qs p.1.toNat p.2.toNat) {i j : Nat} (hij : RT ps i j) : RT qs i j :=
  hij (RT qs) (RT.refl qs) (fun _ _ _ => RT.trans) h

theorem closeAll_sound (n : Nat) (ps : List (Int × Int)) (u : Nat → Nat) (hu : ∀ i j, T u i j → i < n ∧ j < n ∧ RT ps i j) : ∀ m i j, T (closeAll n u m) i j → i < n ∧ j < n ∧ RT ps i j
  | 0, i, j, h => hu i j h
  | m + 1, i, j, h => by
    rw [T_closeAll_succ] at h
    rcases h with h | ⟨h0, h1, h2⟩
    · exact closeAll_sound n ps u hu m i j h
    · have a := closeAll_sound n ps u hu m i m h1
      have b := closeAll_sound n ps u hu m m j h2
      exact ⟨h0, b.2.1, a.2.2.trans b.2.2⟩
theorem closeAll_mono (n : Nat) (u : Nat → Nat) : ∀ m i j, T u i j → T (closeAll n u m) i j
  | 0, _, _, h => h
  | m + 1, i, j, h => by rw [T_closeAll_succ]; exact Or.inl (closeAll_mono n u m i j h)
theorem closeAll_trans (n : Nat) (u : Nat → Nat) : ∀ m i k j, m ≤ n → k < m → i < n → T (closeAll n u m) i k → T (closeAll n u m) k j → T (closeAll n u m) i j
  | 0, _, _, _, _, h, _, _, _ => by omega
  | m + 1, i, k, j, hmn, hk, hi, h1, h2 => by
    rw [T_closeAll_succ] at h1 h2 ⊢
    have ih := closeAll_trans n u m
    by_cases e : k = m
    · subst e
      have a : T (closeAll n u k) i k := by rcases h1 with h | h; exact h; exact h.2.1
      have b : T (closeAll n u k) k j := by rcases h2 with h | h; exact h; exact h.2.2
      exact Or.inr ⟨hi, a, b⟩
    · have hkm : k < m := by omega
      rcases h1 with h1 | ⟨_, h1, h1'⟩
      · rcases h2 with h2 | ⟨_, h2, h2'⟩
        · exact Or.inl (ih i k j (by omega) hkm hi h1 h2)
        · exact Or.inr ⟨hi, ih i k m (by omega) hkm hi h1 h2, h2'⟩
      · rcases h2 with h2 | ⟨_, h2, h2'⟩
        · exact Or.inr ⟨hi, h1, ih m k j (by omega) hkm (by omega) h1' h2⟩
        · exact Or.inr ⟨hi, h1, h2'⟩

theorem okP_iff (n : Nat) (p : Int × Int) : okP n p = true ↔ 0 ≤ p.1 ∧ p.1 < n ∧ 0 ≤ p.2 ∧ p.2 < n := by
  simp [okP]; omega

/-- THE CLOSURE IS THE LEAST ORDER THAT HOLDS THE PAIRS. -/
theorem T_close {n : Nat} {ps : List (Int × Int)} {u : Nat → Nat} (h : addPairs n ps (up0 n) = some u) (i j : Nat) : T (closeAll n u n) i j ↔ i < n ∧ j < n ∧ RT ps i j := by
  have hok := addPairs_ok n ps _ u h
  have hu : ∀ i j, T u i j ↔ (i < n ∧ i = j) ∨ ∃ p ∈ ps, i = p.1.toNat ∧ j = p.2.toNat := fun i j => by rw [T_addPairs n ps _ u h, T_up0]
  have hs : ∀ i j, T u i j → i < n ∧ j < n ∧ RT ps i j := fun i j hij => by
    rcases (hu i j).1 hij with ⟨h1, rfl⟩ | ⟨p, hp, rfl, rfl⟩
    · exact ⟨h1, h1, RT.refl _ _⟩
    · have := (okP_iff n p).1 (hok p hp)
      exact ⟨by omega, by omega, RT.pair hp⟩
  constructor
  · exact closeAll_sound n ps u hs n i j
  · rintro ⟨hi, hj, hr⟩
    have key := hr (fun x y => (x < n → y < n ∧ T (closeAll n u n) x y)) (fun x hx => ⟨hx, closeAll_mono n u n x x ((hu x x).2 (Or.inl ⟨hx, rfl⟩))⟩)
      (fun x y z h1 h2 hx => by
        obtain ⟨hy, h1⟩ := h1 hx
        obtain ⟨hz, h2⟩ := h2 hy
        exact ⟨hz, closeAll_trans n u n x y z (Nat.le_refl _) hy hx h1 h2⟩)
      (fun p hp _ => by
        have := (okP_iff n p).1 (hok p hp)
        exact ⟨by omega, closeAll_mono n u n _ _ ((hu _ _).2 (Or.inr ⟨p, hp, rfl, rfl⟩))⟩)
    exact (key hi).2

theorem T_stepD (up : Nat → Nat) (i : Nat) (d : Nat → Nat) (k x y : Nat) : T (stepD up i d k) x y ↔ T d x y ∨ (x = k ∧ y = i ∧ T up i k) := by
  unfold stepD
  by_cases h : (up i).testBit k = true
  · rw [if_pos h, T_upd]
    by_cases e : x = k
    · subst e
      rw [if_pos rfl, Nat.testBit_or, Nat.testBit_two_pow, Bool.or_eq_true, decide_eq_true_eq]
      unfold T
      constructor
      · rintro (h' | h')
        · exact Or.inl h'
        · exact Or.inr ⟨rfl, h'.symm, h⟩
      · rintro (h' | h')
        · exact Or.inl h'
        · exact Or.inr h'.2.1.symm
    · rw [if_neg e]; simp [e]
  · rw [if_neg h]
    constructor
    · exact Or.inl
    · rintro (h' | ⟨_, _, h'⟩)
      · exact h'
      · exact absurd h' h
theorem T_downI (up : Nat → Nat) (i : Nat) (d : Nat → Nat) : ∀ m x y, T ((List.range m).foldl (stepD up i) d) x y ↔ T d x y ∨ (x < m ∧ y = i ∧ T up i x)
  | 0, x, y => by simp
  | m + 1, x, y => by
    rw [range_foldl_succ, T_stepD, T_downI up i d m]
    constructor
    · rintro ((h | h) | ⟨rfl, rfl, h⟩)
      · exact Or.inl h
      · exact Or.inr ⟨by omega, h.2⟩
      · exact Or.inr ⟨by omega, rfl, h⟩
    · rintro (h | ⟨h, rfl, h1⟩)
      · exact Or.inl (Or.inl h)
      · by_cases e : x = m
        · subst e; exact Or.inr ⟨rfl, rfl, h1⟩
        · exact Or.inl (Or.inr ⟨by omega, rfl, h1⟩)
theorem T_downAll (n : Nat) (up : Nat → Nat) : ∀ m x y, T (downAll n up m) x y ↔ x < n ∧ y < m ∧ T up y x
  | 0, x, y => by simp [downAll, T]
  | m + 1, x, y => by
    have ih := T_downAll n up m x y
    unfold downAll at ih ⊢
    rw [range_foldl_succ]
    unfold downI
    rw [T_downI, show T ((List.range m).foldl (fun d i => (List.range n).foldl (stepD up i) d) fun _ => 0) x y ↔ _ from ih]
    constructor
    · rintro (⟨h1, h2, h3⟩ | ⟨h1, rfl, h3⟩)
      · exact ⟨h1, by omega, h3⟩
      · exact ⟨h1, by omega, h3⟩
    · rintro ⟨h1, h2, h3⟩
      by_cases e : y = m
      · subst e; exact Or.inr ⟨h1, rfl, h3⟩
      · exact Or.inl ⟨h1, by omega, h3⟩

end Go.Proofs.YtjancemacdffbaaDoor
