/- Plain facts on bits of naturals, for package lattice. No program. -/
import Derived.Lib.TrailingZeros
namespace Go.Proofs.YtjancemacdffbaaDoor.Pl

theorem ctz_spec (r : Nat) (h0 : r ≠ 0) (h : r < 4294967296) : Lib.ctz 32 r < 32 ∧ r.testBit (Lib.ctz 32 r) = true ∧ ∀ j, j < Lib.ctz 32 r → r.testBit j = false := by
  obtain ⟨m, hm, hk⟩ := Lib.ctzFrom_spec 32 r (by omega) (by omega)
  have e : Lib.ctz 32 r = Lib.ctzFrom 32 r := by simp [Lib.ctz, h0]
  rw [e]
  refine ⟨hk, ?_, ?_⟩
  · conv => lhs; arg 1; rw [hm]
    rw [Nat.mul_comm, Nat.testBit_mul_two_pow]; simp
  · intro j hj
    rw [hm, Nat.mul_comm, Nat.testBit_mul_two_pow]
    simp; omega

theorem and_pred (r : Nat) (h0 : r ≠ 0) (h : r < 4294967296) (j : Nat) : (r &&& (r - 1)).testBit j = (r.testBit j && decide (j ≠ Lib.ctz 32 r)) := by
  obtain ⟨m, hm, hk⟩ := Lib.ctzFrom_spec 32 r (by omega) (by omega)
  have e : Lib.ctz 32 r = Lib.ctzFrom 32 r := by simp [Lib.ctz, h0]
  rw [e]
  generalize Lib.ctzFrom 32 r = k at *
  have e2 : r - 1 = 2 ^ k * (2 * m) + (2 ^ k - 1) := by
    have := Nat.two_pow_pos k
    rw [hm, Nat.mul_add, Nat.mul_one]; omega
  have hr : ∀ i, r.testBit i = (decide (k ≤ i) && (2 * m + 1).testBit (i - k)) := fun i => by
    rw [hm, Nat.mul_comm, Nat.testBit_mul_two_pow]
  have hp : ∀ i, (r - 1).testBit i = if i < k then true else (2 * m).testBit (i - k) := fun i => by
    rw [e2]
    rw [Nat.testBit_two_pow_mul_add _ (by have := Nat.two_pow_pos k; omega)]
    split
    · rw [Nat.testBit_two_pow_sub_one]; simp; assumption
    · rfl
  rw [Nat.testBit_and, hr, hp]
  by_cases h1 : j < k
  · simp [h1]; intro h; omega
  · rw [if_neg h1]
    by_cases h2 : j = k
    · subst h2; simp
    · obtain ⟨d, rfl⟩ : ∃ d, j = k + (d + 1) := ⟨j - k - 1, by omega⟩
      have e3 : k + (d + 1) - k = d + 1 := by omega
      rw [e3, Nat.testBit_succ, Nat.testBit_succ]
      have a1 : (2 * m + 1) / 2 = m := by omega
      have a2 : (2 * m) / 2 = m := by omega
      rw [a1, a2]; simp

theorem and_pred_lt (r : Nat) (h0 : r ≠ 0) : r &&& (r - 1) < r := by
  have := @Nat.and_le_right r (r - 1)
  omega

/-- a is a subset of b, as numbers of 32 bits: what 'a &^ b == 0' asks -/
def sub (a b : Nat) : Bool := (a &&& (4294967295 - b)) == 0
theorem sub_iff (a b : Nat) (ha : a < 4294967296) (hb : b < 4294967296) : sub a b = true ↔ ∀ j, a.testBit j = true → b.testBit j = true := by
  unfold sub
  rw [beq_iff_eq]
  have hbit : ∀ j, j < 32 → (4294967295 - b).testBit j = !b.testBit j := fun j hj => by
    have e : 4294967295 - b = 2 ^ 32 - (b + 1) := by omega
    rw [e, Nat.testBit_two_pow_sub_succ (by omega)]; simp [hj]
  have hz : ∀ j, 32 ≤ j → a.testBit j = false := fun j hj => Nat.testBit_lt_two_pow (Nat.lt_of_lt_of_le (by omega : a < 2 ^ 32) (Nat.pow_le_pow_right (by omega) hj))
  constructor
  · intro h j hj
    have := congrArg (fun x => x.testBit j) h
    simp only [Nat.testBit_and, Nat.zero_testBit, hj, Bool.true_and] at this
    by_cases h32 : j < 32
    · rw [hbit j h32] at this; simpa using this
    · rw [hz j (by omega)] at hj; cases hj
  · intro h
    apply Nat.eq_of_testBit_eq
    intro j
    rw [Nat.testBit_and, Nat.zero_testBit]
    by_cases h32 : j < 32
    · rw [hbit j h32]
      cases hj : a.testBit j with
      | false => simp
      | true => simp [h j hj]
    · rw [hz j (by omega)]; simp

/-- the first level of a set that bounds it: what (*sets).bound returns; -1: there is none -/
def bndFrom (s : Nat → Nat) (set : Nat) : Nat → Nat → Int
  | 0, _ => -1
  | f + 1, i => if set.testBit i && sub set (s i) then (i : Int) else bndFrom s set f (i + 1)
def bnd (s : Nat → Nat) (set : Nat) : Int := bndFrom s set 32 0

theorem bndFrom_skip (s : Nat → Nat) (set : Nat) : ∀ (d f i : Nat), (∀ j, i ≤ j → j < i + d → (set.testBit j && sub set (s j)) = false) → bndFrom s set (f + d) i = bndFrom s set f (i + d)
  | 0, f, i, _ => rfl
  | d + 1, f, i, h => by
    have h0 := h i (by omega) (by omega)
    rw [show f + (d + 1) = (f + d) + 1 by omega, bndFrom, h0]
    simp only [Bool.false_eq_true, if_false]
    rw [bndFrom_skip s set d f (i + 1) (fun j h1 h2 => h j (by omega) (by omega)), show i + 1 + d = i + (d + 1) by omega]

theorem bnd_at (s : Nat → Nat) (set k : Nat) (hk : k < 32) (hb : ∀ j, j < k → (set.testBit j && sub set (s j)) = false) (h : (set.testBit k && sub set (s k)) = true) : bnd s set = k := by
  unfold bnd
  have := bndFrom_skip s set k (32 - k) 0 (fun j _ h2 => hb j (by omega))
  rw [show 32 - k + k = 32 by omega, Nat.zero_add] at this
  rw [this, show 32 - k = (31 - k) + 1 by omega, bndFrom, if_pos h]

theorem bnd_none (s : Nat → Nat) (set : Nat) (hb : ∀ j, j < 32 → (set.testBit j && sub set (s j)) = false) : bnd s set = -1 := by
  unfold bnd
  have := bndFrom_skip s set 32 0 0 (fun j _ h2 => hb j (by omega))
  rw [Nat.zero_add] at this
  rw [this]; rfl

theorem bnd_cases (s : Nat → Nat) (set : Nat) : (bnd s set = -1 ∧ ∀ j, j < 32 → (set.testBit j && sub set (s j)) = false) ∨ ∃ k : Nat, k < 32 ∧ bnd s set = k ∧ (set.testBit k && sub set (s k)) = true ∧ ∀ j, j < k → (set.testBit j && sub set (s j)) = false := by
  by_cases h : ∃ k, k < 32 ∧ (set.testBit k && sub set (s k)) = true
  · have : ∀ n, (∃ k, k < n ∧ k < 32 ∧ (set.testBit k && sub set (s k)) = true) → ∃ k, k < 32 ∧ (set.testBit k && sub set (s k)) = true ∧ ∀ j, j < k → (set.testBit j && sub set (s j)) = false := by
      intro n
      induction n with
      | zero => rintro ⟨k, hk, _⟩; omega
      | succ n ih =>
        rintro ⟨k, hk, h32, h⟩
        by_cases hl : ∃ k, k < n ∧ k < 32 ∧ (set.testBit k && sub set (s k)) = true
        · exact ih hl
        · obtain rfl : k = n := by
            by_cases e : k = n
            · exact e
            · exact absurd ⟨k, by omega, h32, h⟩ hl
          refine ⟨k, h32, h, fun j hj => ?_⟩
          cases hj' : set.testBit j && sub set (s j) with
          | false => rfl
          | true => exact absurd ⟨j, hj, by omega, hj'⟩ hl
    obtain ⟨k, hk, h1, h2⟩ := this 32 (by obtain ⟨k, hk, h⟩ := h; exact ⟨k, hk, hk, h⟩)
    exact Or.inr ⟨k, hk, bnd_at s set k hk h2 h1, h1, h2⟩
  · refine Or.inl ⟨?_, ?_⟩
    · exact bnd_none s set fun j hj => by
        cases hj' : set.testBit j && sub set (s j) with
        | false => rfl
        | true => exact absurd ⟨j, hj, hj'⟩ h
    · intro j hj
      cases hj' : set.testBit j && sub set (s j) with
      | false => rfl
      | true => exact absurd ⟨j, hj, hj'⟩ h

theorem bnd_lo (s : Nat → Nat) (set : Nat) : -1 ≤ bnd s set ∧ bnd s set < 32 := by
  rcases bnd_cases s set with ⟨h, _⟩ | ⟨k, hk, h, _⟩ <;> omega

/-- what (*sets).bound's loop keeps: x is what of the set is not below k; nothing below k bounds the set -/
def BI (s : Nat → Nat) (set x k : Nat) : Prop := (∀ j, x.testBit j = (set.testBit j && decide (k ≤ j))) ∧ ∀ j, j < k → (set.testBit j && sub set (s j)) = false
theorem BI.start (s : Nat → Nat) (set : Nat) : BI s set set 0 := ⟨fun j => by simp, fun j h => by omega⟩
theorem BI.none {s : Nat → Nat} {set k : Nat} (h : BI s set 0 k) : bnd s set = -1 := by
  refine bnd_none s set fun j hj => ?_
  by_cases hjk : j < k
  · exact h.2 j hjk
  · have := h.1 j
    rw [Nat.zero_testBit] at this
    have h1 : decide (k ≤ j) = true := by simp; omega
    rw [h1, Bool.and_true] at this
    rw [← this]; rfl
theorem BI.low {s : Nat → Nat} {set x k : Nat} (h : BI s set x k) (hx0 : x ≠ 0) (hx : x < 4294967296) :
    set.testBit (Lib.ctz 32 x) = true ∧ ∀ j, j < Lib.ctz 32 x → (set.testBit j && sub set (s j)) = false := by
  obtain ⟨c1, c2, c3⟩ := ctz_spec x hx0 hx
  have hbi := h.1 (Lib.ctz 32 x)
  rw [c2] at hbi
  have h1 : set.testBit (Lib.ctz 32 x) = true := by
    cases h : set.testBit (Lib.ctz 32 x) <;> simp [h] at hbi; rfl
  refine ⟨h1, fun j hj => ?_⟩
  by_cases hjk : j < k
  · exact h.2 j hjk
  · have := h.1 j
    rw [c3 j hj] at this
    have h2 : decide (k ≤ j) = true := by simp; omega
    rw [h2, Bool.and_true] at this
    rw [← this]; rfl
theorem BI.found {s : Nat → Nat} {set x k : Nat} (h : BI s set x k) (hx0 : x ≠ 0) (hx : x < 4294967296) (hs : sub set (s (Lib.ctz 32 x)) = true) : bnd s set = Lib.ctz 32 x := by
  obtain ⟨h1, h2⟩ := h.low hx0 hx
  exact bnd_at s set _ (ctz_spec x hx0 hx).1 h2 (by rw [h1, hs]; rfl)
theorem BI.next {s : Nat → Nat} {set x k : Nat} (h : BI s set x k) (hx0 : x ≠ 0) (hx : x < 4294967296) (hs : sub set (s (Lib.ctz 32 x)) = false) : BI s set (x &&& (x - 1)) (Lib.ctz 32 x + 1) := by
  obtain ⟨h1, h2⟩ := h.low hx0 hx
  obtain ⟨c1, c2, c3⟩ := ctz_spec x hx0 hx
  have hk : k ≤ Lib.ctz 32 x := by
    have := h.1 (Lib.ctz 32 x)
    rw [c2] at this
    by_cases hk : k ≤ Lib.ctz 32 x
    · exact hk
    · rw [show decide (k ≤ Lib.ctz 32 x) = false by simp; omega] at this; simp at this
  refine ⟨fun j => ?_, fun j hj => ?_⟩
  · rw [and_pred x hx0 hx, h.1 j]
    by_cases e : j = Lib.ctz 32 x
    · subst e; simp
    · by_cases hj : j < Lib.ctz 32 x
      · have h3 := c3 j hj
        rw [h.1 j] at h3
        rw [h3]
        have : decide (Lib.ctz 32 x + 1 ≤ j) = false := by simp; omega
        rw [this]; simp
      · have e1 : decide (k ≤ j) = true := by simp; omega
        have e2 : decide (Lib.ctz 32 x + 1 ≤ j) = true := by simp; omega
        rw [e1, e2]; simp [e]
  · by_cases e : j = Lib.ctz 32 x
    · subst e; rw [hs]; simp
    · exact h2 j (by omega)

end Go.Proofs.YtjancemacdffbaaDoor.Pl
