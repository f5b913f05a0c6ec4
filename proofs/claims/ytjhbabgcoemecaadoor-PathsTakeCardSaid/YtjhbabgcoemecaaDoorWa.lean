/- Plain laws of words: what the operators come to. -/
import Derived.WalkKit
import Derived.Laws.Entries
namespace Go.Proofs.YtjhbabgcoemecaaDoor
open Go

/-! ### bits of 64 -/
theorem wrap_u (n : Nat) (h : n < 18446744073709551616) : IntKind.u64.wrap (n : Int) = n := by
  rw [IntKind.wrap_u64]; omega
theorem ofInt_nat (n : Nat) (h : n < 18446744073709551616) : (BitVec.ofInt 64 (n : Int)).toNat = n := by
  rw [BitVec.toNat_ofInt]; omega
theorem bits_and (a b : Nat) (ha : a < 18446744073709551616) (hb : b < 18446744073709551616) : bits .and .u64 (a : Int) (b : Int) = ((a &&& b : Nat) : Int) := by
  have e : (BitVec.ofInt 64 (a : Int) &&& BitVec.ofInt 64 (b : Int)).toNat = a &&& b := by rw [BitVec.toNat_and, ofInt_nat a ha, ofInt_nat b hb]
  show IntKind.u64.wrap ((BitVec.ofInt 64 (a : Int) &&& BitVec.ofInt 64 (b : Int)).toNat : Int) = _
  rw [e]
  exact wrap_u _ (Nat.lt_of_le_of_lt Nat.and_le_left ha)
theorem bits_or (a b : Nat) (ha : a < 18446744073709551616) (hb : b < 18446744073709551616) : bits .or .u64 (a : Int) (b : Int) = ((a ||| b : Nat) : Int) := by
  have e : (BitVec.ofInt 64 (a : Int) ||| BitVec.ofInt 64 (b : Int)).toNat = a ||| b := by rw [BitVec.toNat_or, ofInt_nat a ha, ofInt_nat b hb]
  show IntKind.u64.wrap ((BitVec.ofInt 64 (a : Int) ||| BitVec.ofInt 64 (b : Int)).toNat : Int) = _
  rw [e]
  exact wrap_u _ (Nat.or_lt_two_pow (n := 64) ha hb)
theorem bits_xor (a b : Nat) (ha : a < 18446744073709551616) (hb : b < 18446744073709551616) : bits .xor .u64 (a : Int) (b : Int) = ((a ^^^ b : Nat) : Int) := by
  have e : (BitVec.ofInt 64 (a : Int) ^^^ BitVec.ofInt 64 (b : Int)).toNat = a ^^^ b := by rw [BitVec.toNat_xor, ofInt_nat a ha, ofInt_nat b hb]
  show IntKind.u64.wrap ((BitVec.ofInt 64 (a : Int) ^^^ BitVec.ofInt 64 (b : Int)).toNat : Int) = _
  rw [e]
  exact wrap_u _ (Nat.xor_lt_two_pow (n := 64) ha hb)
theorem pow_le {w : Nat} (h : w ≤ 64) : 2 ^ w ≤ 18446744073709551616 := by
  have : 2 ^ w ≤ 2 ^ 64 := Nat.pow_le_pow_right (by decide) h
  omega
theorem and_mask (a w : Nat) : a &&& (2 ^ w - 1) = a % 2 ^ w := Nat.and_two_pow_sub_one_eq_mod a w
/-- ^a -/
theorem xor_all (a : Nat) (ha : a < 18446744073709551616) : a ^^^ 18446744073709551615 = 18446744073709551615 - a := by
  have h : (BitVec.ofNat 64 a ^^^ BitVec.allOnes 64) = ~~~ (BitVec.ofNat 64 a) := by rw [BitVec.xor_allOnes]
  have h2 := congrArg BitVec.toNat h
  rw [BitVec.toNat_xor, BitVec.toNat_not, BitVec.toNat_ofNat, BitVec.toNat_allOnes] at h2
  have e : a % 2 ^ 64 = a := Nat.mod_eq_of_lt ha
  rw [e] at h2
  exact h2
/-- a | ^mask, for words of less than 64 bits: a + 2^64 - 2^w -/
theorem or_high (a w : Nat) (ha : a < 2 ^ w) (hw : w ≤ 64) : a ||| (18446744073709551615 - (2 ^ w - 1)) = a + (18446744073709551616 - 2 ^ w) := by
  have h := pow_le hw
  have hp : 0 < 2 ^ w := Nat.two_pow_pos w
  have e0 : 2 ^ w * 2 ^ (64 - w) = 2 ^ 64 := by rw [← Nat.pow_add]; congr 1; omega
  have e : 18446744073709551616 = 2 ^ w * 2 ^ (64 - w) := by rw [e0]
  have e1 : 18446744073709551615 - (2 ^ w - 1) = 2 ^ w * (2 ^ (64 - w) - 1) := by rw [Nat.mul_sub, ← e]; omega
  rw [e1, Nat.or_comm, ← Nat.two_pow_add_eq_or_of_lt ha, Nat.mul_sub, ← e]
  omega

/-! ### words of a width -/
/-- a word as a signed number -/
def sgn (w a : Nat) : Int := if 2 ^ (w - 1) ≤ a then (a : Int) - 2 ^ w else a
def sarN (w a b : Nat) : Nat := ((sgn w a / (2 : Int) ^ (min b 63)) % (2 : Int) ^ w).toNat
def b2n (p : Prop) [Decidable p] : Nat := if p then 1 else 0
/-- what an operator of one or two arguments comes to, for words -/
def appN (o w a b : Nat) : Nat :=
  match o with
  | 2 => 2 ^ w - 1 - a
  | 3 => (2 ^ w - a) % 2 ^ w
  | 4 => (a + b) % 2 ^ w
  | 5 => (a + (2 ^ w - b)) % 2 ^ w
  | 6 => a * b % 2 ^ w
  | 7 => if b = 0 then 2 ^ w - 1 else a / b
  | 8 => if b = 0 then a else a % b
  | 9 => a &&& b
  | 10 => a ||| b
  | 11 => a ^^^ b
  | 12 => if w ≤ b then 0 else a * 2 ^ b % 2 ^ w
  | 13 => if w ≤ b then 0 else a / 2 ^ b
  | 14 => sarN w a b
  | 15 => b2n (a = b)
  | 16 => b2n (a ≠ b)
  | 17 => b2n (a < b)
  | 18 => b2n (a ≤ b)
  | 19 => b2n (sgn w a < sgn w b)
  | 20 => b2n (sgn w a ≤ sgn w b)
  | _ => 0
theorem b2n_lt {p : Prop} [Decidable p] {w : Nat} (hw : 1 ≤ w) : b2n p < 2 ^ w := by
  have : 2 ^ 1 ≤ 2 ^ w := Nat.pow_le_pow_right (by decide) hw
  unfold b2n; split <;> omega
theorem two_pow_pred {w : Nat} (hw : 1 ≤ w) : 2 ^ w = 2 * 2 ^ (w - 1) := by
  rw [← Nat.pow_succ']; congr 1; omega
theorem appN_lt {o w a b : Nat} (hw : 1 ≤ w) (ha : a < 2 ^ w) (hb : b < 2 ^ w) : appN o w a b < 2 ^ w := by
  have hp : 0 < 2 ^ w := Nat.two_pow_pos w
  unfold appN
  split
  · omega
  · exact Nat.mod_lt _ hp
  · exact Nat.mod_lt _ hp
  · exact Nat.mod_lt _ hp
  · exact Nat.mod_lt _ hp
  · split
    · omega
    · exact Nat.lt_of_le_of_lt (Nat.div_le_self _ _) ha
  · split
    · exact ha
    · exact Nat.lt_of_le_of_lt (Nat.mod_le _ _) ha
  · exact Nat.lt_of_le_of_lt Nat.and_le_left ha
  · exact Nat.or_lt_two_pow ha hb
  · exact Nat.xor_lt_two_pow ha hb
  · split
    · exact hp
    · exact Nat.mod_lt _ hp
  · split
    · exact hp
    · exact Nat.lt_of_le_of_lt (Nat.div_le_self _ _) ha
  · unfold sarN
    have hp' : (0 : Int) < (2 : Int) ^ w := Int.pow_pos (by decide)
    have h1 := Int.emod_lt_of_pos (sgn w a / (2 : Int) ^ (min b 63)) hp'
    have h0 := Int.emod_nonneg (sgn w a / (2 : Int) ^ (min b 63)) (Int.ne_of_gt hp')
    have e : ((2 ^ w : Nat) : Int) = (2 : Int) ^ w := by simp
    omega
  · exact b2n_lt hw
  · exact b2n_lt hw
  · exact b2n_lt hw
  · exact b2n_lt hw
  · exact b2n_lt hw
  · exact b2n_lt hw
  · exact hp

/-! ### shifts step by step, as the reference does them -/
def shlK (w a : Nat) : Nat → Nat
  | 0 => a
  | k + 1 => 2 * shlK w a k % 2 ^ w
def shrK (a : Nat) : Nat → Nat
  | 0 => a
  | k + 1 => shrK a k / 2
def sarK (w a : Nat) : Nat → Nat
  | 0 => a
  | k + 1 => sarK w a k / 2 + 2 ^ (w - 1)
theorem shlK_eq {w a : Nat} (ha : a < 2 ^ w) : ∀ k, shlK w a k = a * 2 ^ k % 2 ^ w
  | 0 => by simp [shlK, Nat.mod_eq_of_lt ha]
  | k + 1 => by
    rw [shlK, shlK_eq ha k, Nat.mul_mod, Nat.mod_mod, ← Nat.mul_mod, Nat.pow_succ]
    congr 1
    rw [Nat.mul_left_comm, Nat.mul_comm 2 (2 ^ k)]
theorem shrK_eq (a : Nat) : ∀ k, shrK a k = a / 2 ^ k
  | 0 => by simp [shrK]
  | k + 1 => by rw [shrK, shrK_eq a k, Nat.div_div_eq_div_mul, Nat.pow_succ]
theorem sarK_eq {w a : Nat} (hw : 1 ≤ w) (h1 : 2 ^ (w - 1) ≤ a) (ha : a < 2 ^ w) : ∀ k, (sarK w a k : Int) = ((a : Int) - 2 ^ w) / 2 ^ k + 2 ^ w
  | 0 => by simp [sarK]
  | k + 1 => by
    have ih := sarK_eq hw h1 ha k
    have e := two_pow_pred hw
    have e' : ((2 ^ w : Nat) : Int) = (2 : Int) ^ w := by simp
    have e2 : ((2 ^ (w - 1) : Nat) : Int) = (2 : Int) ^ (w - 1) := by simp
    have e3 : (2 : Int) ^ w = 2 * (2 : Int) ^ (w - 1) := by rw [← e', ← e2, e]; simp
    have hd : ((a : Int) - 2 ^ w) / 2 ^ (k + 1) = (((a : Int) - 2 ^ w) / 2 ^ k) / 2 := by
      rw [Int.pow_succ, Int.ediv_ediv_of_nonneg (Int.le_of_lt (Int.pow_pos (by decide)))]
    rw [hd]
    show (((sarK w a k / 2 + 2 ^ (w - 1) : Nat)) : Int) = _
    rw [Int.natCast_add, Int.natCast_ediv, ih, e2]
    generalize ((a : Int) - 2 ^ w) / 2 ^ k = y
    rw [e3]
    generalize (2 : Int) ^ (w - 1) = p
    omega
theorem shl_ref {w a b : Nat} (ha : a < 2 ^ w) : shlK w a (min b w) = appN 12 w a b := by
  rw [shlK_eq ha]
  show _ = if w ≤ b then 0 else a * 2 ^ b % 2 ^ w
  by_cases h : w ≤ b
  · rw [if_pos h, Nat.min_eq_right h, Nat.mul_mod_left]
  · rw [if_neg h, Nat.min_eq_left (by omega)]
theorem shr_ref {w a b : Nat} (ha : a < 2 ^ w) : shrK a (min b w) = appN 13 w a b := by
  rw [shrK_eq]
  show _ = if w ≤ b then 0 else a / 2 ^ b
  by_cases h : w ≤ b
  · rw [if_pos h, Nat.min_eq_right h, Nat.div_eq_of_lt ha]
  · rw [if_neg h, Nat.min_eq_left (by omega)]
theorem sar_low {w a b : Nat} (hw : 1 ≤ w) (hw2 : w ≤ 64) (h : a < 2 ^ (w - 1)) : shrK a (min b w) = appN 14 w a b := by
  rw [shrK_eq]
  show _ = sarN w a b
  have e := two_pow_pred hw
  unfold sarN sgn
  rw [if_neg (by omega)]
  have e' : ((2 ^ w : Nat) : Int) = (2 : Int) ^ w := by simp
  have e2 : ((2 ^ (min b 63) : Nat) : Int) = (2 : Int) ^ (min b 63) := by simp
  rw [← e', ← e2, ← Int.natCast_ediv, ← Int.natCast_emod, Int.toNat_natCast, Nat.mod_eq_of_lt (Nat.lt_of_le_of_lt (Nat.div_le_self _ _) (by omega))]
  by_cases hb : b < w
  · rw [Nat.min_eq_left (by omega), Nat.min_eq_left (by omega)]
  · have h1 : a / 2 ^ min b w = 0 := by rw [Nat.min_eq_right (by omega)]; exact Nat.div_eq_of_lt (by omega)
    have h2 : a / 2 ^ min b 63 = 0 := Nat.div_eq_of_lt (Nat.lt_of_lt_of_le h (Nat.pow_le_pow_right (by decide) (by omega)))
    rw [h1, h2]
theorem sar_high {w a b : Nat} (hw : 1 ≤ w) (hw2 : w ≤ 64) (h1 : 2 ^ (w - 1) ≤ a) (ha : a < 2 ^ w) : sarK w a (min b w) = appN 14 w a b := by
  show _ = sarN w a b
  have hk := sarK_eq hw h1 ha (min b w)
  have e := two_pow_pred hw
  have e' : ((2 ^ w : Nat) : Int) = (2 : Int) ^ w := by simp
  have e2 : ((2 ^ (w - 1) : Nat) : Int) = (2 : Int) ^ (w - 1) := by simp
  have hp : (0 : Int) < (2 : Int) ^ w := Int.pow_pos (by decide)
  unfold sarN sgn
  rw [if_pos h1]
  -- the quotient lies between -2^w and -1
  have key : ∀ m, (-(2 : Int) ^ w ≤ ((a : Int) - 2 ^ w) / 2 ^ m ∧ ((a : Int) - 2 ^ w) / 2 ^ m ≤ -1) := fun m => by
    have hm : (0 : Int) < (2 : Int) ^ m := Int.pow_pos (by decide)
    refine ⟨?_, ?_⟩
    · refine Int.le_ediv_of_mul_le hm ?_
      have : (1 : Int) ≤ (2 : Int) ^ m := hm
      have h2 : (2 : Int) ^ w * 1 ≤ (2 : Int) ^ w * (2 : Int) ^ m := Int.mul_le_mul_of_nonneg_left this (Int.le_of_lt hp)
      rw [Int.neg_mul]
      omega
    · have : ((a : Int) - 2 ^ w) / 2 ^ m < 0 := Int.ediv_neg_of_neg_of_pos (by omega) hm
      omega
  have fin : (((a : Int) - 2 ^ w) / 2 ^ (min b 63)) = (((a : Int) - 2 ^ w) / 2 ^ (min b w)) := by
    by_cases hb : b < w
    · rw [Nat.min_eq_left (by omega), Nat.min_eq_left (by omega)]
    · have neg1 : ∀ m, w - 1 ≤ m → ((a : Int) - 2 ^ w) / 2 ^ m = -1 := fun m hm => by
        have h3 := (key m).2
        have hm0 : (0 : Int) < (2 : Int) ^ m := Int.pow_pos (by decide)
        have h4 : (-1 : Int) ≤ ((a : Int) - 2 ^ w) / 2 ^ m := by
          refine Int.le_ediv_of_mul_le hm0 ?_
          have h5 : (2 ^ (w - 1) : Nat) ≤ 2 ^ m := Nat.pow_le_pow_right (by decide) hm
          have e5 : ((2 ^ m : Nat) : Int) = (2 : Int) ^ m := by simp
          rw [← e5]
          omega
        omega
      rw [neg1 _ (by omega), neg1 _ (by omega)]
  rw [fin]
  obtain ⟨k1, k2⟩ := key (min b w)
  generalize ((a : Int) - 2 ^ w) / 2 ^ (min b w) = y at *
  have : y % (2 : Int) ^ w = y + (2 : Int) ^ w := by
    rw [← Int.add_emod_right, Int.emod_eq_of_lt (by omega) (by omega)]
  rw [this]
  omega
/-- signed numbers are compared by their highest bits first -/
theorem less_ref {w a b : Nat} (hw : 1 ≤ w) (ha : a < 2 ^ w) (hb : b < 2 ^ w) : (sgn w a < sgn w b) ↔ (if (decide (2 ^ (w - 1) ≤ a)) ≠ (decide (2 ^ (w - 1) ≤ b)) then 2 ^ (w - 1) ≤ a else a < b) := by
  have e := two_pow_pred hw
  have e' : ((2 ^ w : Nat) : Int) = (2 : Int) ^ w := by simp
  unfold sgn
  by_cases h1 : 2 ^ (w - 1) ≤ a <;> by_cases h2 : 2 ^ (w - 1) ≤ b <;> simp [h1, h2] <;> omega
end Go.Proofs.YtjhbabgcoemecaaDoor
