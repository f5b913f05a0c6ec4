/- Walks: the words of a width (package word), the small functions. -/
import Derived.Test.YtjhbabgcoemecaaDoorProg
import Derived.Test.YtjhbabgcoemecaaDoorWe
import Derived.WalkKit
import Derived.Below
import Derived.Lib.Hide
import Derived.BigQuiet
import Derived.Deep.QuietTactic
import Derived.KernelRfl
import Derived.Outline
import Derived.Deep.CutBlock
import Derived.Deep.Draws
namespace Go.Proofs.YtjhbabgcoemecaaDoor
open Go.RowKit

/-- 2^w - 1, as the walk spells it -/
theorem mask_raw {w : Nat} (h : w ≤ 64) : IntKind.u64.wrap (IntKind.u64.wrap ((2 : Int) ^ w) - 1) = ((2 ^ w - 1 : Nat) : Int) := by
  have h1 := pow_le h
  have h0 : 0 < 2 ^ w := Nat.two_pow_pos w
  have e : (2 : Int) ^ w = ((2 ^ w : Nat) : Int) := by simp
  rw [e, IntKind.wrap_u64, IntKind.wrap_u64]
  omega
theorem mask82 (w : Nat) (W : World) (h : w ≤ 64) : Calls Tryd.prog 82 #[.int .i64 w] W fun e W' => e = .returned (.int .u64 ((2 ^ w - 1 : Nat) : Int)) ∧ W = W' := by
  have HM := Lib.hid (mask_raw h)
  go_enter Tryd.func82, Tryd.ntmps82
  go_wp2_with fail
  go_ret
  exact ⟨by rw [← HM.out]; rfl, rfl⟩
theorem check64_ok (w : Nat) (W : World) (h1 : 1 ≤ w) (h : w ≤ 64) : Calls Tryd.prog 64 #[.int .i64 w] W fun e W' => e = .returned (.int .i64 0) ∧ W = W' := by
  have d1 : decide ((w : Int) < 1) = false := by simp; omega
  have d2 : decide (64 < (w : Int)) = false := by simp; omega
  go_enter Tryd.func64, Tryd.ntmps64
  go_wp2_with fail
  go_ret
  exact ⟨rfl, rfl⟩
theorem check64_bad (w : Int) (W : World) (h : w < 1 ∨ 64 < w) : Calls Tryd.prog 64 #[.int .i64 w] W fun e W' => e = .returned (.int .i64 3) ∧ W = W' := by
  by_cases a0 : w < 1
  · clear h
    go_enter Tryd.func64, Tryd.ntmps64
    go_wp2_with fail
    go_ret
    exact ⟨rfl, rfl⟩
  · have a1 : 64 < w := by omega
    clear h
    go_enter Tryd.func64, Tryd.ntmps64
    go_wp2_with fail
    go_ret
    exact ⟨rfl, rfl⟩
theorem bit109 (b : Bool) (W : World) : Calls Tryd.prog 109 #[.bool b] W fun e W' => e = .returned (.int .u64 (if b then 1 else 0)) ∧ W = W' := by
  cases b
  · go_enter Tryd.func109, Tryd.ntmps109
    go_wp2_with fail
    go_ret
    exact ⟨rfl, rfl⟩
  · go_enter Tryd.func109, Tryd.ntmps109
    go_wp2_with fail
    go_ret
    exact ⟨rfl, rfl⟩
theorem high_raw {w a : Nat} (h1 : 1 ≤ w) (ha : a < 2 ^ w) : (bits .and .u64 ((a : Int) / 2 ^ (w - 1)) 1 == 1) = decide (2 ^ (w - 1) ≤ a) := by
  have e := two_pow_pred h1
  have hp : 0 < 2 ^ (w - 1) := Nat.two_pow_pos _
  have e2 : ((a : Int) / 2 ^ (w - 1)) = ((a / 2 ^ (w - 1) : Nat) : Int) := by simp
  have hq : a / 2 ^ (w - 1) < 2 := Nat.div_lt_of_lt_mul (by omega)
  rw [e2, show (1 : Int) = ((1 : Nat) : Int) from rfl, bits_and _ _ (by omega) (by decide)]
  by_cases hh : 2 ^ (w - 1) ≤ a
  · have : a / 2 ^ (w - 1) = 1 := by
      have : 0 < a / 2 ^ (w - 1) := Nat.div_pos hh hp
      omega
    rw [this, decide_eq_true hh]; rfl
  · have : a / 2 ^ (w - 1) = 0 := Nat.div_eq_of_lt (by omega)
    rw [this, decide_eq_false hh]; rfl
theorem high113 (w a : Nat) (W : World) (h1 : 1 ≤ w) (h : w ≤ 64) (ha : a < 2 ^ w) : Calls Tryd.prog 113 #[.int .i64 w, .int .u64 a] W fun e W' => e = .returned (.bool (decide (2 ^ (w - 1) ≤ a))) ∧ W = W' := by
  have hw1 : (1 : Int) ≤ w := by omega
  have HR := Lib.hid (high_raw h1 ha)
  clear ha
  go_enter Tryd.func113, Tryd.ntmps113
  go_wp2_with fail
  go_ret
  exact ⟨by rw [← HR.out]; rfl, rfl⟩
theorem ret_i {k : IntKind} {a b : Int} (h : a = b) : Ending.returned (.int k a) = .returned (.int k b) := by rw [h]
theorem u64_max : IntKind.u64.max = ((18446744073709551615 : Nat) : Int) := rfl
theorem signed_raw {w a : Nat} (h : w ≤ 64) (h1 : 1 ≤ w) (ha : a < 2 ^ w) (hh : 2 ^ (w - 1) ≤ a) : wrap64 (bits .or .u64 (a : Int) (bits .xor .u64 IntKind.u64.max ((2 ^ w - 1 : Nat) : Int))) = sgn w a := by
  have h2 := pow_le h
  have h0 : 0 < 2 ^ w := Nat.two_pow_pos w
  have e := two_pow_pred h1
  rw [u64_max, bits_xor _ _ (by decide) (by omega), Nat.xor_comm, xor_all _ (by omega), bits_or _ _ (by omega) (by omega), or_high a w ha h]
  have e' : ((2 ^ w : Nat) : Int) = (2 : Int) ^ w := by simp
  unfold sgn
  rw [if_pos hh, ← e']
  have hlow : 2 ^ (w - 1) ≤ 9223372036854775808 := by omega
  unfold wrap64
  omega
theorem signed_low {w a : Nat} (h : w ≤ 64) (h1 : 1 ≤ w) (hh : ¬ 2 ^ (w - 1) ≤ a) : wrap64 (a : Int) = sgn w a := by
  have h2 := pow_le h
  have e := two_pow_pred h1
  unfold sgn
  rw [if_neg hh]
  unfold wrap64
  omega
theorem signed108 (w a : Nat) (W : World) (h1 : 1 ≤ w) (h : w ≤ 64) (ha : a < 2 ^ w) : Calls Tryd.prog 108 #[.int .i64 w, .int .u64 a] W fun e W' => e = .returned (.int .i64 (sgn w a)) ∧ W = W' := by
  by_cases hh : 2 ^ (w - 1) ≤ a
  · have HT := Lib.hid (decide_eq_true hh)
    have HH := Lib.hid (high113 w a W h1 h ha)
    have HM := Lib.hid (mask82 w W h)
    rw [HT.out] at HH
    have HS := Lib.hid (signed_raw h h1 ha hh)
    clear ha hh h1 h
    go_enter Tryd.func108, Tryd.ntmps108
    go_wp2_with (first | (go_at_call 113; refine HH.out.mono ?_; rintro e W' ⟨rfl, rfl⟩) | (go_at_call 82; refine HM.out.mono ?_; rintro e W' ⟨rfl, rfl⟩))
    go_ret
    exact ⟨ret_i HS.out, rfl⟩
  · have HT := Lib.hid (decide_eq_false hh)
    have HH := Lib.hid (high113 w a W h1 h ha)
    rw [HT.out] at HH
    have HS := Lib.hid (signed_low h h1 hh)
    clear ha hh h1 h
    go_enter Tryd.func108, Tryd.ntmps108
    go_wp2_with (first | (go_at_call 113; refine HH.out.mono ?_; rintro e W' ⟨rfl, rfl⟩))
    go_ret
    exact ⟨ret_i HS.out, rfl⟩

/-! ### what the operators yield, up to the highest bits -/
def OpPost (o w a b : Nat) (W : World) (e : Ending) (W' : World) : Prop := ∃ r : Nat, e = .returned (.int .u64 r) ∧ r < 18446744073709551616 ∧ r % 2 ^ w = appN o w a b ∧ W = W'
theorem pow_dvd {w : Nat} (h : w ≤ 64) : 2 ^ w ∣ 18446744073709551616 := Nat.pow_dvd_pow 2 h (n := 64)
theorem mod_pow {w : Nat} (h : w ≤ 64) (x : Nat) : x % 18446744073709551616 % 2 ^ w = x % 2 ^ w := Nat.mod_mod_of_dvd x (pow_dvd h)
theorem b2n_mod {p : Prop} [Decidable p] {w : Nat} (hw : 1 ≤ w) : b2n p % 2 ^ w = b2n p := Nat.mod_eq_of_lt (b2n_lt hw)
theorem b2n_small {p : Prop} [Decidable p] : b2n p < 18446744073709551616 := by unfold b2n; split <;> omega
section
variable (w a b : Nat) (W : World)
theorem op90 (h : w ≤ 64) : Calls Tryd.prog 90 #[.int .i64 w, .int .u64 a, .int .u64 b] W (OpPost 4 w a b W) := by
  have HM := Lib.hid (mod_pow h (a + b))
  clear h
  go_enter Tryd.func90, Tryd.ntmps90
  go_wp2_with fail
  go_ret
  exact ⟨(a + b) % 18446744073709551616, ret_i (by rw [IntKind.wrap_u64]; omega), Nat.mod_lt _ (by decide), HM.out, rfl⟩
theorem sub_raw {w a b : Nat} (h : w ≤ 64) (hb : b < 2 ^ w) : (a + (18446744073709551616 - b)) % 18446744073709551616 % 2 ^ w = appN 5 w a b := by
  rw [mod_pow h]
  show _ = (a + (2 ^ w - b)) % 2 ^ w
  obtain ⟨k, hk⟩ := pow_dvd h
  have h0 : 0 < 2 ^ w := Nat.two_pow_pos w
  have hk1 : 1 ≤ k := by
    cases k with
    | zero => simp at hk
    | succ k => omega
  have e : a + (18446744073709551616 - b) = a + (2 ^ w - b) + 2 ^ w * (k - 1) := by
    rw [hk, Nat.mul_sub, Nat.mul_one]
    have : 2 ^ w * 1 ≤ 2 ^ w * k := Nat.mul_le_mul_left _ hk1
    omega
  rw [e, Nat.add_mul_mod_self_left]
theorem op91 (h : w ≤ 64) (hb : b < 2 ^ w) : Calls Tryd.prog 91 #[.int .i64 w, .int .u64 a, .int .u64 b] W (OpPost 5 w a b W) := by
  have HM := Lib.hid (sub_raw (a := a) h hb)
  have hb2 : b < 18446744073709551616 := Nat.lt_of_lt_of_le hb (pow_le h)
  clear h hb
  go_enter Tryd.func91, Tryd.ntmps91
  go_wp2_with fail
  go_ret
  exact ⟨_, ret_i (by rw [IntKind.wrap_u64]; omega), Nat.mod_lt _ (by decide), HM.out, rfl⟩
theorem op92 (h : w ≤ 64) : Calls Tryd.prog 92 #[.int .i64 w, .int .u64 a, .int .u64 b] W (OpPost 6 w a b W) := by
  have HM := Lib.hid (mod_pow h (a * b))
  clear h
  go_enter Tryd.func92, Tryd.ntmps92
  go_wp2_with fail
  go_ret
  exact ⟨(a * b) % 18446744073709551616, ret_i (by rw [IntKind.wrap_u64, ← Int.natCast_mul]; omega), Nat.mod_lt _ (by decide), HM.out, rfl⟩
theorem op95 (h : w ≤ 64) (ha : a < 2 ^ w) (hb : b < 2 ^ w) : Calls Tryd.prog 95 #[.int .i64 w, .int .u64 a, .int .u64 b] W (OpPost 9 w a b W) := by
  have hl := pow_le h
  have HL : Hid (a &&& b < 2 ^ w) := Lib.hid (Nat.lt_of_le_of_lt Nat.and_le_left ha)
  have HB := Lib.hid (bits_and a b (by omega) (by omega))
  have HH := Lib.hid hl
  clear h ha hb hl
  go_enter Tryd.func95, Tryd.ntmps95
  go_wp2_with fail
  go_ret
  exact ⟨_, ret_i HB.out, Nat.lt_of_lt_of_le HL.out HH.out, Nat.mod_eq_of_lt HL.out, rfl⟩
theorem op96 (h : w ≤ 64) (ha : a < 2 ^ w) (hb : b < 2 ^ w) : Calls Tryd.prog 96 #[.int .i64 w, .int .u64 a, .int .u64 b] W (OpPost 10 w a b W) := by
  have hl := pow_le h
  have HL : Hid (a ||| b < 2 ^ w) := Lib.hid (Nat.or_lt_two_pow ha hb)
  have HB := Lib.hid (bits_or a b (by omega) (by omega))
  have HH := Lib.hid hl
  clear h ha hb hl
  go_enter Tryd.func96, Tryd.ntmps96
  go_wp2_with fail
  go_ret
  exact ⟨_, ret_i HB.out, Nat.lt_of_lt_of_le HL.out HH.out, Nat.mod_eq_of_lt HL.out, rfl⟩
theorem op97 (h : w ≤ 64) (ha : a < 2 ^ w) (hb : b < 2 ^ w) : Calls Tryd.prog 97 #[.int .i64 w, .int .u64 a, .int .u64 b] W (OpPost 11 w a b W) := by
  have hl := pow_le h
  have HL : Hid (a ^^^ b < 2 ^ w) := Lib.hid (Nat.xor_lt_two_pow ha hb)
  have HB := Lib.hid (bits_xor a b (by omega) (by omega))
  have HH := Lib.hid hl
  clear h ha hb hl
  go_enter Tryd.func97, Tryd.ntmps97
  go_wp2_with fail
  go_ret
  exact ⟨_, ret_i HB.out, Nat.lt_of_lt_of_le HL.out HH.out, Nat.mod_eq_of_lt HL.out, rfl⟩
theorem op101 (h1 : 1 ≤ w) : Calls Tryd.prog 101 #[.int .i64 w, .int .u64 a, .int .u64 b] W (OpPost 15 w a b W) := by
  have HM : Hid (b2n (a = b) % 2 ^ w = b2n (a = b)) := Lib.hid (b2n_mod h1)
  clear h1
  by_cases hc : a = b
  · have HC : Hid (b2n (a = b) = 1) := Lib.hid (if_pos hc)
    have d1 : ((a : Int) == b) = true := by simp; omega
    clear hc
    go_enter Tryd.func101, Tryd.ntmps101
    go_wp2_with (first | (go_at_call 109; refine (bit109 _ W).mono ?_; rintro e W' ⟨rfl, rfl⟩))
    go_ret
    exact ⟨_, ret_i (by rw [HC.out]; rfl), b2n_small, HM.out, rfl⟩
  · have HC : Hid (b2n (a = b) = 0) := Lib.hid (if_neg hc)
    have d1 : ((a : Int) == b) = false := by simp; omega
    clear hc
    go_enter Tryd.func101, Tryd.ntmps101
    go_wp2_with (first | (go_at_call 109; refine (bit109 _ W).mono ?_; rintro e W' ⟨rfl, rfl⟩))
    go_ret
    exact ⟨_, ret_i (by rw [HC.out]; rfl), b2n_small, HM.out, rfl⟩
theorem op102 (h1 : 1 ≤ w) : Calls Tryd.prog 102 #[.int .i64 w, .int .u64 a, .int .u64 b] W (OpPost 16 w a b W) := by
  have HM : Hid (b2n (a ≠ b) % 2 ^ w = b2n (a ≠ b)) := Lib.hid (b2n_mod h1)
  clear h1
  by_cases hc : a ≠ b
  · have HC : Hid (b2n (a ≠ b) = 1) := Lib.hid (if_pos hc)
    have d1 : ((a : Int) != b) = true := by simp; omega
    clear hc
    go_enter Tryd.func102, Tryd.ntmps102
    go_wp2_with (first | (go_at_call 109; refine (bit109 _ W).mono ?_; rintro e W' ⟨rfl, rfl⟩))
    go_ret
    exact ⟨_, ret_i (by rw [HC.out]; rfl), b2n_small, HM.out, rfl⟩
  · have HC : Hid (b2n (a ≠ b) = 0) := Lib.hid (if_neg hc)
    have d1 : ((a : Int) != b) = false := by simp; omega
    clear hc
    go_enter Tryd.func102, Tryd.ntmps102
    go_wp2_with (first | (go_at_call 109; refine (bit109 _ W).mono ?_; rintro e W' ⟨rfl, rfl⟩))
    go_ret
    exact ⟨_, ret_i (by rw [HC.out]; rfl), b2n_small, HM.out, rfl⟩
theorem op103 (h1 : 1 ≤ w) : Calls Tryd.prog 103 #[.int .i64 w, .int .u64 a, .int .u64 b] W (OpPost 17 w a b W) := by
  have HM : Hid (b2n (a < b) % 2 ^ w = b2n (a < b)) := Lib.hid (b2n_mod h1)
  clear h1
  by_cases hc : a < b
  · have HC : Hid (b2n (a < b) = 1) := Lib.hid (if_pos hc)
    have d1 : decide (a < b) = true := by simp; omega
    clear hc
    go_enter Tryd.func103, Tryd.ntmps103
    go_wp2_with (first | (go_at_call 109; refine (bit109 _ W).mono ?_; rintro e W' ⟨rfl, rfl⟩))
    go_ret
    exact ⟨_, ret_i (by rw [HC.out]; rfl), b2n_small, HM.out, rfl⟩
  · have HC : Hid (b2n (a < b) = 0) := Lib.hid (if_neg hc)
    have d1 : decide (a < b) = false := by simp; omega
    clear hc
    go_enter Tryd.func103, Tryd.ntmps103
    go_wp2_with (first | (go_at_call 109; refine (bit109 _ W).mono ?_; rintro e W' ⟨rfl, rfl⟩))
    go_ret
    exact ⟨_, ret_i (by rw [HC.out]; rfl), b2n_small, HM.out, rfl⟩
theorem op104 (h1 : 1 ≤ w) : Calls Tryd.prog 104 #[.int .i64 w, .int .u64 a, .int .u64 b] W (OpPost 18 w a b W) := by
  have HM : Hid (b2n (a ≤ b) % 2 ^ w = b2n (a ≤ b)) := Lib.hid (b2n_mod h1)
  clear h1
  by_cases hc : a ≤ b
  · have HC : Hid (b2n (a ≤ b) = 1) := Lib.hid (if_pos hc)
    have d1 : decide (a ≤ b) = true := by simp; omega
    clear hc
    go_enter Tryd.func104, Tryd.ntmps104
    go_wp2_with (first | (go_at_call 109; refine (bit109 _ W).mono ?_; rintro e W' ⟨rfl, rfl⟩))
    go_ret
    exact ⟨_, ret_i (by rw [HC.out]; rfl), b2n_small, HM.out, rfl⟩
  · have HC : Hid (b2n (a ≤ b) = 0) := Lib.hid (if_neg hc)
    have d1 : decide (a ≤ b) = false := by simp; omega
    clear hc
    go_enter Tryd.func104, Tryd.ntmps104
    go_wp2_with (first | (go_at_call 109; refine (bit109 _ W).mono ?_; rintro e W' ⟨rfl, rfl⟩))
    go_ret
    exact ⟨_, ret_i (by rw [HC.out]; rfl), b2n_small, HM.out, rfl⟩
end
end Go.Proofs.YtjhbabgcoemecaaDoor
