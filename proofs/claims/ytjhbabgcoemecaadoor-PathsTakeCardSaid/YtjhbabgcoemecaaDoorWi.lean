/- Walks: the reference's operators (package weepholeref09). -/
import Derived.Test.YtjhbabgcoemecaaDoorWh
namespace Go.Proofs.YtjhbabgcoemecaaDoor
open Go.RowKit
theorem not_mod {w a : Nat} (h : w ≤ 64) (ha : a < 2 ^ w) : (18446744073709551615 - a) % 2 ^ w = 2 ^ w - 1 - a := by
  have hl := pow_le h
  obtain ⟨k, hk⟩ := pow_dvd h
  have h0 : 0 < 2 ^ w := Nat.two_pow_pos w
  have hk1 : 1 ≤ k := by
    cases k with
    | zero => simp at hk
    | succ k => omega
  have e : 18446744073709551615 - a = (2 ^ w - 1 - a) + 2 ^ w * (k - 1) := by
    have e1 : 2 ^ w * (k - 1) = 2 ^ w * k - 2 ^ w := by rw [Nat.mul_sub, Nat.mul_one]
    have e2 : 2 ^ w * 1 ≤ 2 ^ w * k := Nat.mul_le_mul_left _ hk1
    omega
  rw [e, Nat.add_mul_mod_self_left, Nat.mod_eq_of_lt (by omega)]
theorem neg_mod {w a : Nat} (h : w ≤ 64) (ha : a < 2 ^ w) : (18446744073709551616 - a) % 18446744073709551616 % 2 ^ w = (2 ^ w - a) % 2 ^ w := by
  have hl := pow_le h
  obtain ⟨k, hk⟩ := pow_dvd h
  have h0 : 0 < 2 ^ w := Nat.two_pow_pos w
  have hk1 : 1 ≤ k := by
    cases k with
    | zero => simp at hk
    | succ k => omega
  rw [mod_pow h]
  have e : 18446744073709551616 - a = (2 ^ w - a) + 2 ^ w * (k - 1) := by
    have e1 : 2 ^ w * (k - 1) = 2 ^ w * k - 2 ^ w := by rw [Nat.mul_sub, Nat.mul_one]
    have e2 : 2 ^ w * 1 ≤ 2 ^ w * k := Nat.mul_le_mul_left _ hk1
    omega
  rw [e, Nat.add_mul_mod_self_left]
section
variable (w a b : Nat) (W : World)
theorem rest_7 (h : w ≤ 64) (ha : a < 2 ^ w) : Calls Tryd.prog 115 #[.int .u8 7, .int .i64 w, .int .u64 a, .int .u64 b] W (OpPost 7 w a b W) := by
  have hl := pow_le h
  by_cases hc : b = 0
  · subst hc
    have HL : Hid (18446744073709551615 % 2 ^ w = 2 ^ w - 1) := Lib.hid (not_mod h (Nat.two_pow_pos w))
    clear h ha hl
    go_enter Tryd.func115, Tryd.ntmps115
    go_wp2_with fail
    go_ret
    exact ⟨18446744073709551615, rfl, by decide, HL.out, rfl⟩
  · have HA : Hid (appN 7 w a b = a / b) := Lib.hid (if_neg hc)
    have HL : Hid (a / b < 2 ^ w) := Lib.hid (Nat.lt_of_le_of_lt (Nat.div_le_self _ _) ha)
    have HH := Lib.hid hl
    have d1 : ((b : Int) == 0) = false := by simp; omega
    have d2 : (b : Int) ≠ 0 := by omega
    clear h ha hl hc
    go_enter Tryd.func115, Tryd.ntmps115
    go_wp2_with fail
    go_ret
    exact ⟨a / b, ret_i (by rw [← Int.natCast_ediv]; exact wrap_u _ (Nat.lt_of_lt_of_le HL.out HH.out)), Nat.lt_of_lt_of_le HL.out HH.out, by rw [HA.out]; exact Nat.mod_eq_of_lt HL.out, rfl⟩
theorem rest_8 (h : w ≤ 64) (ha : a < 2 ^ w) : Calls Tryd.prog 115 #[.int .u8 8, .int .i64 w, .int .u64 a, .int .u64 b] W (OpPost 8 w a b W) := by
  have hl := pow_le h
  by_cases hc : b = 0
  · subst hc
    have HL := Lib.hid ha
    have HH := Lib.hid hl
    clear h ha hl
    go_enter Tryd.func115, Tryd.ntmps115
    go_wp2_with fail
    go_ret
    exact ⟨_, rfl, Nat.lt_of_lt_of_le HL.out HH.out, Nat.mod_eq_of_lt HL.out, rfl⟩
  · have HA : Hid (appN 8 w a b = a % b) := Lib.hid (if_neg hc)
    have HL : Hid (a % b < 2 ^ w) := Lib.hid (Nat.lt_of_le_of_lt (Nat.mod_le _ _) ha)
    have HH := Lib.hid hl
    have d1 : ((b : Int) == 0) = false := by simp; omega
    have d2 : (b : Int) ≠ 0 := by omega
    clear h ha hl hc
    go_enter Tryd.func115, Tryd.ntmps115
    go_wp2_with fail
    go_ret
    exact ⟨a % b, ret_i (by rw [Int.natCast_emod]), Nat.lt_of_lt_of_le HL.out HH.out, by rw [HA.out]; exact Nat.mod_eq_of_lt HL.out, rfl⟩
theorem rest_15 (h1 : 1 ≤ w) : Calls Tryd.prog 115 #[.int .u8 15, .int .i64 w, .int .u64 a, .int .u64 b] W (OpPost 15 w a b W) := by
  have HM : Hid (b2n (a = b) % 2 ^ w = b2n (a = b)) := Lib.hid (b2n_mod h1)
  clear h1
  by_cases hc : a = b
  · have HC : Hid (b2n (a = b) = 1) := Lib.hid (if_pos hc)
    have d1 : ((a : Int) == b) = true := by simp; omega
    clear hc
    go_enter Tryd.func115, Tryd.ntmps115
    go_wp2_with (first | (go_at_call 117; refine (bit117 W _).mono ?_; rintro e W' ⟨rfl, rfl⟩))
    go_ret
    exact ⟨_, ret_i (by rw [HC.out]; rfl), b2n_small, HM.out, rfl⟩
  · have HC : Hid (b2n (a = b) = 0) := Lib.hid (if_neg hc)
    have d1 : ((a : Int) == b) = false := by simp; omega
    clear hc
    go_enter Tryd.func115, Tryd.ntmps115
    go_wp2_with (first | (go_at_call 117; refine (bit117 W _).mono ?_; rintro e W' ⟨rfl, rfl⟩))
    go_ret
    exact ⟨_, ret_i (by rw [HC.out]; rfl), b2n_small, HM.out, rfl⟩
theorem rest_16 (h1 : 1 ≤ w) : Calls Tryd.prog 115 #[.int .u8 16, .int .i64 w, .int .u64 a, .int .u64 b] W (OpPost 16 w a b W) := by
  have HM : Hid (b2n (a ≠ b) % 2 ^ w = b2n (a ≠ b)) := Lib.hid (b2n_mod h1)
  clear h1
  by_cases hc : a ≠ b
  · have HC : Hid (b2n (a ≠ b) = 1) := Lib.hid (if_pos hc)
    have d1 : ((a : Int) != b) = true := by simp; omega
    clear hc
    go_enter Tryd.func115, Tryd.ntmps115
    go_wp2_with (first | (go_at_call 117; refine (bit117 W _).mono ?_; rintro e W' ⟨rfl, rfl⟩))
    go_ret
    exact ⟨_, ret_i (by rw [HC.out]; rfl), b2n_small, HM.out, rfl⟩
  · have HC : Hid (b2n (a ≠ b) = 0) := Lib.hid (if_neg hc)
    have d1 : ((a : Int) != b) = false := by simp; omega
    clear hc
    go_enter Tryd.func115, Tryd.ntmps115
    go_wp2_with (first | (go_at_call 117; refine (bit117 W _).mono ?_; rintro e W' ⟨rfl, rfl⟩))
    go_ret
    exact ⟨_, ret_i (by rw [HC.out]; rfl), b2n_small, HM.out, rfl⟩
theorem rest_17 (h1 : 1 ≤ w) : Calls Tryd.prog 115 #[.int .u8 17, .int .i64 w, .int .u64 a, .int .u64 b] W (OpPost 17 w a b W) := by
  have HM : Hid (b2n (a < b) % 2 ^ w = b2n (a < b)) := Lib.hid (b2n_mod h1)
  clear h1
  by_cases hc : a < b
  · have HC : Hid (b2n (a < b) = 1) := Lib.hid (if_pos hc)
    have d1 : decide (a < b) = true := by simp; omega
    clear hc
    go_enter Tryd.func115, Tryd.ntmps115
    go_wp2_with (first | (go_at_call 117; refine (bit117 W _).mono ?_; rintro e W' ⟨rfl, rfl⟩))
    go_ret
    exact ⟨_, ret_i (by rw [HC.out]; rfl), b2n_small, HM.out, rfl⟩
  · have HC : Hid (b2n (a < b) = 0) := Lib.hid (if_neg hc)
    have d1 : decide (a < b) = false := by simp; omega
    clear hc
    go_enter Tryd.func115, Tryd.ntmps115
    go_wp2_with (first | (go_at_call 117; refine (bit117 W _).mono ?_; rintro e W' ⟨rfl, rfl⟩))
    go_ret
    exact ⟨_, ret_i (by rw [HC.out]; rfl), b2n_small, HM.out, rfl⟩
theorem rest_18 (h1 : 1 ≤ w) : Calls Tryd.prog 115 #[.int .u8 18, .int .i64 w, .int .u64 a, .int .u64 b] W (OpPost 18 w a b W) := by
  have HM : Hid (b2n (a ≤ b) % 2 ^ w = b2n (a ≤ b)) := Lib.hid (b2n_mod h1)
  clear h1
  by_cases hc : a ≤ b
  · have HC : Hid (b2n (a ≤ b) = 1) := Lib.hid (if_pos hc)
    have d1 : decide (a ≤ b) = true := by simp; omega
    clear hc
    go_enter Tryd.func115, Tryd.ntmps115
    go_wp2_with (first | (go_at_call 117; refine (bit117 W _).mono ?_; rintro e W' ⟨rfl, rfl⟩))
    go_ret
    exact ⟨_, ret_i (by rw [HC.out]; rfl), b2n_small, HM.out, rfl⟩
  · have HC : Hid (b2n (a ≤ b) = 0) := Lib.hid (if_neg hc)
    have d1 : decide (a ≤ b) = false := by simp; omega
    clear hc
    go_enter Tryd.func115, Tryd.ntmps115
    go_wp2_with (first | (go_at_call 117; refine (bit117 W _).mono ?_; rintro e W' ⟨rfl, rfl⟩))
    go_ret
    exact ⟨_, ret_i (by rw [HC.out]; rfl), b2n_small, HM.out, rfl⟩
theorem rest_19 (h1 : 1 ≤ w) (h : w ≤ 64) (ha : a < 2 ^ w) (hb : b < 2 ^ w) : Calls Tryd.prog 115 #[.int .u8 19, .int .i64 w, .int .u64 a, .int .u64 b] W (OpPost 19 w a b W) := by
  have HM : Hid (b2n (sgn w a < sgn w b) % 2 ^ w = b2n (sgn w a < sgn w b)) := Lib.hid (b2n_mod h1)
  have HL := Lib.hid (less118 w a b W h1 h ha hb)
  by_cases hc : sgn w a < sgn w b
  · have HC : Hid (b2n (sgn w a < sgn w b) = 1) := Lib.hid (if_pos hc)
    have hd := decide_eq_true hc
    rw [hd] at HL
    clear hc hd h1 h ha hb
    go_enter Tryd.func115, Tryd.ntmps115
    go_wp2_with (first | (go_at_call 118; refine HL.out.mono ?_; rintro e W' ⟨rfl, rfl⟩) | (go_at_call 117; refine (bit117 W _).mono ?_; rintro e W' ⟨rfl, rfl⟩))
    go_ret
    exact ⟨_, ret_i (by rw [HC.out]; rfl), b2n_small, HM.out, rfl⟩
  · have HC : Hid (b2n (sgn w a < sgn w b) = 0) := Lib.hid (if_neg hc)
    have hd := decide_eq_false hc
    rw [hd] at HL
    clear hc hd h1 h ha hb
    go_enter Tryd.func115, Tryd.ntmps115
    go_wp2_with (first | (go_at_call 118; refine HL.out.mono ?_; rintro e W' ⟨rfl, rfl⟩) | (go_at_call 117; refine (bit117 W _).mono ?_; rintro e W' ⟨rfl, rfl⟩))
    go_ret
    exact ⟨_, ret_i (by rw [HC.out]; rfl), b2n_small, HM.out, rfl⟩
theorem rest_20 (h1 : 1 ≤ w) (h : w ≤ 64) (ha : a < 2 ^ w) (hb : b < 2 ^ w) : Calls Tryd.prog 115 #[.int .u8 20, .int .i64 w, .int .u64 a, .int .u64 b] W (OpPost 20 w a b W) := by
  have HM : Hid (b2n (sgn w a ≤ sgn w b) % 2 ^ w = b2n (sgn w a ≤ sgn w b)) := Lib.hid (b2n_mod h1)
  have HL := Lib.hid (less118 w b a W h1 h hb ha)
  by_cases hc : sgn w a ≤ sgn w b
  · have HC : Hid (b2n (sgn w a ≤ sgn w b) = 1) := Lib.hid (if_pos hc)
    have hd := decide_eq_false (Int.not_lt.2 hc)
    rw [hd] at HL
    clear hc hd h1 h ha hb
    go_enter Tryd.func115, Tryd.ntmps115
    go_wp2_with (first | (go_at_call 118; refine HL.out.mono ?_; rintro e W' ⟨rfl, rfl⟩) | (go_at_call 117; refine (bit117 W _).mono ?_; rintro e W' ⟨rfl, rfl⟩))
    go_ret
    exact ⟨_, ret_i (by rw [HC.out]; rfl), b2n_small, HM.out, rfl⟩
  · have HC : Hid (b2n (sgn w a ≤ sgn w b) = 0) := Lib.hid (if_neg hc)
    have hd := decide_eq_true (Int.not_le.1 hc)
    rw [hd] at HL
    clear hc hd h1 h ha hb
    go_enter Tryd.func115, Tryd.ntmps115
    go_wp2_with (first | (go_at_call 118; refine HL.out.mono ?_; rintro e W' ⟨rfl, rfl⟩) | (go_at_call 117; refine (bit117 W _).mono ?_; rintro e W' ⟨rfl, rfl⟩))
    go_ret
    exact ⟨_, ret_i (by rw [HC.out]; rfl), b2n_small, HM.out, rfl⟩
theorem result_2 (h : w ≤ 64) (ha : a < 2 ^ w) (c : Int) : Calls Tryd.prog 112 #[.int .u8 2, .int .i64 w, .int .u64 a, .int .u64 b, .int .u64 c] W (OpPost 2 w a b W) := by
  have hl := pow_le h
  have HB : Hid (bits .xor .u64 IntKind.u64.max (a : Int) = ((18446744073709551615 - a : Nat) : Int)) := Lib.hid (by rw [u64_max, bits_xor _ _ (by decide) (by omega), Nat.xor_comm, xor_all _ (by omega)])
  have HM := Lib.hid (not_mod h ha)
  clear h ha hl
  go_enter Tryd.func112, Tryd.ntmps112
  go_wp2_with fail
  go_ret
  exact ⟨_, ret_i HB.out, by omega, HM.out, rfl⟩
theorem result_3 (h : w ≤ 64) (ha : a < 2 ^ w) (c : Int) : Calls Tryd.prog 112 #[.int .u8 3, .int .i64 w, .int .u64 a, .int .u64 b, .int .u64 c] W (OpPost 3 w a b W) := by
  have hl := pow_le h
  have HB : Hid (IntKind.u64.wrap (-(a : Int)) = (((18446744073709551616 - a) % 18446744073709551616 : Nat) : Int)) := Lib.hid (by rw [IntKind.wrap_u64]; omega)
  have HM := Lib.hid (neg_mod h ha)
  clear h ha hl
  go_enter Tryd.func112, Tryd.ntmps112
  go_wp2_with fail
  go_ret
  exact ⟨_, ret_i HB.out, Nat.mod_lt _ (by decide), HM.out, rfl⟩
theorem result_4 (h : w ≤ 64) (c : Int) : Calls Tryd.prog 112 #[.int .u8 4, .int .i64 w, .int .u64 a, .int .u64 b, .int .u64 c] W (OpPost 4 w a b W) := by
  have HM := Lib.hid (mod_pow h (a + b))
  clear h
  go_enter Tryd.func112, Tryd.ntmps112
  go_wp2_with fail
  go_ret
  exact ⟨(a + b) % 18446744073709551616, ret_i (by rw [IntKind.wrap_u64]; omega), Nat.mod_lt _ (by decide), HM.out, rfl⟩
theorem result_5 (h : w ≤ 64) (hb : b < 2 ^ w) (c : Int) : Calls Tryd.prog 112 #[.int .u8 5, .int .i64 w, .int .u64 a, .int .u64 b, .int .u64 c] W (OpPost 5 w a b W) := by
  have HM := Lib.hid (sub_raw (a := a) h hb)
  have hb2 : b < 18446744073709551616 := Nat.lt_of_lt_of_le hb (pow_le h)
  clear h hb
  go_enter Tryd.func112, Tryd.ntmps112
  go_wp2_with fail
  go_ret
  exact ⟨_, ret_i (by rw [IntKind.wrap_u64]; omega), Nat.mod_lt _ (by decide), HM.out, rfl⟩
theorem result_6 (h : w ≤ 64) (c : Int) : Calls Tryd.prog 112 #[.int .u8 6, .int .i64 w, .int .u64 a, .int .u64 b, .int .u64 c] W (OpPost 6 w a b W) := by
  have HM := Lib.hid (mod_pow h (a * b))
  clear h
  go_enter Tryd.func112, Tryd.ntmps112
  go_wp2_with fail
  go_ret
  exact ⟨(a * b) % 18446744073709551616, ret_i (by rw [IntKind.wrap_u64, ← Int.natCast_mul]; omega), Nat.mod_lt _ (by decide), HM.out, rfl⟩
theorem result_9 (h : w ≤ 64) (ha : a < 2 ^ w) (hb : b < 2 ^ w) (c : Int) : Calls Tryd.prog 112 #[.int .u8 9, .int .i64 w, .int .u64 a, .int .u64 b, .int .u64 c] W (OpPost 9 w a b W) := by
  have hl := pow_le h
  have HL : Hid (a &&& b < 2 ^ w) := Lib.hid (Nat.lt_of_le_of_lt Nat.and_le_left ha)
  have HB := Lib.hid (bits_and a b (by omega) (by omega))
  have HH := Lib.hid hl
  clear h ha hb hl
  go_enter Tryd.func112, Tryd.ntmps112
  go_wp2_with fail
  go_ret
  exact ⟨_, ret_i HB.out, Nat.lt_of_lt_of_le HL.out HH.out, Nat.mod_eq_of_lt HL.out, rfl⟩
theorem result_10 (h : w ≤ 64) (ha : a < 2 ^ w) (hb : b < 2 ^ w) (c : Int) : Calls Tryd.prog 112 #[.int .u8 10, .int .i64 w, .int .u64 a, .int .u64 b, .int .u64 c] W (OpPost 10 w a b W) := by
  have hl := pow_le h
  have HL : Hid (a ||| b < 2 ^ w) := Lib.hid (Nat.or_lt_two_pow ha hb)
  have HB := Lib.hid (bits_or a b (by omega) (by omega))
  have HH := Lib.hid hl
  clear h ha hb hl
  go_enter Tryd.func112, Tryd.ntmps112
  go_wp2_with fail
  go_ret
  exact ⟨_, ret_i HB.out, Nat.lt_of_lt_of_le HL.out HH.out, Nat.mod_eq_of_lt HL.out, rfl⟩
theorem result_11 (h : w ≤ 64) (ha : a < 2 ^ w) (hb : b < 2 ^ w) (c : Int) : Calls Tryd.prog 112 #[.int .u8 11, .int .i64 w, .int .u64 a, .int .u64 b, .int .u64 c] W (OpPost 11 w a b W) := by
  have hl := pow_le h
  have HL : Hid (a ^^^ b < 2 ^ w) := Lib.hid (Nat.xor_lt_two_pow ha hb)
  have HB := Lib.hid (bits_xor a b (by omega) (by omega))
  have HH := Lib.hid hl
  clear h ha hb hl
  go_enter Tryd.func112, Tryd.ntmps112
  go_wp2_with fail
  go_ret
  exact ⟨_, ret_i HB.out, Nat.lt_of_lt_of_le HL.out HH.out, Nat.mod_eq_of_lt HL.out, rfl⟩
theorem result_12 (h1 : 1 ≤ w) (h : w ≤ 64) (ha : a < 2 ^ w) (hb : b < 2 ^ w) (c : Int) : Calls Tryd.prog 112 #[.int .u8 12, .int .i64 w, .int .u64 a, .int .u64 b, .int .u64 c] W (OpPost 12 w a b W) := by
  have hl := pow_le h
  have HL : Hid (appN 12 w a b < 2 ^ w) := Lib.hid (appN_lt h1 ha hb)
  have HH := Lib.hid hl
  have HS := Lib.hid (shifted_shl w a b W h1 h ha (by omega))
  have HE := Lib.hid (shl_ref (b := b) ha)
  rw [HE.out] at HS
  clear h1 h ha hb hl HE
  go_enter Tryd.func112, Tryd.ntmps112
  go_wp2_with (go_at_call 114; refine HS.out.mono ?_; rintro e W' ⟨rfl, rfl⟩)
  go_ret
  exact ⟨_, rfl, Nat.lt_of_lt_of_le HL.out HH.out, Nat.mod_eq_of_lt HL.out, rfl⟩
theorem result_13 (h1 : 1 ≤ w) (h : w ≤ 64) (ha : a < 2 ^ w) (hb : b < 2 ^ w) (c : Int) : Calls Tryd.prog 112 #[.int .u8 13, .int .i64 w, .int .u64 a, .int .u64 b, .int .u64 c] W (OpPost 13 w a b W) := by
  have hl := pow_le h
  have HL : Hid (appN 13 w a b < 2 ^ w) := Lib.hid (appN_lt h1 ha hb)
  have HH := Lib.hid hl
  have HS := Lib.hid (shifted_shr w a b W h1 h ha (by omega))
  have HE := Lib.hid (shr_ref (b := b) ha)
  rw [HE.out] at HS
  clear h1 h ha hb hl HE
  go_enter Tryd.func112, Tryd.ntmps112
  go_wp2_with (go_at_call 114; refine HS.out.mono ?_; rintro e W' ⟨rfl, rfl⟩)
  go_ret
  exact ⟨_, rfl, Nat.lt_of_lt_of_le HL.out HH.out, Nat.mod_eq_of_lt HL.out, rfl⟩
theorem result_14 (h1 : 1 ≤ w) (h : w ≤ 64) (ha : a < 2 ^ w) (hb : b < 2 ^ w) (c : Int) : Calls Tryd.prog 112 #[.int .u8 14, .int .i64 w, .int .u64 a, .int .u64 b, .int .u64 c] W (OpPost 14 w a b W) := by
  have hl := pow_le h
  have HL : Hid (appN 14 w a b < 2 ^ w) := Lib.hid (appN_lt h1 ha hb)
  have HH := Lib.hid hl
  by_cases ht : 2 ^ (w - 1) ≤ a
  · have HS := Lib.hid (shifted_sarh w a b W h1 h ha (by omega) ht)
    have HE := Lib.hid (sar_high (b := b) h1 h ht ha)
    rw [HE.out] at HS
    clear h1 h ha hb hl HE
    go_enter Tryd.func112, Tryd.ntmps112
    go_wp2_with (go_at_call 114; refine HS.out.mono ?_; rintro e W' ⟨rfl, rfl⟩)
    go_ret
    exact ⟨_, rfl, Nat.lt_of_lt_of_le HL.out HH.out, Nat.mod_eq_of_lt HL.out, rfl⟩
  · have HS := Lib.hid (shifted_sarl w a b W h1 h ha (by omega) ht)
    have HE := Lib.hid (sar_low (b := b) h1 h (Nat.not_le.1 ht))
    rw [HE.out] at HS
    clear h1 h ha hb hl HE
    go_enter Tryd.func112, Tryd.ntmps112
    go_wp2_with (go_at_call 114; refine HS.out.mono ?_; rintro e W' ⟨rfl, rfl⟩)
    go_ret
    exact ⟨_, rfl, Nat.lt_of_lt_of_le HL.out HH.out, Nat.mod_eq_of_lt HL.out, rfl⟩
theorem result_7 (h : w ≤ 64) (ha : a < 2 ^ w) (c : Int) : Calls Tryd.prog 112 #[.int .u8 7, .int .i64 w, .int .u64 a, .int .u64 b, .int .u64 c] W (OpPost 7 w a b W) := by
  have HS := Lib.hid (rest_7 w a b W h ha)
  clear h ha
  go_enter Tryd.func112, Tryd.ntmps112
  go_wp2_with (go_at_call 115; refine HS.out.mono ?_; rintro e W' ⟨r, rfl, hr, hm, rfl⟩; have HR := Lib.hid hr; have HM := Lib.hid hm; clear hr hm)
  go_ret
  exact ⟨_, rfl, HR.out, HM.out, rfl⟩
theorem result_8 (h : w ≤ 64) (ha : a < 2 ^ w) (c : Int) : Calls Tryd.prog 112 #[.int .u8 8, .int .i64 w, .int .u64 a, .int .u64 b, .int .u64 c] W (OpPost 8 w a b W) := by
  have HS := Lib.hid (rest_8 w a b W h ha)
  clear h ha
  go_enter Tryd.func112, Tryd.ntmps112
  go_wp2_with (go_at_call 115; refine HS.out.mono ?_; rintro e W' ⟨r, rfl, hr, hm, rfl⟩; have HR := Lib.hid hr; have HM := Lib.hid hm; clear hr hm)
  go_ret
  exact ⟨_, rfl, HR.out, HM.out, rfl⟩
theorem result_15 (h1 : 1 ≤ w) (c : Int) : Calls Tryd.prog 112 #[.int .u8 15, .int .i64 w, .int .u64 a, .int .u64 b, .int .u64 c] W (OpPost 15 w a b W) := by
  have HS := Lib.hid (rest_15 w a b W h1)
  clear h1
  go_enter Tryd.func112, Tryd.ntmps112
  go_wp2_with (go_at_call 115; refine HS.out.mono ?_; rintro e W' ⟨r, rfl, hr, hm, rfl⟩; have HR := Lib.hid hr; have HM := Lib.hid hm; clear hr hm)
  go_ret
  exact ⟨_, rfl, HR.out, HM.out, rfl⟩
theorem result_16 (h1 : 1 ≤ w) (c : Int) : Calls Tryd.prog 112 #[.int .u8 16, .int .i64 w, .int .u64 a, .int .u64 b, .int .u64 c] W (OpPost 16 w a b W) := by
  have HS := Lib.hid (rest_16 w a b W h1)
  clear h1
  go_enter Tryd.func112, Tryd.ntmps112
  go_wp2_with (go_at_call 115; refine HS.out.mono ?_; rintro e W' ⟨r, rfl, hr, hm, rfl⟩; have HR := Lib.hid hr; have HM := Lib.hid hm; clear hr hm)
  go_ret
  exact ⟨_, rfl, HR.out, HM.out, rfl⟩
theorem result_17 (h1 : 1 ≤ w) (c : Int) : Calls Tryd.prog 112 #[.int .u8 17, .int .i64 w, .int .u64 a, .int .u64 b, .int .u64 c] W (OpPost 17 w a b W) := by
  have HS := Lib.hid (rest_17 w a b W h1)
  clear h1
  go_enter Tryd.func112, Tryd.ntmps112
  go_wp2_with (go_at_call 115; refine HS.out.mono ?_; rintro e W' ⟨r, rfl, hr, hm, rfl⟩; have HR := Lib.hid hr; have HM := Lib.hid hm; clear hr hm)
  go_ret
  exact ⟨_, rfl, HR.out, HM.out, rfl⟩
theorem result_18 (h1 : 1 ≤ w) (c : Int) : Calls Tryd.prog 112 #[.int .u8 18, .int .i64 w, .int .u64 a, .int .u64 b, .int .u64 c] W (OpPost 18 w a b W) := by
  have HS := Lib.hid (rest_18 w a b W h1)
  clear h1
  go_enter Tryd.func112, Tryd.ntmps112
  go_wp2_with (go_at_call 115; refine HS.out.mono ?_; rintro e W' ⟨r, rfl, hr, hm, rfl⟩; have HR := Lib.hid hr; have HM := Lib.hid hm; clear hr hm)
  go_ret
  exact ⟨_, rfl, HR.out, HM.out, rfl⟩
theorem result_19 (h1 : 1 ≤ w) (h : w ≤ 64) (ha : a < 2 ^ w) (hb : b < 2 ^ w) (c : Int) : Calls Tryd.prog 112 #[.int .u8 19, .int .i64 w, .int .u64 a, .int .u64 b, .int .u64 c] W (OpPost 19 w a b W) := by
  have HS := Lib.hid (rest_19 w a b W h1 h ha hb)
  clear h1 h ha hb
  go_enter Tryd.func112, Tryd.ntmps112
  go_wp2_with (go_at_call 115; refine HS.out.mono ?_; rintro e W' ⟨r, rfl, hr, hm, rfl⟩; have HR := Lib.hid hr; have HM := Lib.hid hm; clear hr hm)
  go_ret
  exact ⟨_, rfl, HR.out, HM.out, rfl⟩
theorem result_20 (h1 : 1 ≤ w) (h : w ≤ 64) (ha : a < 2 ^ w) (hb : b < 2 ^ w) (c : Int) : Calls Tryd.prog 112 #[.int .u8 20, .int .i64 w, .int .u64 a, .int .u64 b, .int .u64 c] W (OpPost 20 w a b W) := by
  have HS := Lib.hid (rest_20 w a b W h1 h ha hb)
  clear h1 h ha hb
  go_enter Tryd.func112, Tryd.ntmps112
  go_wp2_with (go_at_call 115; refine HS.out.mono ?_; rintro e W' ⟨r, rfl, hr, hm, rfl⟩; have HR := Lib.hid hr; have HM := Lib.hid hm; clear hr hm)
  go_ret
  exact ⟨_, rfl, HR.out, HM.out, rfl⟩
end
end Go.Proofs.YtjhbabgcoemecaaDoor
