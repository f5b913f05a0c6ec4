/- Walks: the other operators of package word. -/
import Derived.Test.YtjhbabgcoemecaaDoorWb
namespace Go.Proofs.YtjhbabgcoemecaaDoor
open Go.RowKit
theorem two_pow_cast (b : Nat) : (2 : Int) ^ b = ((2 ^ b : Nat) : Int) := by simp
theorem wrap_toNat (x : Int) : IntKind.u64.wrap x = (((x % 18446744073709551616).toNat : Nat) : Int) ∧ (x % 18446744073709551616).toNat < 18446744073709551616 := by
  rw [IntKind.wrap_u64]; omega
theorem sar_mod {w a b : Nat} (h : w ≤ 64) : ((sgn w a / (2 : Int) ^ (min b 63)) % 18446744073709551616).toNat % 2 ^ w = appN 14 w a b := by
  show _ = sarN w a b
  unfold sarN
  generalize sgn w a / (2 : Int) ^ (min b 63) = x
  have hp : (0 : Int) < (2 : Int) ^ w := Int.pow_pos (by decide)
  have h0 : 0 ≤ x % 18446744073709551616 := Int.emod_nonneg _ (by decide)
  have h1 : 0 ≤ x % (2 : Int) ^ w := Int.emod_nonneg _ (Int.ne_of_gt hp)
  apply Int.ofNat.inj
  show (((x % 18446744073709551616).toNat % 2 ^ w : Nat) : Int) = (((x % (2 : Int) ^ w).toNat : Nat) : Int)
  rw [Int.natCast_emod, Int.toNat_of_nonneg h0, Int.toNat_of_nonneg h1, ← two_pow_cast]
  have hd : (2 : Int) ^ w ∣ 18446744073709551616 := by
    rw [two_pow_cast]
    exact Int.natCast_dvd_natCast.2 (pow_dvd h)
  exact Int.emod_emod_of_dvd x hd
section
variable (w a b : Nat) (W : World)
theorem op93 (h : w ≤ 64) (ha : a < 2 ^ w) : Calls Tryd.prog 93 #[.int .i64 w, .int .u64 a, .int .u64 b] W (OpPost 7 w a b W) := by
  have hl := pow_le h
  have h0 : 0 < 2 ^ w := Nat.two_pow_pos w
  by_cases hc : b = 0
  · subst hc
    have HM := Lib.hid (mask82 w W h)
    have HL : Hid (2 ^ w - 1 < 2 ^ w) := Lib.hid (by omega)
    have HH := Lib.hid hl
    clear h ha hl h0
    go_enter Tryd.func93, Tryd.ntmps93
    go_wp2_with (first | (go_at_call 82; refine HM.out.mono ?_; rintro e W' ⟨rfl, rfl⟩))
    go_ret
    exact ⟨_, rfl, Nat.lt_of_lt_of_le HL.out HH.out, Nat.mod_eq_of_lt HL.out, rfl⟩
  · have HA : Hid (appN 7 w a b = a / b) := Lib.hid (if_neg hc)
    have HL : Hid (a / b < 2 ^ w) := Lib.hid (Nat.lt_of_le_of_lt (Nat.div_le_self _ _) ha)
    have HH := Lib.hid hl
    have d1 : ((b : Int) == 0) = false := by simp; omega
    have d2 : (b : Int) ≠ 0 := by omega
    clear h ha hl h0 hc
    go_enter Tryd.func93, Tryd.ntmps93
    go_wp2_with fail
    go_ret
    exact ⟨a / b, ret_i (by rw [← Int.natCast_ediv]; exact wrap_u _ (Nat.lt_of_lt_of_le HL.out HH.out)), Nat.lt_of_lt_of_le HL.out HH.out, by rw [HA.out]; exact Nat.mod_eq_of_lt HL.out, rfl⟩
theorem op94 (h : w ≤ 64) (ha : a < 2 ^ w) : Calls Tryd.prog 94 #[.int .i64 w, .int .u64 a, .int .u64 b] W (OpPost 8 w a b W) := by
  have hl := pow_le h
  by_cases hc : b = 0
  · subst hc
    have HL := Lib.hid ha
    have HH := Lib.hid hl
    clear h ha hl
    go_enter Tryd.func94, Tryd.ntmps94
    go_wp2_with fail
    go_ret
    exact ⟨_, rfl, Nat.lt_of_lt_of_le HL.out HH.out, Nat.mod_eq_of_lt HL.out, rfl⟩
  · have HA : Hid (appN 8 w a b = a % b) := Lib.hid (if_neg hc)
    have HL : Hid (a % b < 2 ^ w) := Lib.hid (Nat.lt_of_le_of_lt (Nat.mod_le _ _) ha)
    have HH := Lib.hid hl
    have d1 : ((b : Int) == 0) = false := by simp; omega
    have d2 : (b : Int) ≠ 0 := by omega
    clear h ha hl hc
    go_enter Tryd.func94, Tryd.ntmps94
    go_wp2_with fail
    go_ret
    exact ⟨a % b, ret_i (by rw [Int.natCast_emod]), Nat.lt_of_lt_of_le HL.out HH.out, by rw [HA.out]; exact Nat.mod_eq_of_lt HL.out, rfl⟩
theorem op98 (h : w ≤ 64) : Calls Tryd.prog 98 #[.int .i64 w, .int .u64 a, .int .u64 b] W (OpPost 12 w a b W) := by
  by_cases hc : w ≤ b
  · have HA : Hid (appN 12 w a b = 0) := Lib.hid (if_pos hc)
    have hw : (w : Int) ≤ 64 := by omega
    go_enter Tryd.func98, Tryd.ntmps98
    go_wp2_with fail
    go_ret
    exact ⟨0, rfl, by decide, by rw [HA.out]; exact Nat.zero_mod _, rfl⟩
  · have HA : Hid (appN 12 w a b = a * 2 ^ b % 2 ^ w) := Lib.hid (if_neg hc)
    have HM := Lib.hid (mod_pow h (a * 2 ^ b))
    have hb : (b : Int) < w := by omega
    have hw : (w : Int) ≤ 64 := by omega
    have hb2 : (b : Int) ≤ 64 := by omega
    go_enter Tryd.func98, Tryd.ntmps98
    go_wp2_with fail
    go_ret
    exact ⟨a * 2 ^ b % 18446744073709551616, ret_i (by rw [IntKind.wrap_u64, two_pow_cast, ← Int.natCast_mul]; omega), Nat.mod_lt _ (by decide), HM.out.trans HA.out.symm, rfl⟩
theorem op99 (h : w ≤ 64) (ha : a < 2 ^ w) : Calls Tryd.prog 99 #[.int .i64 w, .int .u64 a, .int .u64 b] W (OpPost 13 w a b W) := by
  have hl := pow_le h
  by_cases hc : w ≤ b
  · have HA : Hid (appN 13 w a b = 0) := Lib.hid (if_pos hc)
    have hw : (w : Int) ≤ 64 := by omega
    clear ha
    go_enter Tryd.func99, Tryd.ntmps99
    go_wp2_with fail
    go_ret
    exact ⟨0, rfl, by decide, by rw [HA.out]; exact Nat.zero_mod _, rfl⟩
  · have HA : Hid (appN 13 w a b = a / 2 ^ b) := Lib.hid (if_neg hc)
    have HL : Hid (a / 2 ^ b < 2 ^ w) := Lib.hid (Nat.lt_of_le_of_lt (Nat.div_le_self _ _) ha)
    have HH := Lib.hid hl
    have hb : (b : Int) < w := by omega
    have hw : (w : Int) ≤ 64 := by omega
    have hb2 : (b : Int) ≤ 64 := by omega
    clear ha hl
    go_enter Tryd.func99, Tryd.ntmps99
    go_wp2_with fail
    go_ret
    exact ⟨a / 2 ^ b, ret_i (by rw [two_pow_cast, ← Int.natCast_ediv]), Nat.lt_of_lt_of_le HL.out HH.out, by rw [HA.out]; exact Nat.mod_eq_of_lt HL.out, rfl⟩
theorem op100 (h1 : 1 ≤ w) (h : w ≤ 64) (ha : a < 2 ^ w) : Calls Tryd.prog 100 #[.int .i64 w, .int .u64 a, .int .u64 b] W (OpPost 14 w a b W) := by
  have HS := Lib.hid (signed108 w a W h1 h ha)
  have HM := Lib.hid (sar_mod (a := a) (b := b) h)
  have HT := Lib.hid (wrap_toNat (sgn w a / (2 : Int) ^ (min b 63)))
  by_cases hb : 63 < b
  · have HB : Hid (min b 63 = 63) := Lib.hid (by omega)
    have hbi : (63 : Int) < b := by omega
    clear ha hb
    go_enter Tryd.func100, Tryd.ntmps100
    go_wp2_with (first | (go_at_call 108; refine HS.out.mono ?_; rintro e W' ⟨rfl, rfl⟩))
    go_ret
    exact ⟨_, ret_i (by rw [← HT.out.1, HB.out]; rfl), HT.out.2, HM.out, rfl⟩
  · have HB : Hid (min b 63 = b) := Lib.hid (by omega)
    have hbi : (b : Int) ≤ 63 := by omega
    clear ha hb
    go_enter Tryd.func100, Tryd.ntmps100
    go_wp2_with (first | (go_at_call 108; refine HS.out.mono ?_; rintro e W' ⟨rfl, rfl⟩))
    go_ret
    exact ⟨_, ret_i (by rw [← HT.out.1, HB.out]), HT.out.2, HM.out, rfl⟩
theorem op105 (h1 : 1 ≤ w) (h : w ≤ 64) (ha : a < 2 ^ w) (hb : b < 2 ^ w) : Calls Tryd.prog 105 #[.int .i64 w, .int .u64 a, .int .u64 b] W (OpPost 19 w a b W) := by
  have HM : Hid (b2n (sgn w a < sgn w b) % 2 ^ w = b2n (sgn w a < sgn w b)) := Lib.hid (b2n_mod h1)
  have HSA := Lib.hid (signed108 w a W h1 h ha)
  have HSB := Lib.hid (signed108 w b W h1 h hb)
  by_cases hc : sgn w a < sgn w b
  · have HC : Hid (b2n (sgn w a < sgn w b) = 1) := Lib.hid (if_pos hc)
    clear h1 h ha hb
    have HO : ∀ r, Hid (b2n (sgn w a < sgn w b) = r) → Hid (OpPost 19 w a b W (.returned (.int .u64 (r : Nat))) W) := fun r hr => Lib.hid ⟨b2n (sgn w a < sgn w b), by rw [hr.out], b2n_small, HM.out, rfl⟩
    clear HM
    generalize sgn w a = x at *
    generalize sgn w b = y at *
    go_enter Tryd.func105, Tryd.ntmps105
    go_wp2_with (first | (go_at_call 108; first | ((with_reducible refine HSA.out.mono ?_); rintro e W' ⟨rfl, rfl⟩) | ((with_reducible refine HSB.out.mono ?_); rintro e W' ⟨rfl, rfl⟩)) | (go_at_call 109; refine (bit109 _ W).mono ?_; rintro e W' ⟨rfl, rfl⟩))
    go_ret
    exact (HO _ HC).out
  · have HC : Hid (b2n (sgn w a < sgn w b) = 0) := Lib.hid (if_neg hc)
    clear h1 h ha hb
    have HO : ∀ r, Hid (b2n (sgn w a < sgn w b) = r) → Hid (OpPost 19 w a b W (.returned (.int .u64 (r : Nat))) W) := fun r hr => Lib.hid ⟨b2n (sgn w a < sgn w b), by rw [hr.out], b2n_small, HM.out, rfl⟩
    clear HM
    generalize sgn w a = x at *
    generalize sgn w b = y at *
    go_enter Tryd.func105, Tryd.ntmps105
    go_wp2_with (first | (go_at_call 108; first | ((with_reducible refine HSA.out.mono ?_); rintro e W' ⟨rfl, rfl⟩) | ((with_reducible refine HSB.out.mono ?_); rintro e W' ⟨rfl, rfl⟩)) | (go_at_call 109; refine (bit109 _ W).mono ?_; rintro e W' ⟨rfl, rfl⟩))
    go_ret
    exact (HO _ HC).out
theorem op106 (h1 : 1 ≤ w) (h : w ≤ 64) (ha : a < 2 ^ w) (hb : b < 2 ^ w) : Calls Tryd.prog 106 #[.int .i64 w, .int .u64 a, .int .u64 b] W (OpPost 20 w a b W) := by
  have HM : Hid (b2n (sgn w a ≤ sgn w b) % 2 ^ w = b2n (sgn w a ≤ sgn w b)) := Lib.hid (b2n_mod h1)
  have HSA := Lib.hid (signed108 w a W h1 h ha)
  have HSB := Lib.hid (signed108 w b W h1 h hb)
  by_cases hc : sgn w a ≤ sgn w b
  · have HC : Hid (b2n (sgn w a ≤ sgn w b) = 1) := Lib.hid (if_pos hc)
    clear h1 h ha hb
    have HO : ∀ r, Hid (b2n (sgn w a ≤ sgn w b) = r) → Hid (OpPost 20 w a b W (.returned (.int .u64 (r : Nat))) W) := fun r hr => Lib.hid ⟨b2n (sgn w a ≤ sgn w b), by rw [hr.out], b2n_small, HM.out, rfl⟩
    clear HM
    generalize sgn w a = x at *
    generalize sgn w b = y at *
    go_enter Tryd.func106, Tryd.ntmps106
    go_wp2_with (first | (go_at_call 108; first | ((with_reducible refine HSA.out.mono ?_); rintro e W' ⟨rfl, rfl⟩) | ((with_reducible refine HSB.out.mono ?_); rintro e W' ⟨rfl, rfl⟩)) | (go_at_call 109; refine (bit109 _ W).mono ?_; rintro e W' ⟨rfl, rfl⟩))
    go_ret
    exact (HO _ HC).out
  · have HC : Hid (b2n (sgn w a ≤ sgn w b) = 0) := Lib.hid (if_neg hc)
    clear h1 h ha hb
    have HO : ∀ r, Hid (b2n (sgn w a ≤ sgn w b) = r) → Hid (OpPost 20 w a b W (.returned (.int .u64 (r : Nat))) W) := fun r hr => Lib.hid ⟨b2n (sgn w a ≤ sgn w b), by rw [hr.out], b2n_small, HM.out, rfl⟩
    clear HM
    generalize sgn w a = x at *
    generalize sgn w b = y at *
    go_enter Tryd.func106, Tryd.ntmps106
    go_wp2_with (first | (go_at_call 108; first | ((with_reducible refine HSA.out.mono ?_); rintro e W' ⟨rfl, rfl⟩) | ((with_reducible refine HSB.out.mono ?_); rintro e W' ⟨rfl, rfl⟩)) | (go_at_call 109; refine (bit109 _ W).mono ?_; rintro e W' ⟨rfl, rfl⟩))
    go_ret
    exact (HO _ HC).out
end
end Go.Proofs.YtjhbabgcoemecaaDoor
