/- Walks: the reference's words (package weepholeref09). -/
import Derived.Test.YtjhbabgcoemecaaDoorWc
namespace Go.Proofs.YtjhbabgcoemecaaDoor
open Go.RowKit
section
variable (w a b : Nat) (W : World)
theorem check110_ok (h1 : 1 ≤ w) (h : w ≤ 64) : Calls Tryd.prog 110 #[.int .i64 w] W fun e W' => e = .returned (.int .i64 0) ∧ W = W' := by
  have d1 : decide ((w : Int) < 1) = false := by simp; omega
  have d2 : decide (64 < (w : Int)) = false := by simp; omega
  go_enter Tryd.func110, Tryd.ntmps110
  go_wp2_with fail
  go_ret
  exact ⟨rfl, rfl⟩
theorem trim111 (h : w ≤ 64) (ha : a < 18446744073709551616) : Calls Tryd.prog 111 #[.int .i64 w, .int .u64 a] W fun e W' => e = .returned (.int .u64 ((a % 2 ^ w : Nat) : Int)) ∧ W = W' := by
  by_cases hw : w = 64
  · have HM : Hid (((a % 2 ^ w : Nat) : Int) = a) := Lib.hid (by rw [hw, Nat.mod_eq_of_lt ha])
    have d1 : ((w : Int) == 64) = true := by simp; omega
    clear hw ha h
    go_enter Tryd.func111, Tryd.ntmps111
    go_wp2_with fail
    go_ret
    exact ⟨by rw [HM.out]; rfl, rfl⟩
  · have d1 : ((w : Int) == 64) = false := by simp; omega
    have hp : 0 < 2 ^ w := Nat.two_pow_pos w
    have hlt : 2 ^ w < 18446744073709551616 := by
      have : 2 ^ w ≤ 2 ^ 63 := Nat.pow_le_pow_right (by decide) (by omega)
      omega
    have HW : IntKind.u64.wrap ((2 : Int) ^ w) = ((2 ^ w : Nat) : Int) := by rw [two_pow_cast]; exact wrap_u _ hlt
    have HN : (2 : Int) ^ w ≠ 0 := by rw [two_pow_cast]; omega
    have HE : ((2 : Int) ^ w == 0) = false := by simpa using HN
    have hwl : (w : Int) ≤ 64 := by omega
    have HP : (0 : Int) < ((2 ^ w : Nat) : Int) := by omega
    have hnn : ((2 ^ w : Nat) : Int) ≠ 0 := by omega
    clear hw ha hp hlt h
    go_enter Tryd.func111, Tryd.ntmps111
    go_wp2_with fail
    go_ret
    exact ⟨ret_i (by rw [two_pow_cast, ← Int.natCast_emod]), rfl⟩
theorem top_raw {w a : Nat} (h1 : 1 ≤ w) (ha : a < 2 ^ w) : ((a : Int) / 2 ^ (w - 1) == 1) = decide (2 ^ (w - 1) ≤ a) := by
  have e := two_pow_pred h1
  have hp : 0 < 2 ^ (w - 1) := Nat.two_pow_pos _
  have e2 : ((a : Int) / 2 ^ (w - 1)) = ((a / 2 ^ (w - 1) : Nat) : Int) := by simp
  have hq : a / 2 ^ (w - 1) < 2 := Nat.div_lt_of_lt_mul (by omega)
  rw [e2]
  by_cases hh : 2 ^ (w - 1) ≤ a
  · have : a / 2 ^ (w - 1) = 1 := by
      have : 0 < a / 2 ^ (w - 1) := Nat.div_pos hh hp
      omega
    rw [this, decide_eq_true hh]; rfl
  · have : a / 2 ^ (w - 1) = 0 := Nat.div_eq_of_lt (by omega)
    rw [this, decide_eq_false hh]; rfl
theorem top116 (h1 : 1 ≤ w) (h : w ≤ 64) (ha : a < 2 ^ w) : Calls Tryd.prog 116 #[.int .i64 w, .int .u64 a] W fun e W' => e = .returned (.bool (decide (2 ^ (w - 1) ≤ a))) ∧ W = W' := by
  have hw1 : (1 : Int) ≤ w := by omega
  have HR := Lib.hid (top_raw h1 ha)
  clear ha
  go_enter Tryd.func116, Tryd.ntmps116
  go_wp2_with fail
  go_ret
  exact ⟨by rw [← HR.out]; rfl, rfl⟩
theorem bit117 (b : Bool) : Calls Tryd.prog 117 #[.bool b] W fun e W' => e = .returned (.int .u64 (if b then 1 else 0)) ∧ W = W' := by
  cases b
  · go_enter Tryd.func117, Tryd.ntmps117
    go_wp2_with fail
    go_ret
    exact ⟨rfl, rfl⟩
  · go_enter Tryd.func117, Tryd.ntmps117
    go_wp2_with fail
    go_ret
    exact ⟨rfl, rfl⟩
theorem less118 (h1 : 1 ≤ w) (h : w ≤ 64) (ha : a < 2 ^ w) (hb : b < 2 ^ w) : Calls Tryd.prog 118 #[.int .i64 w, .int .u64 a, .int .u64 b] W fun e W' => e = .returned (.bool (decide (sgn w a < sgn w b))) ∧ W = W' := by
  have HA := Lib.hid (top116 w a W h1 h ha)
  have HB := Lib.hid (top116 w b W h1 h hb)
  have HL := Lib.hid (less_ref h1 ha hb)
  clear h1 h ha hb
  by_cases ta : 2 ^ (w - 1) ≤ a <;> by_cases tb : 2 ^ (w - 1) ≤ b
  · rw [decide_eq_true ta] at HA
    rw [decide_eq_true tb] at HB
    have HV : Hid (decide (sgn w a < sgn w b) = decide (a < b)) := Lib.hid (decide_eq_decide.2 (HL.out.trans (by simp [ta, tb])))
    clear ta tb HL
    go_enter Tryd.func118, Tryd.ntmps118
    go_wp2_with (go_at_call 116; first | ((with_reducible refine HA.out.mono ?_); rintro e W' ⟨rfl, rfl⟩) | ((with_reducible refine HB.out.mono ?_); rintro e W' ⟨rfl, rfl⟩))
    all_goals
      go_ret
      exact ⟨by rw [HV.out]; rfl, rfl⟩
  · rw [decide_eq_true ta] at HA
    rw [decide_eq_false tb] at HB
    have HV : Hid (decide (sgn w a < sgn w b) = true) := Lib.hid (decide_eq_true (HL.out.2 (by simp [ta, tb])))
    clear ta tb HL
    go_enter Tryd.func118, Tryd.ntmps118
    go_wp2_with (go_at_call 116; first | ((with_reducible refine HA.out.mono ?_); rintro e W' ⟨rfl, rfl⟩) | ((with_reducible refine HB.out.mono ?_); rintro e W' ⟨rfl, rfl⟩))
    go_ret
    exact ⟨by rw [HV.out]; rfl, rfl⟩
  · rw [decide_eq_false ta] at HA
    rw [decide_eq_true tb] at HB
    have HV : Hid (decide (sgn w a < sgn w b) = false) := Lib.hid (decide_eq_false (fun hh => by have := HL.out.1 hh; simp [ta, tb] at this))
    clear ta tb HL
    go_enter Tryd.func118, Tryd.ntmps118
    go_wp2_with (go_at_call 116; first | ((with_reducible refine HA.out.mono ?_); rintro e W' ⟨rfl, rfl⟩) | ((with_reducible refine HB.out.mono ?_); rintro e W' ⟨rfl, rfl⟩))
    go_ret
    exact ⟨by rw [HV.out]; rfl, rfl⟩
  · rw [decide_eq_false ta] at HA
    rw [decide_eq_false tb] at HB
    have HV : Hid (decide (sgn w a < sgn w b) = decide (a < b)) := Lib.hid (decide_eq_decide.2 (HL.out.trans (by simp [ta, tb])))
    clear ta tb HL
    go_enter Tryd.func118, Tryd.ntmps118
    go_wp2_with (go_at_call 116; first | ((with_reducible refine HA.out.mono ?_); rintro e W' ⟨rfl, rfl⟩) | ((with_reducible refine HB.out.mono ?_); rintro e W' ⟨rfl, rfl⟩))
    all_goals
      go_ret
      exact ⟨by rw [HV.out]; rfl, rfl⟩

theorem shl_step {w : Nat} (h : w ≤ 64) (x : Nat) : (2 * (x : Int)) % 18446744073709551616 % (2 : Int) ^ w = ((2 * x % 2 ^ w : Nat) : Int) := by
  rw [← mod_pow h, Int.natCast_emod, Int.natCast_emod, two_pow_cast]
  rfl
theorem shifted_shl (h1 : 1 ≤ w) (h : w ≤ 64) (ha : a < 2 ^ w) (hb : b < 18446744073709551616) : Calls Tryd.prog 114 #[.int .u8 12, .int .i64 w, .int .u64 a, .int .u64 b] W fun e W' => e = .returned (.int .u64 ((shlK w a (min b w) : Nat) : Int)) ∧ W = W' := by
  have HL : Hid (∀ k, k ≤ w → shlK w a k < 2 ^ w) := Lib.hid (fun k _ => by rw [shlK_eq ha]; exact Nat.mod_lt _ (Nat.two_pow_pos w))
  have HP := Lib.hid (pow_le h)
  have hwi : (w : Int) ≤ 64 := by omega
  have hw1 : (1 : Int) ≤ w := by omega
  clear ha
  go_enter Tryd.func114, Tryd.ntmps114
  go_wp2_with (fail)
  go_loopw [2, 10] (fun x i wr => ∃ k : Nat, k ≤ min b w ∧ i = .int .u64 k ∧ x = .int .u64 ((shlK w a k : Nat) : Int) ∧ Hid (wr = W)) (fun _ i _ => min b w - (intOf i).toNat)
  case atStart => exact ⟨0, by omega, rfl, rfl, Lib.hid rfl⟩
  case round =>
    obtain ⟨k, hk, rfl, rfl, hw⟩ := hrel
    obtain rfl := hw.out.symm
    clear hw
    by_cases hlt : k < min b w
    · have hkb : (k : Int) < b := by omega
      have hkw : (k : Int) < w := by omega
      have hkw2 : (k : Int) ≤ 64 := by omega
      have HX := HL.out k (by omega)
      have HY := Lib.hid (HL.out (k + 1) (by omega))
      have HXl : shlK w a k < 18446744073709551616 := by have := HP.out; omega
      have HS : Hid (shlK w a (k + 1) = 2 * shlK w a k % 2 ^ w) := Lib.hid rfl
      have hXi : ((shlK w a k : Nat) : Int) < 18446744073709551616 := by omega
      have HT := Lib.hid (fun v hv => trim111 w v W h hv)
      generalize shlK w a k = x at *
      have HXL := Lib.hid HX
      clear HX HXl
      go_wp2_with (go_at_call 111; refine (HT.out (2 * x % 18446744073709551616) (Nat.mod_lt _ (by decide))).mono ?_; rintro e W' ⟨rfl, rfl⟩)
      go_roundw
      case rel => exact ⟨k + 1, by omega, by go_num, by rw [HS.out, ← shl_step h], by first | trivial | exact Lib.hid rfl⟩
      case measure => simp [intOf]; omega
    · obtain rfl : k = min b w := by omega
      by_cases hbw : (b : Int) ≤ ((min b w : Nat) : Int)
      · go_wp2_with fail
        go_ret
        exact ⟨rfl, rfl⟩
      · have hkb : ((min b w : Nat) : Int) < b := by omega
        have hkw : (w : Int) ≤ ((min b w : Nat) : Int) := by omega
        go_wp2_with fail
        go_ret
        exact ⟨rfl, rfl⟩

theorem shifted_shr (h1 : 1 ≤ w) (h : w ≤ 64) (ha : a < 2 ^ w) (hb : b < 18446744073709551616) : Calls Tryd.prog 114 #[.int .u8 13, .int .i64 w, .int .u64 a, .int .u64 b] W fun e W' => e = .returned (.int .u64 ((shrK a (min b w) : Nat) : Int)) ∧ W = W' := by
  have HL : Hid (∀ k, k ≤ w → shrK a k < 2 ^ w) := Lib.hid (fun k _ => by rw [shrK_eq]; exact Nat.lt_of_le_of_lt (Nat.div_le_self _ _) ha)
  have HP := Lib.hid (pow_le h)
  have hwi : (w : Int) ≤ 64 := by omega
  have hw1 : (1 : Int) ≤ w := by omega
  clear ha
  go_enter Tryd.func114, Tryd.ntmps114
  go_wp2_with (fail)
  go_loopw [2, 10] (fun x i wr => ∃ k : Nat, k ≤ min b w ∧ i = .int .u64 k ∧ x = .int .u64 ((shrK a k : Nat) : Int) ∧ Hid (wr = W)) (fun _ i _ => min b w - (intOf i).toNat)
  case atStart => exact ⟨0, by omega, rfl, rfl, Lib.hid rfl⟩
  case round =>
    obtain ⟨k, hk, rfl, rfl, hw⟩ := hrel
    obtain rfl := hw.out.symm
    clear hw
    by_cases hlt : k < min b w
    · have hkb : (k : Int) < b := by omega
      have hkw : (k : Int) < w := by omega
      have hkw2 : (k : Int) ≤ 64 := by omega
      have HX := HL.out k (by omega)
      have HY := Lib.hid (HL.out (k + 1) (by omega))
      have HXl : shrK a k < 18446744073709551616 := by have := HP.out; omega
      have HS : Hid (shrK a (k + 1) = shrK a k / 2) := Lib.hid rfl
      have hXi : ((shrK a k : Nat) : Int) < 18446744073709551616 := by omega
      skip
      generalize shrK a k = x at *
      have HXL := Lib.hid HX
      clear HX HXl
      go_wp2_with (fail)
      go_roundw
      case rel => exact ⟨k + 1, by omega, by go_num, by rw [HS.out, Int.natCast_ediv]; rfl, by first | trivial | exact Lib.hid rfl⟩
      case measure => simp [intOf]; omega
    · obtain rfl : k = min b w := by omega
      by_cases hbw : (b : Int) ≤ ((min b w : Nat) : Int)
      · go_wp2_with fail
        go_ret
        exact ⟨rfl, rfl⟩
      · have hkb : ((min b w : Nat) : Int) < b := by omega
        have hkw : (w : Int) ≤ ((min b w : Nat) : Int) := by omega
        go_wp2_with fail
        go_ret
        exact ⟨rfl, rfl⟩

theorem shifted_sarl (h1 : 1 ≤ w) (h : w ≤ 64) (ha : a < 2 ^ w) (hb : b < 18446744073709551616) (ht : ¬ 2 ^ (w - 1) ≤ a) : Calls Tryd.prog 114 #[.int .u8 14, .int .i64 w, .int .u64 a, .int .u64 b] W fun e W' => e = .returned (.int .u64 ((shrK a (min b w) : Nat) : Int)) ∧ W = W' := by
  have HTOP := Lib.hid (top116 w a W h1 h ha)
  rw [decide_eq_false ht] at HTOP
  have HL : Hid (∀ k, k ≤ w → shrK a k < 2 ^ w) := Lib.hid (fun k _ => by rw [shrK_eq]; exact Nat.lt_of_le_of_lt (Nat.div_le_self _ _) ha)
  have HP := Lib.hid (pow_le h)
  have hwi : (w : Int) ≤ 64 := by omega
  have hw1 : (1 : Int) ≤ w := by omega
  clear ha
  go_enter Tryd.func114, Tryd.ntmps114
  go_wp2_with (go_at_call 116; refine HTOP.out.mono ?_; rintro e W' ⟨rfl, rfl⟩)
  go_loopw [2, 10] (fun x i wr => ∃ k : Nat, k ≤ min b w ∧ i = .int .u64 k ∧ x = .int .u64 ((shrK a k : Nat) : Int) ∧ Hid (wr = W)) (fun _ i _ => min b w - (intOf i).toNat)
  case atStart => exact ⟨0, by omega, rfl, rfl, Lib.hid rfl⟩
  case round =>
    obtain ⟨k, hk, rfl, rfl, hw⟩ := hrel
    obtain rfl := hw.out.symm
    clear hw
    by_cases hlt : k < min b w
    · have hkb : (k : Int) < b := by omega
      have hkw : (k : Int) < w := by omega
      have hkw2 : (k : Int) ≤ 64 := by omega
      have HX := HL.out k (by omega)
      have HY := Lib.hid (HL.out (k + 1) (by omega))
      have HXl : shrK a k < 18446744073709551616 := by have := HP.out; omega
      have HS : Hid (shrK a (k + 1) = shrK a k / 2) := Lib.hid rfl
      have hXi : ((shrK a k : Nat) : Int) < 18446744073709551616 := by omega
      skip
      generalize shrK a k = x at *
      have HXL := Lib.hid HX
      clear HX HXl
      go_wp2_with (fail)
      go_roundw
      case rel => exact ⟨k + 1, by omega, by go_num, by rw [HS.out, Int.natCast_ediv]; rfl, by first | trivial | exact Lib.hid rfl⟩
      case measure => simp [intOf]; omega
    · obtain rfl : k = min b w := by omega
      by_cases hbw : (b : Int) ≤ ((min b w : Nat) : Int)
      · go_wp2_with fail
        go_ret
        exact ⟨rfl, rfl⟩
      · have hkb : ((min b w : Nat) : Int) < b := by omega
        have hkw : (w : Int) ≤ ((min b w : Nat) : Int) := by omega
        go_wp2_with fail
        go_ret
        exact ⟨rfl, rfl⟩
theorem sarK_lt {w a k : Nat} (hw : 1 ≤ w) (h1 : 2 ^ (w - 1) ≤ a) (ha : a < 2 ^ w) : sarK w a k < 2 ^ w := by
  have h := sarK_eq hw h1 ha k
  have hm : (0 : Int) < (2 : Int) ^ k := Int.pow_pos (by decide)
  have e' : ((2 ^ w : Nat) : Int) = (2 : Int) ^ w := by simp
  have : ((a : Int) - 2 ^ w) / 2 ^ k < 0 := Int.ediv_neg_of_neg_of_pos (by omega) hm
  omega

theorem half_pow {w : Nat} (h1 : 1 ≤ w) (h : w ≤ 64) : IntKind.u64.wrap ((2 : Int) ^ (w - 1)) = ((2 ^ (w - 1) : Nat) : Int) := by
  have e := two_pow_pred h1
  have hl := pow_le h
  have : 0 < 2 ^ (w - 1) := Nat.two_pow_pos _
  rw [two_pow_cast]
  exact wrap_u _ (by omega)
theorem sar_step {w x : Nat} (h1 : 1 ≤ w) (h : w ≤ 64) (hx : x < 2 ^ w) : IntKind.u64.wrap ((x : Int) / 2 + IntKind.u64.wrap ((2 : Int) ^ (w - 1))) = ((x / 2 + 2 ^ (w - 1) : Nat) : Int) := by
  have e := two_pow_pred h1
  have hl := pow_le h
  rw [half_pow h1 h]
  have e2 : (x : Int) / 2 + ((2 ^ (w - 1) : Nat) : Int) = ((x / 2 + 2 ^ (w - 1) : Nat) : Int) := by omega
  rw [e2]
  exact wrap_u _ (by omega)
theorem shifted_sarh (h1 : 1 ≤ w) (h : w ≤ 64) (ha : a < 2 ^ w) (hb : b < 18446744073709551616) (ht : 2 ^ (w - 1) ≤ a) : Calls Tryd.prog 114 #[.int .u8 14, .int .i64 w, .int .u64 a, .int .u64 b] W fun e W' => e = .returned (.int .u64 ((sarK w a (min b w) : Nat) : Int)) ∧ W = W' := by
  have HTOP := Lib.hid (top116 w a W h1 h ha)
  rw [decide_eq_true ht] at HTOP
  have HL : Hid (∀ k, k ≤ w → sarK w a k < 2 ^ w) := Lib.hid (fun k _ => sarK_lt h1 ht ha)
  have HP := Lib.hid (pow_le h)
  have hwi : (w : Int) ≤ 64 := by omega
  have hw1 : (1 : Int) ≤ w := by omega
  clear ha
  go_enter Tryd.func114, Tryd.ntmps114
  go_wp2_with (go_at_call 116; refine HTOP.out.mono ?_; rintro e W' ⟨rfl, rfl⟩)
  go_loopw [2, 10] (fun x i wr => ∃ k : Nat, k ≤ min b w ∧ i = .int .u64 k ∧ x = .int .u64 ((sarK w a k : Nat) : Int) ∧ Hid (wr = W)) (fun _ i _ => min b w - (intOf i).toNat)
  case atStart => exact ⟨0, by omega, rfl, rfl, Lib.hid rfl⟩
  case round =>
    obtain ⟨k, hk, rfl, rfl, hw⟩ := hrel
    obtain rfl := hw.out.symm
    clear hw
    by_cases hlt : k < min b w
    · have hkb : (k : Int) < b := by omega
      have hkw : (k : Int) < w := by omega
      have hkw2 : (k : Int) ≤ 64 := by omega
      have HX := HL.out k (by omega)
      have HY := Lib.hid (HL.out (k + 1) (by omega))
      have HXl : sarK w a k < 18446744073709551616 := by have := HP.out; omega
      have HS : Hid (sarK w a (k + 1) = sarK w a k / 2 + 2 ^ (w - 1)) := Lib.hid rfl
      have hXi : ((sarK w a k : Nat) : Int) < 18446744073709551616 := by omega
      have HSS := Lib.hid (sar_step h1 h HX)
      generalize sarK w a k = x at *
      have HXL := Lib.hid HX
      clear HX HXl
      go_wp2_with (fail)
      go_roundw
      case rel => exact ⟨k + 1, by omega, by go_num, (by rw [HS.out, ← HSS.out]), by first | trivial | exact Lib.hid rfl⟩
      case measure => simp [intOf]; omega
    · obtain rfl : k = min b w := by omega
      by_cases hbw : (b : Int) ≤ ((min b w : Nat) : Int)
      · go_wp2_with fail
        go_ret
        exact ⟨rfl, rfl⟩
      · have hkb : ((min b w : Nat) : Int) < b := by omega
        have hkw : (w : Int) ≤ ((min b w : Nat) : Int) := by omega
        go_wp2_with fail
        go_ret
        exact ⟨rfl, rfl⟩
end
end Go.Proofs.YtjhbabgcoemecaaDoor
