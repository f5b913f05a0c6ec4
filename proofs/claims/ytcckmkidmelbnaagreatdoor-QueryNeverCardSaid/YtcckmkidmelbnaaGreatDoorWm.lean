/- The mask of the reference, arities. -/
import Derived.Test.YtcckmkidmelbnaaGreatDoorWd
import Derived.Test.YtcckmkidmelbnaaGreatDoorWa
namespace Go.Proofs.YtcckmkidmelbnaaGreatDoor
open Go.RowKit
theorem tup2 {a b : Int} (h : a = b) : Value.tuple #[.int .u64 a, .int .i64 0] = .tuple #[.int .u64 b, .int .i64 0] := by rw [h]
theorem trim_raw {w x : Nat} (h : w ≤ 64) (hx : x < 18446744073709551616) : bits .and .u64 (x : Int) ((2 ^ w - 1 : Nat) : Int) = ((x % 2 ^ w : Nat) : Int) := by
  have hl := pow_le h
  have h0 : 0 < 2 ^ w := Nat.two_pow_pos w
  rw [bits_and _ _ hx (by omega), and_mask]
theorem arity85 (o : Nat) (ho : o ≤ 21) (W : World) : Calls Tryz.prog 120 #[.int .u8 o] W fun e W' => e = .returned (.tuple #[.int .i64 (arN o : Nat), .int .i64 0]) ∧ W = W' := by
  have d0 : decide (21 < (o : Int)) = false := by simp; omega
  have hcs : o ≤ 1 ∨ (2 ≤ o ∧ o ≤ 3) ∨ o = 21 ∨ (4 ≤ o ∧ o ≤ 20) := by omega
  rcases hcs with hc | hc | hc | hc
  · have HA : Hid (arN o = 0) := Lib.hid (if_pos hc)
    have d1 : decide ((o : Int) ≤ 1) = true := by simp; omega
    clear hc ho
    go_enter Tryz.func120, Tryz.ntmps120
    go_wp2_with fail
    go_ret2
    exact ⟨by rw [HA.out]; rfl, rfl⟩
  · have HA : Hid (arN o = 1) := Lib.hid (by unfold arN; rw [if_neg (by omega), if_pos hc.2])
    have d1 : decide ((o : Int) ≤ 1) = false := by simp; omega
    have d2 : decide ((o : Int) ≤ 3) = true := by simp; omega
    clear hc ho
    go_enter Tryz.func120, Tryz.ntmps120
    go_wp2_with fail
    go_ret2
    exact ⟨by rw [HA.out]; rfl, rfl⟩
  · subst hc
    clear d0 ho
    go_enter Tryz.func120, Tryz.ntmps120
    go_wp2_with fail
    go_ret2
    exact ⟨rfl, rfl⟩
  · have HA : Hid (arN o = 2) := Lib.hid (by unfold arN; rw [if_neg (by omega), if_neg (by omega), if_neg (by omega)])
    have d1 : decide ((o : Int) ≤ 1) = false := by simp; omega
    have d2 : decide ((o : Int) ≤ 3) = false := by simp; omega
    have d3 : ((o : Int) == 21) = false := by simp; omega
    clear hc ho
    go_enter Tryz.func120, Tryz.ntmps120
    go_wp2_with fail
    go_ret2
    exact ⟨by rw [HA.out]; rfl, rfl⟩
theorem mask71 (w : Nat) (W : World) (h1 : 1 ≤ w) (h : w ≤ 64) : Calls Tryz.prog 96 #[.int .i64 w] W fun e W' => e = .returned (.int .u64 ((2 ^ w - 1 : Nat) : Int)) ∧ W = W' := by
  have d1 : decide ((w : Int) < 1) = false := by simp; omega
  by_cases hw : w = 64
  · subst hw
    clear d1 h1 h
    go_enter Tryz.func96, Tryz.ntmps96
    go_wp2_with fail
    go_ret
    exact ⟨rfl, rfl⟩
  · have HM := Lib.hid (mask_raw h)
    have d2 : decide (63 < (w : Int)) = false := by simp; omega
    have hwl : (w : Int) ≤ 64 := by omega
    clear hw
    go_enter Tryz.func96, Tryz.ntmps96
    go_wp2_with fail
    go_ret
    exact ⟨by rw [← HM.out]; rfl, rfl⟩
end Go.Proofs.YtcckmkidmelbnaaGreatDoor
