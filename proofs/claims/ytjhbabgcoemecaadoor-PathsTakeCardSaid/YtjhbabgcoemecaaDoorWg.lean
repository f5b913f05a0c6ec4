/- Walk: word.Apply with one argument. -/
import Derived.Test.YtjhbabgcoemecaaDoorWf
namespace Go.Proofs.YtjhbabgcoemecaaDoor
open Go.RowKit

theorem tup2 {a b : Int} (h : a = b) : Value.tuple #[.int .u64 a, .int .i64 0] = .tuple #[.int .u64 b, .int .i64 0] := by rw [h]
theorem not_raw {w x : Nat} (h : w ≤ 64) (hx : x < 2 ^ w) : bits .and .u64 (bits .xor .u64 IntKind.u64.max (x : Int)) ((2 ^ w - 1 : Nat) : Int) = ((appN 2 w x 0 : Nat) : Int) := by
  have hl := pow_le h
  obtain ⟨k, hk⟩ := pow_dvd h
  have h0 : 0 < 2 ^ w := Nat.two_pow_pos w
  have hk1 : 1 ≤ k := by
    cases k with
    | zero => simp at hk
    | succ k => omega
  rw [u64_max, bits_xor _ _ (by decide) (by omega), Nat.xor_comm, xor_all _ (by omega), trim_raw h (by omega)]
  show (((18446744073709551615 - x) % 2 ^ w : Nat) : Int) = ((2 ^ w - 1 - x : Nat) : Int)
  have e : 18446744073709551615 - x = (2 ^ w - 1 - x) + 2 ^ w * (k - 1) := by
    have e1 : 2 ^ w * (k - 1) = 2 ^ w * k - 2 ^ w := by rw [Nat.mul_sub, Nat.mul_one]
    have e2 : 2 ^ w * 1 ≤ 2 ^ w * k := Nat.mul_le_mul_left _ hk1
    omega
  rw [e, Nat.add_mul_mod_self_left, Nat.mod_eq_of_lt (by omega)]
theorem neg_raw {w x : Nat} (h : w ≤ 64) (hx : x < 2 ^ w) : bits .and .u64 (IntKind.u64.wrap (-(x : Int))) ((2 ^ w - 1 : Nat) : Int) = ((appN 3 w x 0 : Nat) : Int) := by
  have hl := pow_le h
  obtain ⟨k, hk⟩ := pow_dvd h
  have h0 : 0 < 2 ^ w := Nat.two_pow_pos w
  have hk1 : 1 ≤ k := by
    cases k with
    | zero => simp at hk
    | succ k => omega
  have e0 : IntKind.u64.wrap (-(x : Int)) = (((18446744073709551616 - x) % 18446744073709551616 : Nat) : Int) := by
    rw [IntKind.wrap_u64]; omega
  rw [e0, trim_raw h (Nat.mod_lt _ (by decide)), mod_pow h]
  show (((18446744073709551616 - x) % 2 ^ w : Nat) : Int) = (((2 ^ w - x) % 2 ^ w : Nat) : Int)
  have e : 18446744073709551616 - x = (2 ^ w - x) + 2 ^ w * (k - 1) := by
    have e1 : 2 ^ w * (k - 1) = 2 ^ w * k - 2 ^ w := by rw [Nat.mul_sub, Nat.mul_one]
    have e2 : 2 ^ w * 1 ≤ 2 ^ w * k := Nat.mul_le_mul_left _ hk1
    omega
  rw [e, Nat.add_mul_mod_self_left]

set_option maxRecDepth 100000 in
set_option maxHeartbeats 4000000 in
theorem apply_not (w x y : Nat) (a : Option Addr) (cap : Nat) (W : World) (h1 : 1 ≤ w) (h : w ≤ 64) (hx : x < 18446744073709551616) (hat : (Lay.int .u64).At 0 W a [(x : Int)]) :
    Calls Tryd.prog 77 #[.int .u8 2, .int .i64 w, .slice a 1 cap] W (ApPost 2 w x y W) := by
  have HAR := Lib.hid (arity72 2 (by omega) (w := W))
  rw [show arN 2 = 1 from rfl] at HAR
  have HCK := Lib.hid (check64_ok w W h1 h)
  have HM := Lib.hid (fun W => mask82 w W h)
  have HX := Lib.hid (trim_raw h hx)
  have hp : 0 < 2 ^ w := Nat.two_pow_pos w
  have HR := Lib.hid (not_raw h (Nat.mod_lt x hp))
  have HAT := Lib.hid hat
  clear hx hp hat h1
  go_enter Tryd.func77, Tryd.ntmps77
  go_wp2_with (first | (go_at_call 64; refine HCK.out.mono ?_; rintro e W' ⟨rfl, rfl⟩) | (go_at_call 72; refine HAR.out.mono ?_; rintro e W1 ⟨rfl, hb1⟩))
  have hz1 := hb1.size
  obtain ⟨pb, po, rfl, hpb, hp0⟩ := HAT.out.int (i := 0) (by simp)
  have hc0 : W1.cell? ⟨pb, po, none⟩ = some (.int .u64 x) := (hb1.cell (p := ⟨pb, po, none⟩) hpb).trans hp0
  have hpb1 : pb < W1.heap.size := by omega
  clear hp0
  go_loopw [42] (fun i wr => ∃ k : Nat, k ≤ 1 ∧ i = .int .i64 k ∧ Hid (wr = W1.alloc (.cells (arrK (x % 2 ^ w) 0 k) 174))) (fun i _ => 1 - (intOf i).toNat)
  case atStart => exact ⟨0, by omega, rfl, Lib.hid rfl⟩
  case round =>
    obtain ⟨k, hk, rfl, hw⟩ := hrel
    have hk3 : k = 0 ∨ k = 1 := by omega
    rcases hk3 with rfl | rfl
    · obtain rfl := hw.out
      clear hw
      show _
      go_wp2_with (first | (go_at_call 82; refine (HM.out _).mono ?_; rintro e W' ⟨rfl, rfl⟩))
      go_roundw
      case rel => exact ⟨1, by omega, rfl, Lib.hid (by first | rfl | (rw [HX.out]; rfl))⟩
      case measure => simp [intOf]
    · obtain rfl := hw.out
      clear hw
      have hS0 : (W1.alloc (Obj.cells (arrK (x % 2 ^ w) 0 1) 174)).cell? ⟨W1.heap.size, 0, none⟩ = some (.int .u64 (x % 2 ^ w : Nat)) := by rw [World.cell?_alloc_new]; rfl
      have hbA : Below W.heap.size W (W1.alloc (Obj.cells (arrK (x % 2 ^ w) 0 1) 174)) := hb1.alloc hz1 _
      clear hc0 hpb1 hb1
      generalize W1.alloc (Obj.cells (arrK (x % 2 ^ w) 0 1) 174) = wA at *
      generalize W1.heap.size = g at *
      have HBA := Lib.hid hbA
      clear hbA
      generalize hmx : x % 2 ^ w = mx at *
      have HMX := Lib.hid hmx
      clear hmx
      go_wp2_with (first | (go_at_call 82; refine (HM.out _).mono ?_; rintro e W' ⟨rfl, rfl⟩))
      go_ret2
      exact ⟨congrArg Ending.returned (tup2 (HR.out.trans (by rw [← HMX.out]; rfl))), HBA.out⟩

set_option maxRecDepth 100000 in
set_option maxHeartbeats 4000000 in
theorem apply_neg (w x y : Nat) (a : Option Addr) (cap : Nat) (W : World) (h1 : 1 ≤ w) (h : w ≤ 64) (hx : x < 18446744073709551616) (hat : (Lay.int .u64).At 0 W a [(x : Int)]) :
    Calls Tryd.prog 77 #[.int .u8 3, .int .i64 w, .slice a 1 cap] W (ApPost 3 w x y W) := by
  have HAR := Lib.hid (arity72 3 (by omega) (w := W))
  rw [show arN 3 = 1 from rfl] at HAR
  have HCK := Lib.hid (check64_ok w W h1 h)
  have HM := Lib.hid (fun W => mask82 w W h)
  have HX := Lib.hid (trim_raw h hx)
  have hp : 0 < 2 ^ w := Nat.two_pow_pos w
  have HR := Lib.hid (neg_raw h (Nat.mod_lt x hp))
  have HAT := Lib.hid hat
  clear hx hp hat h1
  go_enter Tryd.func77, Tryd.ntmps77
  go_wp2_with (first | (go_at_call 64; refine HCK.out.mono ?_; rintro e W' ⟨rfl, rfl⟩) | (go_at_call 72; refine HAR.out.mono ?_; rintro e W1 ⟨rfl, hb1⟩))
  have hz1 := hb1.size
  obtain ⟨pb, po, rfl, hpb, hp0⟩ := HAT.out.int (i := 0) (by simp)
  have hc0 : W1.cell? ⟨pb, po, none⟩ = some (.int .u64 x) := (hb1.cell (p := ⟨pb, po, none⟩) hpb).trans hp0
  have hpb1 : pb < W1.heap.size := by omega
  clear hp0
  go_loopw [42] (fun i wr => ∃ k : Nat, k ≤ 1 ∧ i = .int .i64 k ∧ Hid (wr = W1.alloc (.cells (arrK (x % 2 ^ w) 0 k) 174))) (fun i _ => 1 - (intOf i).toNat)
  case atStart => exact ⟨0, by omega, rfl, Lib.hid rfl⟩
  case round =>
    obtain ⟨k, hk, rfl, hw⟩ := hrel
    have hk3 : k = 0 ∨ k = 1 := by omega
    rcases hk3 with rfl | rfl
    · obtain rfl := hw.out
      clear hw
      show _
      go_wp2_with (first | (go_at_call 82; refine (HM.out _).mono ?_; rintro e W' ⟨rfl, rfl⟩))
      go_roundw
      case rel => exact ⟨1, by omega, rfl, Lib.hid (by first | rfl | (rw [HX.out]; rfl))⟩
      case measure => simp [intOf]
    · obtain rfl := hw.out
      clear hw
      have hS0 : (W1.alloc (Obj.cells (arrK (x % 2 ^ w) 0 1) 174)).cell? ⟨W1.heap.size, 0, none⟩ = some (.int .u64 (x % 2 ^ w : Nat)) := by rw [World.cell?_alloc_new]; rfl
      have hbA : Below W.heap.size W (W1.alloc (Obj.cells (arrK (x % 2 ^ w) 0 1) 174)) := hb1.alloc hz1 _
      clear hc0 hpb1 hb1
      generalize W1.alloc (Obj.cells (arrK (x % 2 ^ w) 0 1) 174) = wA at *
      generalize W1.heap.size = g at *
      have HBA := Lib.hid hbA
      clear hbA
      generalize hmx : x % 2 ^ w = mx at *
      have HMX := Lib.hid hmx
      clear hmx
      go_wp2_with (first | (go_at_call 82; refine (HM.out _).mono ?_; rintro e W' ⟨rfl, rfl⟩))
      go_ret2
      exact ⟨congrArg Ending.returned (tup2 (HR.out.trans (by rw [← HMX.out]; rfl))), HBA.out⟩
end Go.Proofs.YtjhbabgcoemecaaDoor
