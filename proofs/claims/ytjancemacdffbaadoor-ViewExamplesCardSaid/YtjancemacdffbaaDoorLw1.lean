/- Walks of the functions of package lattice (part 1): TrailingZeros32, is, Le, bound. -/
import Derived.Test.YtjancemacdffbaaDoorRows
import Derived.Test.YtjancemacdffbaaDoorPl1
import Derived.WalkKit
import Derived.Lib.TrailingZeros
import Derived.Lib.Hide
import Derived.Deep.QuietTactic
import Derived.BigQuiet
namespace Go.Proofs.YtjancemacdffbaaDoor
open Go.RowKit

set_option maxHeartbeats 400000 in
theorem tz32_core (x k idx : Nat) (w : World) (hx0 : ((x : Int) == 0) = false)
    (key : bits BinOp.and IntKind.u32 (x : Int) (-(x : Int) % 4294967296) * 125613361 % 4294967296 / 134217728 = (idx : Int))
    (hi : idx < 32) (hk : k < 32) (hcell : w.cell? ⟨0, idx, none⟩ = some (.int .u8 k)) :
    Calls Tryd.prog 62 #[.int .u32 x] w fun e w' => e = .returned (.int .i64 k) ∧ w = w' := by
  go_enter Tryd.func62, Tryd.ntmps62
  go_wp2_with (simp only [key])
  go_ret
  exact ⟨rfl, rfl⟩

theorem tz32_key (x a : Nat) (hx : x < 4294967296) (hx0 : x ≠ 0) (hlow : x &&& (4294967296 - x) = a) :
    bits BinOp.and IntKind.u32 (x : Int) (-(x : Int) % 4294967296) * 125613361 % 4294967296 / 134217728 = ((a * 125613361 % 4294967296 / 134217728 : Nat) : Int) := by
  have e1 : -(x : Int) % 4294967296 = ((4294967296 - x : Nat) : Int) := by omega
  rw [e1, u32_and_nat x _ hx (by omega), hlow]
  omega

/-- the de Bruijn table lies in block 0 -/
def Tab (w : World) : Prop := ∀ i, i < 32 → w.cell? ⟨0, i, none⟩ = some (.int .u8 (Lib.deBruijn32tab.getD i 0))

theorem tz32 (x : Nat) (hx0 : x ≠ 0) (hx : x < 4294967296) (w : World) (hT : Tab w) :
    Calls Tryd.prog 62 #[.int .u32 x] w fun e w' => e = .returned (.int .i64 (Lib.ctz 32 x)) ∧ w = w' := by
  obtain ⟨hlow, hk⟩ := Lib.lowest_bit 32 x hx0 hx
  obtain ⟨hi, htab⟩ := Lib.deBruijn32_at _ hk
  have hcell := hT _ hi
  rw [htab] at hcell
  exact tz32_core x _ _ w (by simp; omega) (tz32_key x _ hx hx0 hlow) hi hk hcell

set_option maxHeartbeats 400000 in
theorem is_nil (a : Int) (w : World) :
    Calls Tryd.prog 50 #[.pointer none, .int .i64 a] w fun e w' => e = .returned (.bool false) ∧ w = w' := by
  go_enter Tryd.func50, Tryd.ntmps50
  go_wp2
  go_ret
  exact ⟨rfl, rfl⟩

def isB (n : Nat) (a : Int) : Bool := decide (0 ≤ a) && decide (a < n)

set_option maxHeartbeats 400000 in
theorem is_any (a : Int) (n b : Nat) (w : World) (hn : w.cell? ⟨b, 0, none⟩ = some (.int .i64 n)) :
    Calls Tryd.prog 50 #[.pointer (some ⟨b, 0, none⟩), .int .i64 a] w fun e w' => e = .returned (.bool (isB n a)) ∧ w = w' := by
  by_cases h0 : 0 ≤ a
  · go_enter Tryd.func50, Tryd.ntmps50
    go_wp2
    go_ret
    exact ⟨by simp [isB, h0], rfl⟩
  · have h1 : decide (0 ≤ a) = false := by simpa using h0
    go_enter Tryd.func50, Tryd.ntmps50
    go_wp2
    go_ret
    exact ⟨by simp [isB]; omega, rfl⟩

set_option maxHeartbeats 400000 in
theorem bound_any (b off set : Nat) (s : Nat → Nat) (w : World) (hT : Tab w) (hset : set < 4294967296) (hs : ∀ i, i < 32 → s i < 4294967296)
    (hc : ∀ i, i < 32 → w.cell? ⟨b, off + i, none⟩ = some (.int .u32 (s i))) :
    Calls Tryd.prog 51 #[.pointer (some ⟨b, off, none⟩), .int .u32 set] w fun e w' => e = .returned (.int .i64 (Pl.bnd s set)) ∧ w = w' := by
  have HT := Lib.hid hT
  have HC := Lib.hid hc
  have HS := Lib.hid hs
  clear hT hc hs
  go_enter Tryd.func51, Tryd.ntmps51
  go_wp2_with fail
  go_loop [5] (fun r => ∃ x k : Nat, x < 4294967296 ∧ r = .int .u32 x ∧ Pl.BI s set x k) (fun r => (intOf r).toNat)
  case atStart => exact ⟨set, 0, hset, rfl, Pl.BI.start s set⟩
  case round =>
    obtain ⟨x, k, hx, rfl, hb⟩ := hrel
    by_cases hx0 : x = 0
    · subst hx0
      have Hfin := Lib.hid hb.none
      go_wp2_with fail
      go_ret
      exact ⟨by rw [Hfin.out]; rfl, rfl⟩
    · have hx1 : ((x : Int) != 0) = true := by simp; omega
      obtain ⟨c1, _, _⟩ := Pl.ctz_spec x hx0 hx
      have Hf := Lib.hid (hb.found hx0 hx)
      have Hn := Lib.hid (hb.next hx0 hx)
      have hlt := Pl.and_pred_lt x hx0
      clear hb
      have hz := tz32 x hx0 hx w HT.out
      generalize Lib.ctz 32 x = i at *
      have Hz := Lib.hid hz
      have hci := HC.out i c1
      have hsi := HS.out i c1
      have hand : bits BinOp.andNot IntKind.u32 (set : Int) (s i : Int) = ((set &&& (4294967295 - s i) : Nat) : Int) := u32_andNot_nat _ _ hset hsi
      clear hz
      cases hsub : Pl.sub set (s i) with
      | true =>
        have hz : (((set &&& (4294967295 - s i) : Nat) : Int) == 0) = true := by
          unfold Pl.sub at hsub; rw [beq_iff_eq] at hsub ⊢; omega
        have Hfin := Lib.hid (Hf.out hsub)
        clear hsub
        go_wp2_with fail
        refine Hz.out.mono ?_
        rintro e w' ⟨rfl, rfl⟩
        go_wp2_with fail
        go_ret
        exact ⟨by rw [Hfin.out]; rfl, rfl⟩
      | false =>
        have hz : (((set &&& (4294967295 - s i) : Nat) : Int) == 0) = false := by
          unfold Pl.sub at hsub; rw [beq_eq_false_iff_ne] at hsub ⊢; omega
        have Hfin := Lib.hid (Hn.out hsub)
        have hand2 : bits BinOp.and IntKind.u32 (x : Int) ((x : Int) - 1) = ((x &&& (x - 1) : Nat) : Int) := by
          rw [show (x : Int) - 1 = ((x - 1 : Nat) : Int) by omega]
          exact u32_and_nat _ _ hx (by omega)
        clear hsub
        go_wp2_with fail
        refine Hz.out.mono ?_
        rintro e w' ⟨rfl, rfl⟩
        go_wp2_with fail
        go_round
        case rel => exact ⟨_, _, by omega, rfl, Hfin.out⟩
        case measure => simp only [intOf]; omega

end Go.Proofs.YtjancemacdffbaaDoor
