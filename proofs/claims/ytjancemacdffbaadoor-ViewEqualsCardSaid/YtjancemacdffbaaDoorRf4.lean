/- Walks: the reference's New for every input; Len, CopyPairs, EqualPairs. -/
import Derived.Test.YtjancemacdffbaaDoorRf3
import Derived.Test.YtjancemacdffbaaDoorLw7
namespace Go.Proofs.YtjancemacdffbaaDoor
open Go.RowKit

set_option maxHeartbeats 400000 in
set_option maxRecDepth 100000 in
theorem rnew_lo (n : Int) (v : Value) (w : World) (h : n < 1) :
    Calls Tryd.prog 29 #[.int .i64 n, v] w fun e w' => e = .returned (.tuple #[.pointer none, .int .i64 3]) ∧ w = w' := by
  go_enter Tryd.func29, Tryd.ntmps29
  go_wp2_with fail
  go_ret2
  exact ⟨rfl, rfl⟩
set_option maxHeartbeats 400000 in
set_option maxRecDepth 100000 in
theorem rnew_hi (n : Int) (v : Value) (w : World) (h : 32 < n) :
    Calls Tryd.prog 29 #[.int .i64 n, v] w fun e w' => e = .returned (.tuple #[.pointer none, .int .i64 3]) ∧ w = w' := by
  have h1 : decide (n < 1) = false := by simp; omega
  go_enter Tryd.func29, Tryd.ntmps29
  go_wp2_with fail
  go_ret2
  exact ⟨rfl, rfl⟩
set_option maxHeartbeats 400000 in
set_option maxRecDepth 100000 in
theorem rnew_long (n : Int) (a : Option Addr) (len cap : Nat) (w : World) (h1 : 1 ≤ n) (h2 : n ≤ 32) (h : 1024 < len) :
    Calls Tryd.prog 29 #[.int .i64 n, .slice a len cap] w fun e w' => e = .returned (.tuple #[.pointer none, .int .i64 5]) ∧ w = w' := by
  have h3 : decide (n < 1) = false := by simp; omega
  have h4 : (1024 : Int) < len := by omega
  go_enter Tryd.func29, Tryd.ntmps29
  go_wp2_with fail
  go_ret2
  exact ⟨rfl, rfl⟩

/-- The reference's New for every input: its error is that of the program's. -/
theorem rnew_all (n : Int) (a : Option Addr) (len cap : Nat) (w : World) (ps : List (Int × Int)) (hlen : ps.length = len) (hp : PairsAt w a ps) :
    Calls Tryd.prog 29 #[.int .i64 n, .slice a len cap] w fun e w' =>
      ((newE n ps).1 ≠ 0 → e = .returned (.tuple #[.pointer none, .int .i64 ((newE n ps).1 : Nat)])) ∧
      ((newE n ps).1 = 0 → e = .returned (.tuple #[.pointer (some ⟨w.heap.size, 0, none⟩), .int .i64 0]) ∧ w.heap.size < w'.heap.size ∧ ∃ g cap r M, RefC w' w.heap.size g cap n.toNat r M ∧ ∀ i j, i < n.toNat → j < n.toNat → (M i j = true ↔ RT ps i j)) ∧
      Below w.heap.size w w' := by
  by_cases h1 : n < 1
  · have e : newE n ps = (3, fun _ => 0, fun _ => 0) := by unfold newE; rw [if_pos (Or.inl h1)]
    rw [e]
    exact (rnew_lo n _ w h1).mono fun e w' ⟨h, hb⟩ => ⟨fun _ => h, fun h => absurd h (by decide), by rw [← hb]; exact Below.refl _ _⟩
  · by_cases h2 : 32 < n
    · have e : newE n ps = (3, fun _ => 0, fun _ => 0) := by unfold newE; rw [if_pos (Or.inr h2)]
      rw [e]
      exact (rnew_hi n _ w h2).mono fun e w' ⟨h, hb⟩ => ⟨fun _ => h, fun h => absurd h (by decide), by rw [← hb]; exact Below.refl _ _⟩
    · by_cases h3 : 1024 < len
      · have e : newE n ps = (5, fun _ => 0, fun _ => 0) := by unfold newE; rw [if_neg (by omega), if_pos (by omega)]
        rw [e]
        exact (rnew_long n a len cap w (by omega) (by omega) h3).mono fun e w' ⟨h, hb⟩ => ⟨fun _ => h, fun h => absurd h (by decide), by rw [← hb]; exact Below.refl _ _⟩
      · have e : newE n ps = newL n.toNat ps := by unfold newE; rw [if_neg (by omega), if_neg (by omega)]
        obtain ⟨k, rfl⟩ := Int.eq_ofNat_of_zero_le (show 0 ≤ n by omega)
        rw [e]
        exact (rnew_main k a len cap w ps (by omega) (by omega) (by omega) hlen hp).mono fun e w' h => h

set_option maxHeartbeats 400000 in
theorem len_any (b n : Nat) (w : World) (hn : w.cell? ⟨b, 0, none⟩ = some (.int .i64 n)) :
    Calls Tryd.prog 31 #[.pointer (some ⟨b, 0, none⟩)] w fun e w' => e = .returned (.int .i64 n) ∧ w = w' := by
  go_enter Tryd.func31, Tryd.ntmps31
  go_wp2_with fail
  go_ret
  exact ⟨rfl, rfl⟩
set_option maxHeartbeats 400000 in
theorem len_nil (w : World) : Calls Tryd.prog 31 #[.pointer none] w fun e w' => e = .returned (.int .i64 0) ∧ w = w' := by
  go_enter Tryd.func31, Tryd.ntmps31
  go_wp2_with fail
  go_ret
  exact ⟨rfl, rfl⟩

end Go.Proofs.YtjancemacdffbaaDoor
