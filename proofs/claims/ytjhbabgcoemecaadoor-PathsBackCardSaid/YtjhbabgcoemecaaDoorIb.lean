/- explore.Input and the reference's. -/
import Derived.Test.YtjhbabgcoemecaaDoorS1
namespace Go.Proofs.YtjhbabgcoemecaaDoor
open Go.RowKit

/-- what Input answers: the variable, and the error -/
def inpV (c h k : Int) : Int × Int := if c < 1 ∨ 32 < c ∨ h < 0 ∨ c ≤ h ∨ k < 0 ∨ 65536 ≤ k then (0, 3) else (2 * (k * c + h), 0)
theorem inp_bad {c h k : Int} (hb : c < 1 ∨ 32 < c ∨ h < 0 ∨ c ≤ h ∨ k < 0 ∨ 65536 ≤ k) : inpV c h k = (0, 3) := if_pos hb
theorem inp_mul {c h k : Int} (hb : ¬ (c < 1 ∨ 32 < c ∨ h < 0 ∨ c ≤ h ∨ k < 0 ∨ 65536 ≤ k)) : 0 ≤ k * c ∧ k * c ≤ 2097120 ∧ inpV c h k = (2 * (k * c + h), 0) := by
  refine ⟨Int.mul_nonneg (by omega) (by omega), ?_, if_neg hb⟩
  have : k * c ≤ 65535 * 32 := Int.mul_le_mul (by omega) (by omega) (by omega) (by omega)
  omega
def InpPost (w : World) (r : Int × Int) (e : Ending) (w' : World) : Prop := e = .returned (.tuple #[.int .i64 r.1, .int .i64 r.2]) ∧ w = w'

set_option maxHeartbeats 1000000 in
theorem input11_any (c h k : Int) (w : World) : Calls Tryd.prog 11 #[.int .i64 c, .int .i64 h, .int .i64 k] w (InpPost w (inpV c h k)) := by
  by_cases hb : c < 1 ∨ 32 < c ∨ h < 0 ∨ c ≤ h ∨ k < 0 ∨ 65536 ≤ k
  · rw [inp_bad hb]
    go_enter Tryd.func11, Tryd.ntmps11
    by_cases a0 : c < 1
    · clear hb
      go_wp2_with fail
      go_ret2
      exact ⟨rfl, rfl⟩
    by_cases a1 : 32 < c
    · clear hb
      go_wp2_with fail
      go_ret2
      exact ⟨rfl, rfl⟩
    by_cases a2 : h < 0
    · clear hb
      go_wp2_with fail
      go_ret2
      exact ⟨rfl, rfl⟩
    by_cases a3 : c ≤ h
    · clear hb
      go_wp2_with fail
      go_ret2
      exact ⟨rfl, rfl⟩
    by_cases a4 : k < 0
    · clear hb
      go_wp2_with fail
      go_ret2
      exact ⟨rfl, rfl⟩
    have a5 : 65536 ≤ k := by omega
    clear hb
    go_wp2_with fail
    go_ret2
    exact ⟨rfl, rfl⟩
  · obtain ⟨h1, h2, h3⟩ := inp_mul hb
    rw [h3]
    generalize hm : k * c = m at *
    have a1 : ¬ c < 1 := by omega
    have a2 : ¬ 32 < c := by omega
    have a3 : ¬ h < 0 := by omega
    have a4 : ¬ c ≤ h := by omega
    have a5 : ¬ k < 0 := by omega
    have a6 : ¬ 65536 ≤ k := by omega
    clear hb
    go_enter Tryd.func11, Tryd.ntmps11
    go_wp2_with fail
    go_ret2
    exact ⟨rfl, rfl⟩
set_option maxHeartbeats 1000000 in
theorem input12_any (c h k : Int) (w : World) : Calls Tryd.prog 12 #[.int .i64 c, .int .i64 h, .int .i64 k] w (InpPost w (inpV c h k)) := by
  by_cases hb : c < 1 ∨ 32 < c ∨ h < 0 ∨ c ≤ h ∨ k < 0 ∨ 65536 ≤ k
  · rw [inp_bad hb]
    go_enter Tryd.func12, Tryd.ntmps12
    by_cases a0 : c < 1
    · clear hb
      go_wp2_with fail
      go_ret2
      exact ⟨rfl, rfl⟩
    by_cases a1 : 32 < c
    · clear hb
      go_wp2_with fail
      go_ret2
      exact ⟨rfl, rfl⟩
    by_cases a2 : h < 0
    · clear hb
      go_wp2_with fail
      go_ret2
      exact ⟨rfl, rfl⟩
    by_cases a3 : c ≤ h
    · clear hb
      go_wp2_with fail
      go_ret2
      exact ⟨rfl, rfl⟩
    by_cases a4 : k < 0
    · clear hb
      go_wp2_with fail
      go_ret2
      exact ⟨rfl, rfl⟩
    have a5 : 65536 ≤ k := by omega
    clear hb
    go_wp2_with fail
    go_ret2
    exact ⟨rfl, rfl⟩
  · obtain ⟨h1, h2, h3⟩ := inp_mul hb
    rw [h3]
    generalize hm : k * c = m at *
    have a1 : ¬ c < 1 := by omega
    have a2 : ¬ 32 < c := by omega
    have a3 : ¬ h < 0 := by omega
    have a4 : ¬ c ≤ h := by omega
    have a5 : ¬ k < 0 := by omega
    have a6 : ¬ 65536 ≤ k := by omega
    clear hb
    go_enter Tryd.func12, Tryd.ntmps12
    go_wp2_with fail
    go_ret2
    exact ⟨rfl, rfl⟩
end Go.Proofs.YtjhbabgcoemecaaDoor
