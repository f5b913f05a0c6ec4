/- Walks (part 10): Cube of weepholelaw27. -/
import Derived.Test.YtjancemacdffbaaDoorLw9
namespace Go.Proofs.YtjancemacdffbaaDoor
open Go.RowKit

/-- some pairs, at most so many, in a slice of the call's own -/
def SomeRet (w : World) (m : Nat) (e : Ending) (w' : World) : Prop := ∃ v ps, ps.length ≤ m ∧ e = .returned v ∧ OwnP w' w.heap.size v ps ∧ Below w.heap.size w w'

theorem wrap_pow (k : Nat) (hk : k ≤ 5) : wrap64 ((2 : Int) ^ k) = ((2 ^ k : Nat) : Int) := by
  have hp : 2 ^ k ≤ 2 ^ 5 := Nat.pow_le_pow_right (by decide) hk
  have e : ((2 : Int) ^ k) = ((2 ^ k : Nat) : Int) := by simp
  rw [e]
  generalize 2 ^ k = x at *
  exact IntWalk.wrap64_in _ ⟨by omega, by omega⟩

set_option maxHeartbeats 400000 in
theorem cube_any (k : Nat) (w : World) (hk : k ≤ 5) :
    Calls Tryd.prog 34 #[.int .i64 k] w (SomeRet w 200) := by
  obtain ⟨i0, hi, hz0, hz1, hz2⟩ := info_parts Tryd.info29
  have hp : 2 ^ k ≤ 2 ^ 5 := Nat.pow_le_pow_right (by decide) hk
  have hw := wrap_pow k hk
  generalize 2 ^ k = P at hp hw
  have hP : P ≤ 32 := by omega
  have hPk : P * k ≤ 160 := Nat.mul_le_mul hP hk
  have HPk := Lib.hid hPk
  clear hp hPk
  go_enter Tryd.func34, Tryd.ntmps34
  go_wp2_with fail
  go_loopw [3, 4] (fun v i wr => ∃ (a : Nat) (ps : List (Int × Int)), a ≤ P ∧ i = .int .i64 a ∧ Hid (ps.length ≤ a * k) ∧ OwnP wr w.heap.size v ps ∧ Below w.heap.size w wr) (fun _ i _ => P - (intOf i).toNat)
  case atStart => exact ⟨0, [], by omega, rfl, by show _ ≤ _; simp, OwnP.nil _ _, Below.refl _ _⟩
  case round =>
    obtain ⟨a, ps, ha, rfl, hl, hown, hbel⟩ := hrel
    by_cases hlt : a < P
    · go_wp2_with fail
      simp only [hw]
      go_loopw [3, 5] (fun v i wr => ∃ (j : Nat) (ps : List (Int × Int)), j ≤ k ∧ i = .int .i64 j ∧ Hid (ps.length ≤ a * k + j) ∧ OwnP wr w.heap.size v ps ∧ Below w.heap.size w wr) (fun _ i _ => k - (intOf i).toNat)
      case atStart => exact ⟨0, ps, by omega, rfl, hl, hown, hbel⟩
      case round =>
        clear hl hown hbel
        obtain ⟨j, ps, hj, rfl, hl, hown, hbel⟩ := hrel
        have hsz := hbel.size
        by_cases hlt2 : j < k
        · have hw2 := wrap_pow j (by omega)
          have hle : ps.length ≤ 200 := by
            have h1 := hl.out; have h2 := HPk.out
            have h3 : a * k ≤ P * k := Nat.mul_le_mul_right k (by omega)
            omega
          cases hbit : (bits BinOp.and IntKind.i64 ((a : Int) / 2 ^ j) 1 == 0) with
          | true =>
            go_wp2_with (at_builtin; refine wpList_append_own _ rfl _ _ 22 rfl w.heap.size 29 i0 _ 2 16 Tryd.underlying22 hi hz0 hz1 hz2 rfl (by decide) _ _ _ rfl (hown.alloc _) ⟨wr.heap.size, 0, none⟩ 1 1 [.int .i64 a, .int .i64 (bits BinOp.or IntKind.i64 (a : Int) ((2 ^ j : Nat) : Int))] rfl rfl ?c1 ?c2 ?c3 ?c4 ?c5 ?_)
            case c1 =>
              intro j u hj
              match j, hj with
              | 0, hj => simp at hj; subst hj; simp [Addr.add]
              | 1, hj => simp at hj; subst hj; simp [Addr.add]
            case c2 => intro u hu; simp at hu; rcases hu with rfl | rfl <;> rfl
            case c3 => unfold maxLen; omega
            case c4 => omega
            case c5 => simp; omega
            intro v' w1 hown' hgrow _
            obtain ⟨r1, r2⟩ := OwnP.snoc (qs := [((a : Int), bits BinOp.or IntKind.i64 (a : Int) ((2 ^ j : Nat) : Int))]) hown' rfl hown _ hgrow hsz
            clear hown' hgrow hown
            go_wp2_with fail
            go_roundw
            case rel => exact ⟨j + 1, _, by omega, by go_num, by have := hl.out; show _ ≤ _; simp; omega, r1, hbel.trans r2⟩
            case measure => simp [intOf]; omega
          | false =>
            go_wp2_with fail
            go_roundw
            case rel => exact ⟨j + 1, _, by omega, by go_num, by have := hl.out; show _ ≤ _; omega, hown, hbel⟩
            case measure => simp [intOf]; omega
        · obtain rfl : j = k := by omega
          go_wp2_with fail
          go_roundw
          case rel => exact ⟨a + 1, _, by omega, by go_num, by have := hl.out; show _ ≤ _; rw [Nat.add_mul, Nat.one_mul]; exact this, hown, hbel⟩
          case measure => simp [intOf]; omega
    · obtain rfl : a = P := by omega
      go_wp2_with fail
      go_ret
      exact ⟨_, _, Nat.le_trans hl.out (Nat.le_trans HPk.out (by decide)), rfl, hown, hbel⟩

end Go.Proofs.YtjancemacdffbaaDoor
