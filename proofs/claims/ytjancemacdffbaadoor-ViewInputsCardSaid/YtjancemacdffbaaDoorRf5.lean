/- Walks: CopyPairs, EqualPairs of the statements' kit. -/
import Derived.Test.YtjancemacdffbaaDoorRf4
import Derived.Test.YtjancemacdffbaaDoorAp
import Derived.Laws.StructEq
namespace Go.Proofs.YtjancemacdffbaaDoor
open Go.RowKit

set_option maxHeartbeats 400000 in
theorem copyPairs_any (a : Option Addr) (len cap : Nat) (ps : List (Int × Int)) (w : World) (hlen : ps.length = len) (hp : PairsAt w a ps) (hl : len ≤ 100000) :
    Calls Tryd.prog 28 #[.slice a len cap] w (OwnRet w ps) := by
  have HP := Lib.hid hp
  have HLEN := Lib.hid hlen
  clear hp hlen
  go_enter Tryd.func28, Tryd.ntmps28
  go_wp2_with fail
  go_loopw [3, 4] (fun v i wr => ∃ k : Nat, k ≤ len ∧ i = .int .i64 k ∧ OwnP wr w.heap.size v (ps.take k) ∧ Below w.heap.size w wr) (fun _ i _ => len - (intOf i).toNat)
  case atStart => exact ⟨0, by omega, rfl, OwnP.nil _ _, Below.refl _ _⟩
  case round =>
    obtain ⟨k, hk, rfl, hown, hbel⟩ := hrel
    have hsz := hbel.size
    by_cases hlt : k < len
    · have hq : k < ps.length := by rw [HLEN.out]; exact hlt
      obtain ⟨pb, po, rfl, hpb, hp0, hp1⟩ := HP.out k hq
      have hp0' := (hbel.cell (p := ⟨pb, po + k * 2, none⟩) hpb).trans hp0
      have hp1' := (hbel.cell (p := ⟨pb, po + k * 2 + 1, none⟩) hpb).trans hp1
      have Ht := Lib.hid (take_succ_getD ps k hq)
      have hlt2 : (ps.take k).length ≤ 100000 := by rw [List.length_take]; omega
      clear hp0 hp1 hq
      generalize ps.getD k (0, 0) = pq at *
      obtain ⟨x, y⟩ := pq
      simp only at hp0' hp1'
      go_wp2_with (at_builtin; refine app_new [(x, y)] rfl _ _ rfl rfl hown rfl rfl (by omega) hsz ?_)
      intro v' w1 r1 r2
      clear hown
      go_wp2_with fail
      go_roundw
      case rel => exact ⟨k + 1, by omega, by go_num, by rw [Ht.out]; exact r1, hbel.trans r2⟩
      case measure => simp [intOf]; omega
    · obtain rfl : k = len := by omega
      have hown2 : OwnP wr w.heap.size u3 ps := by rw [← HLEN.out, List.take_length] at hown; exact hown
      clear hown
      go_wp2_with fail
      go_ret
      exact ⟨_, rfl, hown2, hbel⟩

theorem size3 : (Tryd.prog.info? 3).map (·.size) = some 1 := by kernel_rfl
theorem eq_pair (x y x' y' : Int) (W : World) : (Op.equalIn 10000 29 (.agg #[.int .i64 x, .int .i64 y]) (.agg #[.int .i64 x', .int .i64 y'])).run Tryd.prog W = .ok (x == x' && y == y') W := by
  obtain ⟨i3, h3, hs3⟩ := Option.map_eq_some_iff.1 size3
  rw [show (10000 : Nat) = 9998 + 1 + 1 from rfl, Op.equalIn]
  cases hx : (x == x') <;> cases hy : (y == y') <;>
    simp [run_underlying Tryd.underlying29, Std.Legacy.Range.forIn_eq_forIn_range', List.range', sizeOf, typeInfo, h3, hs3, run_equalIn_int, Tryd.underlying3, part, isAgg, run_underlying Tryd.underlying3, hx, hy]
theorem neq_pair (x y x' y' : Int) (W : World) : (binOp .neq 29 (.agg #[.int .i64 x, .int .i64 y]) (.agg #[.int .i64 x', .int .i64 y'])).run Tryd.prog W = .ok (.bool (!(x == x' && y == y'))) W := by
  rw [run_neq_struct, eq_pair]; rfl

set_option maxHeartbeats 400000 in
theorem equalPairs_true (a b : Option Addr) (len cap cap2 : Nat) (ps : List (Int × Int)) (w : World) (hlen : ps.length = len) (hp : PairsAt w a ps) (hp2 : PairsAt w b ps) (hl : len ≤ 100000) :
    Calls Tryd.prog 30 #[.slice a len cap, .slice b len cap2] w fun e w' => e = .returned (.bool true) ∧ Same w w' := by
  have HP := Lib.hid hp
  have HP2 := Lib.hid hp2
  have HLEN := Lib.hid hlen
  clear hp hlen hp2
  go_enter Tryd.func30, Tryd.ntmps30
  go_wp2_with fail
  go_loopw [5] (fun i wr => ∃ k : Nat, k ≤ len ∧ i = .int .i64 k ∧ Same w wr) (fun i _ => len - (intOf i).toNat)
  case atStart => exact ⟨0, by omega, rfl, Same.refl _⟩
  case round =>
    obtain ⟨k, hk, rfl, hS⟩ := hrel
    by_cases hlt : k < len
    · have hq : k < ps.length := by rw [HLEN.out]; exact hlt
      obtain ⟨pb, po, rfl, hpb, hp0, hp1⟩ := HP.out k hq
      obtain ⟨qb, qo, rfl, hqb, hq0, hq1⟩ := HP2.out k hq
      have hp0' := (hS.cell ⟨pb, po + k * 2, none⟩).trans hp0
      have hp1' := (hS.cell ⟨pb, po + k * 2 + 1, none⟩).trans hp1
      have hq0' := (hS.cell ⟨qb, qo + k * 2, none⟩).trans hq0
      have hq1' := (hS.cell ⟨qb, qo + k * 2 + 1, none⟩).trans hq1
      have hlt2 : (k : Int) < len := by omega
      clear hp0 hp1 hq0 hq1 hq
      generalize ps.getD k (0, 0) = pq at *
      obtain ⟨x, y⟩ := pq
      simp only at hp0' hp1' hq0' hq1'
      have hnq : ∀ W, (binOp .neq 29 (.agg #[.int .i64 x, .int .i64 y]) (.agg #[.int .i64 x, .int .i64 y])).run Tryd.prog W = .ok (.bool false) W := fun W => (neq_pair x y x y W).trans (by simp)
      go_wp2_with fail
      go_quiet (fail)
      go_wp2_with fail
      go_roundw
      case rel => exact ⟨k + 1, by omega, by go_num, hS.drewN _⟩
      case measure => simp [intOf]; omega
    · go_wp2_with fail
      go_ret
      exact ⟨rfl, hS⟩

end Go.Proofs.YtjancemacdffbaaDoor
