/- Walks of the closures of LatticeLaws; the plain laws that it asks. -/
import Derived.Test.YtjancemacdffbaaDoorLw6
import Derived.Test.YtjancemacdffbaaDoorPl6
namespace Go.Proofs.YtjancemacdffbaaDoor
open Go.RowKit

set_option maxHeartbeats 400000 in
theorem join_cl (lb b n : Nat) (x y : Int) (up dn : Nat → Nat) (w : World) (hT : Tab w) (h : LatC w b n up dn) (hc : w.cell? ⟨lb, 0, none⟩ = some (.pointer (some ⟨b, 0, none⟩))) :
    Calls Tryd.prog 22 #[.int .i64 x, .int .i64 y, .pointer (some ⟨lb, 0, none⟩)] w fun e w' => e = .returned (.int .i64 (jv n up x y)) ∧ Same w w' := by
  have H1 := Lib.hid (join_any b n x y up dn w hT h)
  generalize jv n up x y = J at *
  generalize jc n x y = c at *
  clear h hT
  go_enter Tryd.func22, Tryd.ntmps22
  go_wp2_with fail
  refine H1.out.mono ?_
  rintro e w1 ⟨rfl, hS⟩
  go_wp2_with fail
  go_ret
  exact ⟨rfl, hS⟩

set_option maxHeartbeats 400000 in
theorem meet_cl (lb b n : Nat) (x y : Int) (up dn : Nat → Nat) (w : World) (hT : Tab w) (h : LatC w b n up dn) (hc : w.cell? ⟨lb, 0, none⟩ = some (.pointer (some ⟨b, 0, none⟩))) :
    Calls Tryd.prog 23 #[.int .i64 x, .int .i64 y, .pointer (some ⟨lb, 0, none⟩)] w fun e w' => e = .returned (.int .i64 (jv n dn x y)) ∧ Same w w' := by
  have H1 := Lib.hid (meet_any b n x y up dn w hT h)
  generalize jv n dn x y = J at *
  generalize jc n x y = c at *
  clear h hT
  go_enter Tryd.func23, Tryd.ntmps23
  go_wp2_with fail
  refine H1.out.mono ?_
  rintro e w1 ⟨rfl, hS⟩
  go_wp2_with fail
  go_ret
  exact ⟨rfl, hS⟩

section
variable {n : Nat} {ps : List (Int × Int)} {up dn : Nat → Nat}
/-- the join and the meet of two levels, as levels -/
theorem join_lev (hn : n ≤ 32) (h : IsLat n ps up dn) {i j : Nat} (hi : i < n) (hj : j < n) {k : Nat} (hk : IsJoin ps n i j k) : jv n up i j = k := by
  obtain ⟨m, e, hm⟩ := jv_up hn h hi hj
  rw [e, IsJoin.uniq h.anti hm hk]
theorem meet_lev (hn : n ≤ 32) (h : IsLat n ps up dn) {i j : Nat} (hi : i < n) (hj : j < n) {k : Nat} (hk : IsMeet ps n i j k) : jv n dn i j = k := by
  obtain ⟨m, e, hm⟩ := jv_dn hn h hi hj
  rw [e, IsMeet.uniq h.anti hm hk]
theorem ex_join (h : IsLat n ps up dn) {i j : Nat} (hi : i < n) (hj : j < n) : ∃ k, IsJoin ps n i j k := (h.full i j hi hj).1
theorem ex_meet (h : IsLat n ps up dn) {i j : Nat} (hi : i < n) (hj : j < n) : ∃ k, IsMeet ps n i j k := (h.full i j hi hj).2
theorem IsJoin.assoc {a b c d e f : Nat} (h1 : IsJoin ps n a b d) (h2 : IsJoin ps n d c e) (h3 : IsJoin ps n b c f) : IsJoin ps n a f e := by
  refine ⟨h2.1, h1.2.1.trans h2.2.1, h3.2.2.2 e h2.1 (h1.2.2.1.trans h2.2.1) h2.2.2.1, fun m hm ha hf => ?_⟩
  exact h2.2.2.2 m hm (h1.2.2.2 m hm ha (h3.2.1.trans hf)) (h3.2.2.1.trans hf)
theorem IsMeet.assoc {a b c d e f : Nat} (h1 : IsMeet ps n a b d) (h2 : IsMeet ps n d c e) (h3 : IsMeet ps n b c f) : IsMeet ps n a f e := by
  refine ⟨h2.1, h2.2.1.trans h1.2.1, h3.2.2.2 e h2.1 (h2.2.1.trans h1.2.2.1) h2.2.2.1, fun m hm ha hf => ?_⟩
  exact h2.2.2.2 m hm (h1.2.2.2 m hm ha (hf.trans h3.2.1)) (hf.trans h3.2.2.1)
theorem IsJoin.absorb {a b m : Nat} (ha : a < n) (h : IsMeet ps n a b m) : IsJoin ps n a m a := ⟨ha, RT.refl _ _, h.2.1, fun _ _ h1 _ => h1⟩
theorem IsMeet.absorb {a b m : Nat} (ha : a < n) (h : IsJoin ps n a b m) : IsMeet ps n a m a := ⟨ha, RT.refl _ _, h.2.1, fun _ _ h1 _ => h1⟩
end

end Go.Proofs.YtjancemacdffbaaDoor
