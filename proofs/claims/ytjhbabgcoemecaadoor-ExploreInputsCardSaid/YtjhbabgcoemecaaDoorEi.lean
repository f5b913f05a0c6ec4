/- The law ExploreInputs. -/
import Derived.Test.YtjhbabgcoemecaaDoorR31
import Derived.Test.YtjhbabgcoemecaaDoorIb
namespace Go.Proofs.YtjhbabgcoemecaaDoor
open Go.RowKit
set_option maxHeartbeats 1000000 in
theorem exploreInputs_law (c h k : Int) (w : World) (hL : Cr.Laid w) : Calls Tryd.prog 3 #[.int .i64 c, .int .i64 h, .int .i64 k] w fun e w' => e = .returned (.bool true) ∧ Below w.heap.size w w' := by
  have HA := Lib.hid (Cr.of_run Cr.run13 hL)
  clear hL
  go_enter Tryd.func3, Tryd.ntmps3
  go_wp2_with fail
  refine (input11_any c h k w).mono ?_
  rintro e w1 ⟨rfl, rfl⟩
  go_wp2_with fail
  refine (input12_any c h k w).mono ?_
  rintro e w1 ⟨rfl, rfl⟩
  go_wp2_with fail
  refine HA.out.mono ?_
  rintro e w1 ⟨rfl, hb⟩
  go_wp2_with fail
  go_ret
  exact ⟨rfl, hb⟩
end Go.Proofs.YtjhbabgcoemecaaDoor
