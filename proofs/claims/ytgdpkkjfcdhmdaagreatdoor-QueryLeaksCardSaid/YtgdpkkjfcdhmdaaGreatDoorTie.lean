/-
  DERIVED. GIVEN WITH THE SEED: THE PROGRAM's TIES (one call each: nine closed facts by the kernel) AND EACH ROW's TIE, after the 31st guide's Derived/Test/Toyas{Tie, Card}.lean. No idea stands in it: it is a product of the set-up. Laid BY PROGRAM, IN A SANDBOX (cutbox-door.mjs). By AI agents, Wed Nov 11 2026. No macro, syntax, notation, axiom, sorry.
-/
import Derived.Test.YtgdpkkjfcdhmdaaGreatDoorRows
import Derived.LaidByTextLater
import Derived.SevenTiedAt
import Derived.LaidSub
import Derived.LaidOnce
namespace Go.Proofs.YtgdpkkjfcdhmdaaGreatDoor
open Go
set_option maxRecDepth 100000
theorem seatTie1 : Tryz.prog.laidByTextLater [("math/bits.deBruijn32tab", Rows.laid_math_bits_deBruijn32tab), ("weephole/flat.shapes", Rows.laid_weephole_flat_shapes), ("weephole/explore.steps", Rows.laid_weephole_explore_steps), ("weephole/query.compare", Rows.laid_weephole_query_compare)] [.data, .data, .funcs, .funcs] true :=
  Program.laidByTextLater_by_one 89 8 41 (by kernel_rfl) (by kernel_rfl) (by kernel_rfl) (by kernel_rfl) (by kernel_rfl) (by kernel_rfl) (fun _ _ => by kernel_rfl)
theorem noOwnUnsafe : Tryz.pinned.checked.prog.headLifts.contains "ownunsafe" = false := by kernel_rfl
theorem tie : Tryz.prog.laidByTextLater [("math/bits.deBruijn32tab", Rows.laid_math_bits_deBruijn32tab), ("weephole/flat.shapes", Rows.laid_weephole_flat_shapes), ("weephole/explore.steps", Rows.laid_weephole_explore_steps), ("weephole/query.compare", Rows.laid_weephole_query_compare)] [.data, .data, .funcs, .funcs] true :=
  Program.laidByTextLater.sub seatTie1 ["math/bits.deBruijn32tab", "weephole/flat.shapes", "weephole/explore.steps", "weephole/query.compare"] (by kernel_rfl) (by kernel_rfl)
theorem queryLeaks_row_tie : Rows.queryLeaksRow.laidByTextAt .later Tryz.pinned [.data, .data, .funcs, .funcs] true :=
  OpenClaim.laidByTextAt_later rfl rfl tie noOwnUnsafe
theorem querySafe_row_tie : Rows.querySafeRow.laidByTextAt .later Tryz.pinned [.data, .data, .funcs, .funcs] true :=
  OpenClaim.laidByTextAt_later rfl rfl tie noOwnUnsafe
theorem queryTurns_row_tie : Rows.queryTurnsRow.laidByTextAt .later Tryz.pinned [.data, .data, .funcs, .funcs] true :=
  OpenClaim.laidByTextAt_later rfl rfl tie noOwnUnsafe
theorem queryLeaksUpto_row_tie : Rows.queryLeaksUptoRow.laidByTextAt .later Tryz.pinned [.data, .data, .funcs, .funcs] true :=
  OpenClaim.laidByTextAt_later rfl rfl tie noOwnUnsafe
theorem querySafeUpto_row_tie : Rows.querySafeUptoRow.laidByTextAt .later Tryz.pinned [.data, .data, .funcs, .funcs] true :=
  OpenClaim.laidByTextAt_later rfl rfl tie noOwnUnsafe
theorem queryTurnsUpto_row_tie : Rows.queryTurnsUptoRow.laidByTextAt .later Tryz.pinned [.data, .data, .funcs, .funcs] true :=
  OpenClaim.laidByTextAt_later rfl rfl tie noOwnUnsafe
end Go.Proofs.YtgdpkkjfcdhmdaaGreatDoor
