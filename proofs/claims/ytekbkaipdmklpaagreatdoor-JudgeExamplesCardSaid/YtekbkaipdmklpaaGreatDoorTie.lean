/-
  DERIVED. GIVEN WITH THE SEED: THE PROGRAM's TIES (one call each: nine closed facts by the kernel) AND EACH ROW's TIE, after the 31st guide's Derived/Test/Toyas{Tie, Card}.lean. No idea stands in it: it is a product of the set-up. Laid BY PROGRAM, IN A SANDBOX (cutbox-door.mjs). By AI agents, Wed Nov 11 2026. No macro, syntax, notation, axiom, sorry.
-/
import Derived.Test.YtekbkaipdmklpaaGreatDoorRows
import Derived.LaidByTextLater
import Derived.SevenTiedAt
import Derived.LaidSub
import Derived.LaidOnce
namespace Go.Proofs.YtekbkaipdmklpaaGreatDoor
open Go
set_option maxRecDepth 100000
theorem seatTie1 : Tryz.prog.laidByTextLater [("math/bits.deBruijn32tab", Rows.laid_math_bits_deBruijn32tab), ("weephole/policy.kinds", Rows.laid_weephole_policy_kinds), ("weephole/prog.keywords", Rows.laid_weephole_prog_keywords), ("weephole/prog.forms", Rows.laid_weephole_prog_forms), ("weephole/flat.shapes", Rows.laid_weephole_flat_shapes), ("weephole/mach.kinds", Rows.laid_weephole_mach_kinds), ("weephole/explore.steps", Rows.laid_weephole_explore_steps), ("weephole/query.compare", Rows.laid_weephole_query_compare)] [.data, .funcs, .widerDeep, .data, .data, .funcs, .funcs, .funcs] true :=
  Program.laidByTextLater_by_one 131 8 41 (by kernel_rfl) (by kernel_rfl) (by kernel_rfl) (by kernel_rfl) (by kernel_rfl) (by kernel_rfl) (fun _ _ => by kernel_rfl)
theorem noOwnUnsafe : Tryz.pinned.checked.prog.headLifts.contains "ownunsafe" = false := by kernel_rfl
theorem tie : Tryz.prog.laidByTextLater [("math/bits.deBruijn32tab", Rows.laid_math_bits_deBruijn32tab), ("weephole/policy.kinds", Rows.laid_weephole_policy_kinds), ("weephole/prog.keywords", Rows.laid_weephole_prog_keywords), ("weephole/prog.forms", Rows.laid_weephole_prog_forms), ("weephole/flat.shapes", Rows.laid_weephole_flat_shapes), ("weephole/mach.kinds", Rows.laid_weephole_mach_kinds), ("weephole/explore.steps", Rows.laid_weephole_explore_steps), ("weephole/query.compare", Rows.laid_weephole_query_compare)] [.data, .funcs, .widerDeep, .data, .data, .funcs, .funcs, .funcs] true :=
  Program.laidByTextLater.sub seatTie1 ["math/bits.deBruijn32tab", "weephole/policy.kinds", "weephole/prog.keywords", "weephole/prog.forms", "weephole/flat.shapes", "weephole/mach.kinds", "weephole/explore.steps", "weephole/query.compare"] (by kernel_rfl) (by kernel_rfl)
theorem judgeExamples_row_tie : Rows.judgeExamplesRow.laidByTextAt .later Tryz.pinned [.data, .funcs, .widerDeep, .data, .data, .funcs, .funcs, .funcs] true :=
  OpenClaim.laidByTextAt_later rfl rfl tie noOwnUnsafe
theorem judgeExamplesUpto_row_tie : Rows.judgeExamplesUptoRow.laidByTextAt .later Tryz.pinned [.data, .funcs, .widerDeep, .data, .data, .funcs, .funcs, .funcs] true :=
  OpenClaim.laidByTextAt_later rfl rfl tie noOwnUnsafe
end Go.Proofs.YtekbkaipdmklpaaGreatDoor
