/- The closed facts of the row, by the kernel. -/
import Derived.Test.YtjhbabgcoemecaaGreatDoorFr
import Derived.JoinedCond
namespace Go.Proofs.YtjhbabgcoemecaaGreatDoor.QueryExamples
open Go.ChangeShapes Go.WideShapes Go.ChangeAt Go.RowKit
set_option maxRecDepth 100000
theorem closedFacts : joinedFacts Tryz.pinned.checked.prog 5 Tryz.f5 (OpenSpec.ofChange Rows.queryExamplesSpec).bare Rows.queryExamplesRow = true := by kernel_rfl
end Go.Proofs.YtjhbabgcoemecaaGreatDoor.QueryExamples
