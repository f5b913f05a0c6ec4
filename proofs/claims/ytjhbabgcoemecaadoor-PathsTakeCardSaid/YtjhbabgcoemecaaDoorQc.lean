/- The closed facts of the row, by the kernel. -/
import Derived.Test.YtjhbabgcoemecaaDoorFr
import Derived.JoinedCond
namespace Go.Proofs.YtjhbabgcoemecaaDoor.PathsTake
open Go.ChangeShapes Go.WideShapes Go.ChangeAt Go.RowKit
set_option maxRecDepth 100000
theorem closedFacts : joinedFacts Tryd.pinned.checked.prog 9 Tryd.f9 (OpenSpec.ofChange Rows.pathsTakeSpec).bare Rows.pathsTakeRow = true := by kernel_rfl
end Go.Proofs.YtjhbabgcoemecaaDoor.PathsTake
