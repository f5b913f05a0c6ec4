/- A closed run, by the kernel. -/
import Derived.Test.YtjhbabgcoemecaaDoorS1
import Derived.KernelRfl
namespace Go.Proofs.YtjhbabgcoemecaaDoor
namespace Cr
open Go Go.RowKit
set_option maxRecDepth 1000000 in
theorem run18 : runX 18 = true := by kernel_rfl
end Cr
end Go.Proofs.YtjhbabgcoemecaaDoor
