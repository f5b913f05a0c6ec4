/- A closed run, by the kernel. -/
import Derived.Test.YtjhbabgcoemecaaGreatDoorAw
import Derived.KernelRfl
namespace Go.Proofs.YtjhbabgcoemecaaGreatDoor
namespace Cr
open Go Go.RowKit
set_option maxRecDepth 1000000 in
theorem run7 : runX 7 = true := by kernel_rfl
end Cr
end Go.Proofs.YtjhbabgcoemecaaGreatDoor
