/- A closed run, by the kernel. -/
import Derived.Test.YtjhbabgcoemecaaGreatDoorAq
import Derived.KernelRfl
namespace Go.Proofs.YtjhbabgcoemecaaGreatDoor
namespace Cr
open Go Go.RowKit
set_option maxRecDepth 1000000 in
theorem run5 : runY 5 = true := by kernel_rfl
end Cr
end Go.Proofs.YtjhbabgcoemecaaGreatDoor
