/- Pieces of the run, each by the kernel. -/
import Derived.Test.YtekbkaipdmklpaaGreatDoorSz
import Derived.KernelRfl
namespace Go.Proofs.YtekbkaipdmklpaaGreatDoor
namespace Cr
open Go Go.RowKit
open Sn
namespace Rn
set_option maxRecDepth 1000000 in
theorem p306 : piece selfX x110 c221 f302 (litH m303 2095) .norm f304 m305 2095 = true := by kernel_rfl
set_option maxRecDepth 1000000 in
theorem p708 : pieceC selfX x64 c705 2 f702 (litH m703 4850) f706 m707 5474 = true := by kernel_rfl
set_option maxRecDepth 1000000 in
theorem p767 : piece selfX x110 c221 f763 (litH m764 5865) .norm f765 m766 5865 = true := by kernel_rfl
set_option maxRecDepth 1000000 in
theorem p1798 : pieceC selfX x64 c1795 5 f1792 (litH m1793 13527) f1796 m1797 13694 = true := by kernel_rfl
end Rn
end Cr
end Go.Proofs.YtekbkaipdmklpaaGreatDoor
