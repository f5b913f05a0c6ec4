/- Pieces of the run, each by the kernel. -/
import Derived.Test.YtekbkaipdmklpaaGreatDoorSz
import Derived.KernelRfl
namespace Go.Proofs.YtekbkaipdmklpaaGreatDoor
namespace Cr
open Go Go.RowKit
open Sn
namespace Rn
set_option maxRecDepth 1000000 in
theorem p432 : restI PR spX selfX (comp PR) GG x3 c8 1 f428 (litH m429 2268) f431 m429 2272 = true := by kernel_rfl
set_option maxRecDepth 1000000 in
theorem p696 : piece selfX x62 c693 f691 (litH m692 3460) .ret f694 m695 4731 = true := by kernel_rfl
set_option maxRecDepth 1000000 in
theorem p910 : pieceC selfX x64 c197 14 f906 (litH m907 8216) f908 m909 8442 = true := by kernel_rfl
set_option maxRecDepth 1000000 in
theorem p1109 : pieceC selfX x3 c855 1 f1104 (litH m1105 8769) f1108 m1105 8773 = true := by kernel_rfl
end Rn
end Cr
end Go.Proofs.YtekbkaipdmklpaaGreatDoor
