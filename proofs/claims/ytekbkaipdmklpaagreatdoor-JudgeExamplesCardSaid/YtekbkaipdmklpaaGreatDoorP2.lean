/- Pieces of the run, each by the kernel. -/
import Derived.Test.YtekbkaipdmklpaaGreatDoorSz
import Derived.KernelRfl
namespace Go.Proofs.YtekbkaipdmklpaaGreatDoor
namespace Cr
open Go Go.RowKit
open Sn
namespace Rn
set_option maxRecDepth 1000000 in
theorem p105 : pieceC selfX x5 c74 2 f99 (litH m94 817) f103 m104 1027 = true := by kernel_rfl
set_option maxRecDepth 1000000 in
theorem p145 : pieceC selfX x22 c142 2 f137 (litH m138 1428) f143 m144 1429 = true := by kernel_rfl
set_option maxRecDepth 1000000 in
theorem p497 : pieceC selfX x64 c197 14 f493 (litH m494 2860) f495 m496 3086 = true := by kernel_rfl
set_option maxRecDepth 1000000 in
theorem p1894 : piece selfX x10 c1508 f1887 (litH m1888 14405) .ret f1893 m1888 14409 = true := by kernel_rfl
end Rn
end Cr
end Go.Proofs.YtekbkaipdmklpaaGreatDoor
