/- Pieces of the run, each by the kernel. -/
import Derived.Test.YtekbkaipdmklpaaGreatDoorSz
import Derived.KernelRfl
namespace Go.Proofs.YtekbkaipdmklpaaGreatDoor
namespace Cr
open Go Go.RowKit
open Sn
namespace Rn
set_option maxRecDepth 1000000 in
theorem p570 : pieceC selfX x64 c197 14 f566 (litH m567 3095) f568 m569 3350 = true := by kernel_rfl
set_option maxRecDepth 1000000 in
theorem p1208 : pieceC selfX x14 c80 2 f1204 (litH m1201 9407) f1206 m1207 9528 = true := by kernel_rfl
end Rn
end Cr
end Go.Proofs.YtekbkaipdmklpaaGreatDoor
