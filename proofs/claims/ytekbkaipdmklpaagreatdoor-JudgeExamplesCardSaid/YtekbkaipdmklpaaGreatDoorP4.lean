/- Pieces of the run, each by the kernel. -/
import Derived.Test.YtekbkaipdmklpaaGreatDoorSz
import Derived.KernelRfl
namespace Go.Proofs.YtekbkaipdmklpaaGreatDoor
namespace Cr
open Go Go.RowKit
open Sn
namespace Rn
set_option maxRecDepth 1000000 in
theorem p83 : pieceC selfX x14 c80 2 f78 (litH m70 664) f81 m82 785 = true := by kernel_rfl
set_option maxRecDepth 1000000 in
theorem p290 : pieceC selfX x64 c197 14 f286 (litH m287 1838) f288 m289 2093 = true := by kernel_rfl
end Rn
end Cr
end Go.Proofs.YtekbkaipdmklpaaGreatDoor
