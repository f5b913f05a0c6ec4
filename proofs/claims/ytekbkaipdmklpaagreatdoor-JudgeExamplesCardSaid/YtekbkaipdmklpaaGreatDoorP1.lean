/- Pieces of the run, each by the kernel. -/
import Derived.Test.YtekbkaipdmklpaaGreatDoorSz
import Derived.KernelRfl
namespace Go.Proofs.YtekbkaipdmklpaaGreatDoor
namespace Cr
open Go Go.RowKit
open Sn
namespace Rn
set_option maxRecDepth 1000000 in
theorem p200 : pieceC selfX x64 c197 14 f195 (litH m196 1603) f198 m199 1829 = true := by kernel_rfl
set_option maxRecDepth 1000000 in
theorem p848 : pieceC selfX x3 c845 2 f842 (litH m843 6990) f846 m847 7630 = true := by kernel_rfl
end Rn
end Cr
end Go.Proofs.YtekbkaipdmklpaaGreatDoor
