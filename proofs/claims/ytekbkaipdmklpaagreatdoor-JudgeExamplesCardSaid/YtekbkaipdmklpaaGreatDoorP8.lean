/- Pieces of the run, each by the kernel. -/
import Derived.Test.YtekbkaipdmklpaaGreatDoorSz
import Derived.KernelRfl
namespace Go.Proofs.YtekbkaipdmklpaaGreatDoor
namespace Cr
open Go Go.RowKit
open Sn
namespace Rn
set_option maxRecDepth 1000000 in
theorem p59 : litRun (cM [12] [M28, M37, M44, M51, M57]) 12 f20 (litH m14 13) (tu [(ag [(i 2), (q 165 2), (s0 0 0), (s0 0 0), (sc 385 0 7 8 7)]), (ag [(i 0), (i 0)]), (i 0)]) m58 508 = true := by kernel_rfl
set_option maxRecDepth 1000000 in
theorem p256 : piece (sM [] [M253]) x426 c193 f189 (litH m190 1601) .norm f254 m255 1831 = true := by kernel_rfl
set_option maxRecDepth 1000000 in
theorem p823 : piece selfX x67 c820 f818 (litH m819 5886) .ret f821 m822 6572 = true := by kernel_rfl
end Rn
end Cr
end Go.Proofs.YtekbkaipdmklpaaGreatDoor
