/- Pieces of the run, each by the kernel. -/
import Derived.Test.YtekbkaipdmklpaaGreatDoorSz
import Derived.KernelRfl
namespace Go.Proofs.YtekbkaipdmklpaaGreatDoor
namespace Cr
open Go Go.RowKit
open Sn
namespace Rn
set_option maxRecDepth 1000000 in
theorem p139 : pieceN selfX x22 c136 2 f129 (litH m130 1330) f137 m138 1428 = true := by kernel_rfl
set_option maxRecDepth 1000000 in
theorem p336 : piece (sM [] [M333]) x426 c193 f283 (litH m284 1836) .norm f334 m335 2095 = true := by kernel_rfl
set_option maxRecDepth 1000000 in
theorem p724 : pieceC selfX x108 c721 9 f717 (litH m718 5504) f722 m723 5823 = true := by kernel_rfl
set_option maxRecDepth 1000000 in
theorem p844 : pieceC selfX x3 c440 5 f836 (litH m837 6574) f842 m843 6990 = true := by kernel_rfl
end Rn
end Cr
end Go.Proofs.YtekbkaipdmklpaaGreatDoor
