/- Pieces of the run, each by the kernel. -/
import Derived.Test.YtekbkaipdmklpaaGreatDoorSz
import Derived.KernelRfl
namespace Go.Proofs.YtekbkaipdmklpaaGreatDoor
namespace Cr
open Go Go.RowKit
open Sn
namespace Rn
set_option maxRecDepth 1000000 in
theorem p1202 : pieceC selfX x5 c18 3 f1194 (litH m1195 9274) f1200 m1201 9407 = true := by kernel_rfl
set_option maxRecDepth 1000000 in
theorem p1211 : piece selfX x14 c84 f1206 (litH m1207 9528) .ret f1209 m1210 9551 = true := by kernel_rfl
set_option maxRecDepth 1000000 in
theorem p1565 : pieceC selfX x64 c197 14 f1561 (litH m1562 11389) f1563 m1564 11615 = true := by kernel_rfl
set_option maxRecDepth 1000000 in
theorem p1638 : pieceC selfX x64 c197 14 f1634 (litH m1635 11624) f1636 m1637 11879 = true := by kernel_rfl
end Rn
end Cr
end Go.Proofs.YtekbkaipdmklpaaGreatDoor
