/- Pieces of the run, each by the kernel. -/
import Derived.Test.YtekbkaipdmklpaaGreatDoorSz
import Derived.KernelRfl
namespace Go.Proofs.YtekbkaipdmklpaaGreatDoor
namespace Cr
open Go Go.RowKit
open Sn
namespace Rn
set_option maxRecDepth 1000000 in
theorem p41 : piece selfX x29 c31 f38 (litH m33 207) .norm f39 m40 259 = true := by kernel_rfl
set_option maxRecDepth 1000000 in
theorem p408 : litRun (cM [6] [M120, M407]) 6 f110 (litH m104 1027) (tu [(ag [(y 0), (y 0), (i 0), (s0 0 0), (s0 0 0), ff, ff, (i 0), (i 0), (i 0)]), (i 0)]) m104 2267 = true := by kernel_rfl
set_option maxRecDepth 1000000 in
theorem p728 : piece selfX x108 c725 f722 (litH m723 5823) .ret f726 m727 5862 = true := by kernel_rfl
set_option maxRecDepth 1000000 in
theorem p1395 : piece selfX x110 c221 f1391 (litH m1392 10630) .norm f1393 m1394 10630 = true := by kernel_rfl
set_option maxRecDepth 1000000 in
theorem p1497 : litRun (cM [6] [M1260, M1496]) 6 f1252 (litH m1251 9562) (tu [(ag [(y 0), (y 0), (i 0), (s0 0 0), (s0 0 0), ff, ff, (i 0), (i 0), (i 0)]), (i 0)]) m1251 10802 = true := by kernel_rfl
set_option maxRecDepth 1000000 in
theorem p1654 : piece selfX x110 c221 f1650 (litH m1651 11881) .norm f1652 m1653 11881 = true := by kernel_rfl
set_option maxRecDepth 1000000 in
theorem p1879 : litRun (cM [24, 99] [M1789, M1869, M1877]) 24 f1756 (litH m1757 11949) (tu [(ag [(i 0), (q 14394 2), (q 14400 2), tt]), tt]) m1878 14403 = true := by kernel_rfl
end Rn
end Cr
end Go.Proofs.YtekbkaipdmklpaaGreatDoor
