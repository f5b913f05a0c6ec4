/- Pieces of the run, each by the kernel. -/
import Derived.Test.YtekbkaipdmklpaaGreatDoorSz
import Derived.KernelRfl
namespace Go.Proofs.YtekbkaipdmklpaaGreatDoor
namespace Cr
open Go Go.RowKit
open Sn
namespace Rn
set_option maxRecDepth 1000000 in
theorem p26 : litRun callX 27 f20 (litH m23 16) (tu [(q 100 12), (ag [(i 0), (i 0)]), (i 0)]) m25 101 = true := by kernel_rfl
set_option maxRecDepth 1000000 in
theorem p34 : piece selfX x29 c31 f29 (litH m30 173) .norm f32 m33 207 = true := by kernel_rfl
set_option maxRecDepth 1000000 in
theorem p616 : piece (sM [] [M613]) x426 c193 f563 (litH m564 3093) .norm f614 m615 3352 = true := by kernel_rfl
set_option maxRecDepth 1000000 in
theorem p704 : pieceC selfX x64 c197 7 f700 (litH m701 4732) f702 m703 4850 = true := by kernel_rfl
set_option maxRecDepth 1000000 in
theorem p715 : callPreI PR spX selfX (comp PR) GG x64 c710 0 6 f706 (litH m707 5474) f712 m713 5502 108 f714 = true := by kernel_rfl
set_option maxRecDepth 1000000 in
theorem p1101 : litRun (cM [6] [M864, M1100]) 6 f856 (litH m857 7640) (tu [(ag [(y 2), (y 1), (i 0), (s0 0 0), (s0 0 0), ff, ff, (i 0), (i 0), (i 0)]), (i 0)]) m857 8769 = true := by kernel_rfl
set_option maxRecDepth 1000000 in
theorem p1159 : litRun callX 27 f20 (litH m1157 8780) (tu [(q 8864 12), (ag [(i 0), (i 0)]), (i 0)]) m1158 8865 = true := by kernel_rfl
set_option maxRecDepth 1000000 in
theorem p1173 : piece selfX x29 c31 f1170 (litH m1165 8971) .norm f1171 m1172 9023 = true := by kernel_rfl
set_option maxRecDepth 1000000 in
theorem p1821 : piece selfX x110 c221 f1817 (litH m1818 13696) .norm f1819 m1820 13696 = true := by kernel_rfl
set_option maxRecDepth 1000000 in
theorem p1883 : litRun (cM [6] [M1519, M1755, M1881]) 6 f1511 (litH m1510 10813) (tu [(ag [(y 1), (y 0), (i 0), (q 14394 2), (q 14400 2), tt, ff, (i 0), (i 0), (i 0)]), (i 0)]) m1882 14404 = true := by kernel_rfl
end Rn
end Cr
end Go.Proofs.YtekbkaipdmklpaaGreatDoor
