/- Pieces of the run, each by the kernel. -/
import Derived.Test.YtekbkaipdmklpaaGreatDoorSz
import Derived.KernelRfl
namespace Go.Proofs.YtekbkaipdmklpaaGreatDoor
namespace Cr
open Go Go.RowKit
open Sn
namespace Rn
set_option maxRecDepth 1000000 in
theorem p71 : pieceC selfX x5 c18 3 f63 (litH m64 510) f69 m70 664 = true := by kernel_rfl
set_option maxRecDepth 1000000 in
theorem p586 : piece selfX x110 c221 f582 (litH m583 3352) .norm f584 m585 3352 = true := by kernel_rfl
set_option maxRecDepth 1000000 in
theorem p999 : piece selfX x110 c221 f995 (litH m996 8708) .norm f997 m998 8708 = true := by kernel_rfl
set_option maxRecDepth 1000000 in
theorem p1253 : callPreI PR spX selfX (comp PR) GG x10 c1248 0 2 f1245 (litH m1235 9552) f1250 m1251 9562 6 f1252 = true := by kernel_rfl
set_option maxRecDepth 1000000 in
theorem p1306 : pieceC selfX x64 c197 14 f1302 (litH m1303 10138) f1304 m1305 10364 = true := by kernel_rfl
set_option maxRecDepth 1000000 in
theorem p1770 : pieceC selfX x104 c1767 15 f1766 (litH m1761 12015) f1768 m1769 12508 = true := by kernel_rfl
end Rn
end Cr
end Go.Proofs.YtekbkaipdmklpaaGreatDoor
