/- Pieces of the run, each by the kernel. -/
import Derived.Test.YtekbkaipdmklpaaGreatDoorSz
import Derived.KernelRfl
namespace Go.Proofs.YtekbkaipdmklpaaGreatDoor
namespace Cr
open Go Go.RowKit
open Sn
namespace Rn
set_option maxRecDepth 1000000 in
theorem p131 : pieceC selfX x22 c128 8 f124 (litH m125 1197) f129 m130 1330 = true := by kernel_rfl
set_option maxRecDepth 1000000 in
theorem p171 : pieceC selfX x407 c168 7 f166 (litH m165 1430) f169 m170 1513 = true := by kernel_rfl
set_option maxRecDepth 1000000 in
theorem p394 : piece selfX x22 c135 f164 (litH m373 2128) (.exit 0) f392 m393 2158 = true := by kernel_rfl
set_option maxRecDepth 1000000 in
theorem p459 : pieceC selfX x22 c128 8 f454 (litH m455 2454) f457 m458 2587 = true := by kernel_rfl
set_option maxRecDepth 1000000 in
theorem p462 : pieceN selfX x22 c136 2 f457 (litH m458 2587) f460 m461 2685 = true := by kernel_rfl
set_option maxRecDepth 1000000 in
theorem p480 : pieceC selfX x407 c168 7 f476 (litH m475 2687) f478 m479 2770 = true := by kernel_rfl
set_option maxRecDepth 1000000 in
theorem p781 : piece selfX x110 c221 f778 (litH m779 5865) .norm f765 m780 5865 = true := by kernel_rfl
set_option maxRecDepth 1000000 in
theorem p828 : litRun (cM [24, 99] [M699, M817, M826]) 24 f688 (litH m689 3418) (tu [(ag [(i 0), (q 6563 2), (q 6569 2), ff]), tt]) m827 6572 = true := by kernel_rfl
set_option maxRecDepth 1000000 in
theorem p872 : pieceC selfX x22 c128 8 f867 (litH m868 7810) f870 m871 7943 = true := by kernel_rfl
set_option maxRecDepth 1000000 in
theorem p875 : pieceN selfX x22 c136 2 f870 (litH m871 7943) f873 m874 8041 = true := by kernel_rfl
set_option maxRecDepth 1000000 in
theorem p893 : pieceC selfX x407 c168 7 f889 (litH m888 8043) f891 m892 8126 = true := by kernel_rfl
set_option maxRecDepth 1000000 in
theorem p1268 : pieceC selfX x22 c128 8 f1263 (litH m1264 9732) f1266 m1267 9865 = true := by kernel_rfl
set_option maxRecDepth 1000000 in
theorem p1271 : pieceN selfX x22 c136 2 f1266 (litH m1267 9865) f1269 m1270 9963 = true := by kernel_rfl
set_option maxRecDepth 1000000 in
theorem p1512 : callPreI PR spX selfX (comp PR) GG x10 c1507 0 2 f1501 (litH m1502 10803) f1509 m1510 10813 6 f1511 = true := by kernel_rfl
set_option maxRecDepth 1000000 in
theorem p1527 : pieceC selfX x22 c128 8 f1522 (litH m1523 10983) f1525 m1526 11116 = true := by kernel_rfl
set_option maxRecDepth 1000000 in
theorem p1530 : pieceN selfX x22 c136 2 f1525 (litH m1526 11116) f1528 m1529 11214 = true := by kernel_rfl
set_option maxRecDepth 1000000 in
theorem p1835 : piece selfX x110 c221 f1832 (litH m1833 13696) .norm f1819 m1834 13696 = true := by kernel_rfl
end Rn
end Cr
end Go.Proofs.YtekbkaipdmklpaaGreatDoor
