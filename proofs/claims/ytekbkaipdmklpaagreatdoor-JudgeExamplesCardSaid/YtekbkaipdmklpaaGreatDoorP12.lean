/- Pieces of the run, each by the kernel. -/
import Derived.Test.YtekbkaipdmklpaaGreatDoorSz
import Derived.KernelRfl
namespace Go.Proofs.YtekbkaipdmklpaaGreatDoor
namespace Cr
open Go Go.RowKit
open Sn
namespace Rn
set_option maxRecDepth 1000000 in
theorem p541 : piece (sM [] [M538]) x426 c193 f490 (litH m491 2858) .norm f539 m540 3088 = true := by kernel_rfl
set_option maxRecDepth 1000000 in
theorem p832 : litRun (cM [6] [M451, M687, M830]) 6 f443 (litH m442 2284) (tu [(ag [(y 1), (y 0), (i 0), (q 6563 2), (q 6569 2), ff, ff, (i 0), (i 0), (i 0)]), (i 0)]) m831 6573 = true := by kernel_rfl
set_option maxRecDepth 1000000 in
theorem p1774 : piece selfX x104 c1771 f1768 (litH m1769 12508) .ret f1772 m1773 13072 = true := by kernel_rfl
set_option maxRecDepth 1000000 in
theorem p1794 : pieceC selfX x64 c197 9 f1790 (litH m1791 13073) f1792 m1793 13527 = true := by kernel_rfl
end Rn
end Cr
end Go.Proofs.YtekbkaipdmklpaaGreatDoor
