/- Pieces of the run, each by the kernel. -/
import Derived.Test.YtekbkaipdmklpaaGreatDoorSz
import Derived.KernelRfl
namespace Go.Proofs.YtekbkaipdmklpaaGreatDoor
namespace Cr
open Go Go.RowKit
open Sn
namespace Rn
set_option maxRecDepth 1000000 in
theorem p400 : piece selfX x22 c134 f392 (litH m393 2158) .ret f399 m393 2158 = true := by kernel_rfl
set_option maxRecDepth 1000000 in
theorem p1186 : litRun callX 33 f1184 (litH m1185 9154) (tu [(ag [(i 0), (i 0)]), (i 0)]) m1185 9271 = true := by kernel_rfl
set_option maxRecDepth 1000000 in
theorem p1379 : pieceC selfX x64 c197 14 f1375 (litH m1376 10373) f1377 m1378 10628 = true := by kernel_rfl
end Rn
end Cr
end Go.Proofs.YtekbkaipdmklpaaGreatDoor
