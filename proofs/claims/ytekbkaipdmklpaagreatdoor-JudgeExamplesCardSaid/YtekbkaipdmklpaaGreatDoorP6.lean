/- Pieces of the run, each by the kernel. -/
import Derived.Test.YtekbkaipdmklpaaGreatDoorSz
import Derived.KernelRfl
namespace Go.Proofs.YtekbkaipdmklpaaGreatDoor
namespace Cr
open Go Go.RowKit
open Sn
namespace Rn
set_option maxRecDepth 1000000 in
theorem p55 : litRun callX 33 f52 (litH m53 390) (tu [(ag [(i 0), (i 0)]), (i 0)]) m53 507 = true := by kernel_rfl
set_option maxRecDepth 1000000 in
theorem p65 : restI PR spX selfX (comp PR) GG x5 c17 2 f61 (litH m58 508) f63 m64 510 = true := by kernel_rfl
set_option maxRecDepth 1000000 in
theorem p983 : pieceC selfX x64 c197 14 f979 (litH m980 8451) f981 m982 8706 = true := by kernel_rfl
end Rn
end Cr
end Go.Proofs.YtekbkaipdmklpaaGreatDoor
