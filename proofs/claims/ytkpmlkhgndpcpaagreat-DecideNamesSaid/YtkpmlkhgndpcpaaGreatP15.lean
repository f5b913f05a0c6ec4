/- Pieces of the run, each by the kernel. -/
import Derived.Test.YtkpmlkhgndpcpaaGreatSz
import Derived.KernelRfl
namespace Go.Proofs.YtkpmlkhgndpcpaaGreat
namespace Cr
open Go Go.RowKit
open Sn
namespace Rn
set_option maxRecDepth 1000000 in
theorem p335 : pieceN selfX x18 c122 2 f330 (litH m331 7104) f333 m334 7197 = true := by kernel_rfl
set_option maxRecDepth 1000000 in
theorem p365 : piece selfX x18 c130 f360 (litH m361 7894) .norm f363 m364 7906 = true := by kernel_rfl
set_option maxRecDepth 1000000 in
theorem p602 : restI PR spX selfX (comp PR) GG x3 c8 17 f598 (litH m538 9311) f600 m601 9738 = true := by kernel_rfl
end Rn
end Cr
end Go.Proofs.YtkpmlkhgndpcpaaGreat
