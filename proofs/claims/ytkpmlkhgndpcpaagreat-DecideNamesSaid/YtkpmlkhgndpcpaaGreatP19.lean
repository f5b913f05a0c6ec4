/- Pieces of the run, each by the kernel. -/
import Derived.Test.YtkpmlkhgndpcpaaGreatSz
import Derived.KernelRfl
namespace Go.Proofs.YtkpmlkhgndpcpaaGreat
namespace Cr
open Go Go.RowKit
open Sn
namespace Rn
set_option maxRecDepth 1000000 in
theorem p350 : piece selfX x18 c130 f345 (litH m346 7590) .norm f348 m349 7610 = true := by kernel_rfl
set_option maxRecDepth 1000000 in
theorem p362 : pieceC selfX x18 c126 1 f357 (litH m358 7761) f360 m361 7894 = true := by kernel_rfl
set_option maxRecDepth 1000000 in
theorem p730 : piece selfX x18 c66 f720 (litH m718 12006) .ret f728 m729 12007 = true := by kernel_rfl
end Rn
end Cr
end Go.Proofs.YtkpmlkhgndpcpaaGreat
