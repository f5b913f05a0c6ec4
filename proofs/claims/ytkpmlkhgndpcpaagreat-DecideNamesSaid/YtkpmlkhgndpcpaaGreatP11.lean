/- Pieces of the run, each by the kernel. -/
import Derived.Test.YtkpmlkhgndpcpaaGreatSz
import Derived.KernelRfl
namespace Go.Proofs.YtkpmlkhgndpcpaaGreat
namespace Cr
open Go Go.RowKit
open Sn
namespace Rn
set_option maxRecDepth 1000000 in
theorem p129 : pieceC selfX x18 c126 1 f123 (litH m124 3090) f127 m128 3191 = true := by kernel_rfl
set_option maxRecDepth 1000000 in
theorem p302 : pieceN selfX x18 c122 6 f298 (litH m288 6091) f300 m301 6259 = true := by kernel_rfl
set_option maxRecDepth 1000000 in
theorem p308 : pieceN selfX x18 c122 1 f303 (litH m304 6350) f306 m307 6430 = true := by kernel_rfl
end Rn
end Cr
end Go.Proofs.YtkpmlkhgndpcpaaGreat
