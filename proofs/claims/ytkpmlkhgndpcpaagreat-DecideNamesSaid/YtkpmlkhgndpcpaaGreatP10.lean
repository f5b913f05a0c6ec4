/- Pieces of the run, each by the kernel. -/
import Derived.Test.YtkpmlkhgndpcpaaGreatSz
import Derived.KernelRfl
namespace Go.Proofs.YtkpmlkhgndpcpaaGreat
namespace Cr
open Go Go.RowKit
open Sn
namespace Rn
set_option maxRecDepth 1000000 in
theorem p244 : pieceC selfX x6 c24 9 f240 (litH m237 3331) f242 m243 4667 = true := by kernel_rfl
set_option maxRecDepth 1000000 in
theorem p398 : pieceN selfX x18 c122 3 f393 (litH m394 8763) f396 m397 8867 = true := by kernel_rfl
set_option maxRecDepth 1000000 in
theorem p857 : pieceC selfX x18 c60 6 f852 (litH m853 13295) f855 m856 13307 = true := by kernel_rfl
end Rn
end Cr
end Go.Proofs.YtkpmlkhgndpcpaaGreat
