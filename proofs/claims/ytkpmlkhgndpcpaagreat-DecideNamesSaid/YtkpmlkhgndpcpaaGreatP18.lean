/- Pieces of the run, each by the kernel. -/
import Derived.Test.YtkpmlkhgndpcpaaGreatSz
import Derived.KernelRfl
namespace Go.Proofs.YtkpmlkhgndpcpaaGreat
namespace Cr
open Go Go.RowKit
open Sn
namespace Rn
set_option maxRecDepth 1000000 in
theorem p314 : pieceN selfX x18 c122 3 f309 (litH m310 6529) f312 m313 6597 = true := by kernel_rfl
set_option maxRecDepth 1000000 in
theorem p338 : pieceN selfX x18 c122 1 f333 (litH m334 7197) f336 m337 7286 = true := by kernel_rfl
set_option maxRecDepth 1000000 in
theorem p344 : pieceN selfX x18 c122 2 f339 (litH m340 7397) f342 m343 7494 = true := by kernel_rfl
end Rn
end Cr
end Go.Proofs.YtkpmlkhgndpcpaaGreat
