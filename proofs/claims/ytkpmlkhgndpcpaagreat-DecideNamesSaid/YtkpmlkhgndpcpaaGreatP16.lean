/- Pieces of the run, each by the kernel. -/
import Derived.Test.YtkpmlkhgndpcpaaGreatSz
import Derived.KernelRfl
namespace Go.Proofs.YtkpmlkhgndpcpaaGreat
namespace Cr
open Go Go.RowKit
open Sn
namespace Rn
set_option maxRecDepth 1000000 in
theorem p323 : pieceN selfX x18 c122 4 f318 (litH m319 6754) f321 m322 6829 = true := by kernel_rfl
set_option maxRecDepth 1000000 in
theorem p326 : pieceN selfX x18 c122 2 f321 (litH m322 6829) f324 m325 6920 = true := by kernel_rfl
set_option maxRecDepth 1000000 in
theorem p389 : pieceN selfX x18 c122 2 f384 (litH m385 8491) f387 m388 8565 = true := by kernel_rfl
end Rn
end Cr
end Go.Proofs.YtkpmlkhgndpcpaaGreat
