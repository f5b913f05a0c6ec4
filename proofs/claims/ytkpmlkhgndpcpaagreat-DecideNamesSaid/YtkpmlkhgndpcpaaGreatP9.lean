/- Pieces of the run, each by the kernel. -/
import Derived.Test.YtkpmlkhgndpcpaaGreatSz
import Derived.KernelRfl
namespace Go.Proofs.YtkpmlkhgndpcpaaGreat
namespace Cr
open Go Go.RowKit
open Sn
namespace Rn
set_option maxRecDepth 1000000 in
theorem p17 : pieceC selfX x4 c14 4 f12 (litH m11 3) f15 m16 142 = true := by kernel_rfl
set_option maxRecDepth 1000000 in
theorem p320 : pieceN selfX x18 c122 5 f315 (litH m316 6659) f318 m319 6754 = true := by kernel_rfl
set_option maxRecDepth 1000000 in
theorem p374 : pieceN selfX x18 c122 4 f369 (litH m370 8010) f372 m373 8119 = true := by kernel_rfl
end Rn
end Cr
end Go.Proofs.YtkpmlkhgndpcpaaGreat
