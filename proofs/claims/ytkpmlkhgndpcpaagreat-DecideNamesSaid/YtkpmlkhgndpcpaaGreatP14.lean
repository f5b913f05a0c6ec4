/- Pieces of the run, each by the kernel. -/
import Derived.Test.YtkpmlkhgndpcpaaGreatSz
import Derived.KernelRfl
namespace Go.Proofs.YtkpmlkhgndpcpaaGreat
namespace Cr
open Go Go.RowKit
open Sn
namespace Rn
set_option maxRecDepth 1000000 in
theorem p38 : pieceN selfX x6 c35 1 f31 (litH m26 192) f36 m37 1231 = true := by kernel_rfl
set_option maxRecDepth 1000000 in
theorem p329 : pieceN selfX x18 c122 1 f324 (litH m325 6920) f327 m328 6991 = true := by kernel_rfl
set_option maxRecDepth 1000000 in
theorem p681 : pieceC selfX x6 c24 9 f677 (litH m674 10020) f679 m680 10961 = true := by kernel_rfl
end Rn
end Cr
end Go.Proofs.YtkpmlkhgndpcpaaGreat
