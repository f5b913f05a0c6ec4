/- Pieces of the run, each by the kernel. -/
import Derived.Test.YtkpmlkhgndpcpaaGreatSz
import Derived.KernelRfl
namespace Go.Proofs.YtkpmlkhgndpcpaaGreat
namespace Cr
open Go Go.RowKit
open Sn
namespace Rn
set_option maxRecDepth 1000000 in
theorem p305 : pieceN selfX x18 c122 2 f300 (litH m301 6259) f303 m304 6350 = true := by kernel_rfl
set_option maxRecDepth 1000000 in
theorem p450 : piece selfX x6 c247 f443 (litH m444 8945) .ret f449 m444 8945 = true := by kernel_rfl
set_option maxRecDepth 1000000 in
theorem p549 : pieceC selfX x6 c24 14 f545 (litH m542 9248) f547 m548 9309 = true := by kernel_rfl
set_option maxRecDepth 1000000 in
theorem p868 : pieceN selfX x32 c83 40 f864 (litH m862 13308) f866 m867 13803 = true := by kernel_rfl
end Rn
end Cr
end Go.Proofs.YtkpmlkhgndpcpaaGreat
