/- Pieces of the run, each by the kernel. -/
import Derived.Test.YtkpmlkhgndpcpaaGreatSz
import Derived.KernelRfl
namespace Go.Proofs.YtkpmlkhgndpcpaaGreat
namespace Cr
open Go Go.RowKit
open Sn
namespace Rn
set_option maxRecDepth 1000000 in
theorem p89 : pieceN selfX x32 c83 36 f84 (litH m85 2228) f87 m88 2696 = true := by kernel_rfl
set_option maxRecDepth 1000000 in
theorem p225 : piece selfX x4 c20 f219 (litH m217 3195) .ret f224 m217 3195 = true := by kernel_rfl
set_option maxRecDepth 1000000 in
theorem p251 : callPreI PR spX selfX (comp PR) GG x6 c246 0 6 f242 (litH m243 4667) f248 m249 4766 18 f250 = true := by kernel_rfl
set_option maxRecDepth 1000000 in
theorem p271 : pieceN selfX x32 c83 33 f266 (litH m267 5244) f269 m270 5704 = true := by kernel_rfl
set_option maxRecDepth 1000000 in
theorem p685 : callPreI PR spX selfX (comp PR) GG x6 c246 0 6 f679 (litH m680 10961) f682 m683 11029 18 f684 = true := by kernel_rfl
end Rn
end Cr
end Go.Proofs.YtkpmlkhgndpcpaaGreat
