/- Pieces of the run, each by the kernel. -/
import Derived.Test.YtkpmlkhgndpcpaaGreatSz
import Derived.KernelRfl
namespace Go.Proofs.YtkpmlkhgndpcpaaGreat
namespace Cr
open Go Go.RowKit
open Sn
namespace Rn
set_option maxRecDepth 1000000 in
theorem p341 : pieceN selfX x18 c122 3 f336 (litH m337 7286) f339 m340 7397 = true := by kernel_rfl
set_option maxRecDepth 1000000 in
theorem p871 : piece selfX x32 c82 f866 (litH m867 13803) (.exit 0) f869 m870 14252 = true := by kernel_rfl
end Rn
end Cr
end Go.Proofs.YtkpmlkhgndpcpaaGreat
