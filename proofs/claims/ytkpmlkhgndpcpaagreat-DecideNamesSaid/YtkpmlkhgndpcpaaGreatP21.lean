/- Pieces of the run, each by the kernel. -/
import Derived.Test.YtkpmlkhgndpcpaaGreatSz
import Derived.KernelRfl
namespace Go.Proofs.YtkpmlkhgndpcpaaGreat
namespace Cr
open Go Go.RowKit
open Sn
namespace Rn
set_option maxRecDepth 1000000 in
theorem p41 : piece selfX x6 c34 f36 (litH m37 1231) (.exit 0) f39 m40 1615 = true := by kernel_rfl
set_option maxRecDepth 1000000 in
theorem p347 : pieceC selfX x18 c126 1 f342 (litH m343 7494) f345 m346 7590 = true := by kernel_rfl
set_option maxRecDepth 1000000 in
theorem p401 : piece selfX x18 c121 f396 (litH m397 8867) .ret f399 m400 8944 = true := by kernel_rfl
set_option maxRecDepth 1000000 in
theorem p691 : pieceC selfX x18 c60 6 f686 (litH m687 11031) f689 m690 11043 = true := by kernel_rfl
set_option maxRecDepth 1000000 in
theorem p712 : piece selfX x32 c78 f703 (litH m704 11882) .ret f710 m711 12006 = true := by kernel_rfl
end Rn
end Cr
end Go.Proofs.YtkpmlkhgndpcpaaGreat
