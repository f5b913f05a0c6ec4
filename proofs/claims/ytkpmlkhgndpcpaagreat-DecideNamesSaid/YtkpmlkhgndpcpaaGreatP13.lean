/- Pieces of the run, each by the kernel. -/
import Derived.Test.YtkpmlkhgndpcpaaGreatSz
import Derived.KernelRfl
namespace Go.Proofs.YtkpmlkhgndpcpaaGreat
namespace Cr
open Go Go.RowKit
open Sn
namespace Rn
set_option maxRecDepth 1000000 in
theorem p133 : piece selfX x18 c130 f127 (litH m128 3191) .ret f131 m132 3192 = true := by kernel_rfl
set_option maxRecDepth 1000000 in
theorem p274 : piece selfX x32 c82 f269 (litH m270 5704) (.exit 0) f272 m273 6083 = true := by kernel_rfl
set_option maxRecDepth 1000000 in
theorem p359 : pieceN selfX x18 c122 3 f354 (litH m355 7722) f357 m358 7761 = true := by kernel_rfl
end Rn
end Cr
end Go.Proofs.YtkpmlkhgndpcpaaGreat
