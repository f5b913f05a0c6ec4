/- Pieces of the run, each by the kernel. -/
import Derived.Test.YtkpmlkhgndpcpaaGreatSz
import Derived.KernelRfl
namespace Go.Proofs.YtkpmlkhgndpcpaaGreat
namespace Cr
open Go Go.RowKit
open Sn
namespace Rn
set_option maxRecDepth 1000000 in
theorem p377 : pieceN selfX x18 c122 2 f372 (litH m373 8119) f375 m376 8174 = true := by kernel_rfl
set_option maxRecDepth 1000000 in
theorem p395 : pieceN selfX x18 c122 3 f390 (litH m391 8677) f393 m394 8763 = true := by kernel_rfl
set_option maxRecDepth 1000000 in
theorem p705 : piece selfX x32 c82 f700 (litH m701 11507) (.exit 0) f703 m704 11882 = true := by kernel_rfl
end Rn
end Cr
end Go.Proofs.YtkpmlkhgndpcpaaGreat
