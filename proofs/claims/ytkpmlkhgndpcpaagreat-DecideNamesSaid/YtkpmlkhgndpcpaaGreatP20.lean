/- Pieces of the run, each by the kernel. -/
import Derived.Test.YtkpmlkhgndpcpaaGreatSz
import Derived.KernelRfl
namespace Go.Proofs.YtkpmlkhgndpcpaaGreat
namespace Cr
open Go Go.RowKit
open Sn
namespace Rn
set_option maxRecDepth 1000000 in
theorem p63 : pieceC selfX x18 c60 6 f56 (litH m57 1720) f61 m62 1732 = true := by kernel_rfl
set_option maxRecDepth 1000000 in
theorem p92 : piece selfX x32 c82 f87 (litH m88 2696) (.exit 0) f90 m91 2969 = true := by kernel_rfl
set_option maxRecDepth 1000000 in
theorem p125 : pieceN selfX x18 c122 2 f116 (litH m106 3037) f123 m124 3090 = true := by kernel_rfl
set_option maxRecDepth 1000000 in
theorem p317 : pieceN selfX x18 c122 2 f312 (litH m313 6597) f315 m316 6659 = true := by kernel_rfl
end Rn
end Cr
end Go.Proofs.YtkpmlkhgndpcpaaGreat
