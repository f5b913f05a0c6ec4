/- Pieces of the run, each by the kernel. -/
import Derived.Test.YtkpmlkhgndpcpaaGreatSz
import Derived.KernelRfl
namespace Go.Proofs.YtkpmlkhgndpcpaaGreat
namespace Cr
open Go Go.RowKit
open Sn
namespace Rn
set_option maxRecDepth 1000000 in
theorem p54 : callPreI PR spX selfX (comp PR) GG x6 c49 0 6 f46 (litH m40 1615) f51 m52 1718 18 f53 = true := by kernel_rfl
set_option maxRecDepth 1000000 in
theorem p86 : pieceN selfX x32 c83 40 f79 (litH m74 1733) f84 m85 2228 = true := by kernel_rfl
set_option maxRecDepth 1000000 in
theorem p185 : piece selfX x20 c178 f181 (litH m182 3195) .norm f183 m184 3195 = true := by kernel_rfl
set_option maxRecDepth 1000000 in
theorem p380 : pieceN selfX x18 c122 3 f375 (litH m376 8174) f378 m379 8318 = true := by kernel_rfl
set_option maxRecDepth 1000000 in
theorem p657 : pieceC selfX x3 c617 3 f650 (litH m619 9872) f655 m656 9881 = true := by kernel_rfl
set_option maxRecDepth 1000000 in
theorem p662 : callPreI PR spX selfX (comp PR) GG x3 c659 0 45 f655 (litH m656 9881) f661 m656 9881 7 f0 = true := by kernel_rfl
end Rn
end Cr
end Go.Proofs.YtkpmlkhgndpcpaaGreat
