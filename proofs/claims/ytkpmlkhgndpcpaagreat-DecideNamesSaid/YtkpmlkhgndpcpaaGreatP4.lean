/- Pieces of the run, each by the kernel. -/
import Derived.Test.YtkpmlkhgndpcpaaGreatSz
import Derived.KernelRfl
namespace Go.Proofs.YtkpmlkhgndpcpaaGreat
namespace Cr
open Go Go.RowKit
open Sn
namespace Rn
set_option maxRecDepth 1000000 in
theorem p27 : pieceC selfX x6 c24 7 f22 (litH m16 142) f25 m26 192 = true := by kernel_rfl
set_option maxRecDepth 1000000 in
theorem p268 : pieceN selfX x32 c83 34 f264 (litH m262 4781) f266 m267 5244 = true := by kernel_rfl
set_option maxRecDepth 1000000 in
theorem p530 : piece selfX x4 c20 f524 (litH m522 9112) .ret f529 m522 9112 = true := by kernel_rfl
set_option maxRecDepth 1000000 in
theorem p702 : pieceN selfX x32 c83 34 f698 (litH m696 11044) f700 m701 11507 = true := by kernel_rfl
set_option maxRecDepth 1000000 in
theorem p765 : piece selfX x20 c178 f762 (litH m763 12010) .norm f764 m763 12010 = true := by kernel_rfl
set_option maxRecDepth 1000000 in
theorem p770 : piece selfX x20 c178 f766 (litH m767 12010) .norm f768 m769 12010 = true := by kernel_rfl
set_option maxRecDepth 1000000 in
theorem p784 : piece selfX x20 c178 f781 (litH m782 12010) .norm f768 m783 12010 = true := by kernel_rfl
set_option maxRecDepth 1000000 in
theorem p788 : piece selfX x20 c178 f785 (litH m786 12010) .norm f787 m786 12010 = true := by kernel_rfl
set_option maxRecDepth 1000000 in
theorem p851 : callPreI PR spX selfX (comp PR) GG x6 c246 0 6 f845 (litH m846 13216) f848 m849 13293 18 f850 = true := by kernel_rfl
end Rn
end Cr
end Go.Proofs.YtkpmlkhgndpcpaaGreat
