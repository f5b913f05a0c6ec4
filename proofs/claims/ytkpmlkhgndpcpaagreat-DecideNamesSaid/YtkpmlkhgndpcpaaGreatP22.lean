/- Pieces of the run, each by the kernel. -/
import Derived.Test.YtkpmlkhgndpcpaaGreatSz
import Derived.KernelRfl
namespace Go.Proofs.YtkpmlkhgndpcpaaGreat
namespace Cr
open Go Go.RowKit
open Sn
namespace Rn
set_option maxRecDepth 1000000 in
theorem p100 : piece selfX x32 c78 f90 (litH m91 2969) .ret f98 m99 3037 = true := by kernel_rfl
set_option maxRecDepth 1000000 in
theorem p238 : pieceC selfX x4 c14 4 f234 (litH m233 3196) f236 m237 3331 = true := by kernel_rfl
set_option maxRecDepth 1000000 in
theorem p477 : pieceC selfX x4 c14 4 f473 (litH m470 8945) f475 m476 9078 = true := by kernel_rfl
set_option maxRecDepth 1000000 in
theorem p543 : pieceC selfX x4 c14 4 f539 (litH m538 9113) f541 m542 9248 = true := by kernel_rfl
set_option maxRecDepth 1000000 in
theorem p614 : pieceC selfX x3 c7 1 f600 (litH m601 9738) f612 m613 9871 = true := by kernel_rfl
set_option maxRecDepth 1000000 in
theorem p675 : pieceC selfX x4 c14 4 f671 (litH m670 9883) f673 m674 10020 = true := by kernel_rfl
set_option maxRecDepth 1000000 in
theorem p841 : pieceC selfX x4 c14 4 f837 (litH m836 12012) f839 m840 12147 = true := by kernel_rfl
set_option maxRecDepth 1000000 in
theorem p878 : piece selfX x32 c78 f869 (litH m870 14252) .ret f876 m877 14322 = true := by kernel_rfl
end Rn
end Cr
end Go.Proofs.YtkpmlkhgndpcpaaGreat
