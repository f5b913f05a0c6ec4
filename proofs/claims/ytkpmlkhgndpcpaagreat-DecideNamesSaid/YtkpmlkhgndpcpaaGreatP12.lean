/- Pieces of the run, each by the kernel. -/
import Derived.Test.YtkpmlkhgndpcpaaGreatSz
import Derived.KernelRfl
namespace Go.Proofs.YtkpmlkhgndpcpaaGreat
namespace Cr
open Go Go.RowKit
open Sn
namespace Rn
set_option maxRecDepth 1000000 in
theorem p257 : pieceC selfX x18 c60 6 f252 (litH m253 4768) f255 m256 4780 = true := by kernel_rfl
set_option maxRecDepth 1000000 in
theorem p371 : pieceN selfX x18 c122 2 f363 (litH m364 7906) f369 m370 8010 = true := by kernel_rfl
set_option maxRecDepth 1000000 in
theorem p847 : pieceC selfX x6 c24 9 f843 (litH m840 12147) f845 m846 13216 = true := by kernel_rfl
end Rn
end Cr
end Go.Proofs.YtkpmlkhgndpcpaaGreat
