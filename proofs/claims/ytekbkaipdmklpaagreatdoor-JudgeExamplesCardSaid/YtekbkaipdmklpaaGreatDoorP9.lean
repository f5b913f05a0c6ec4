/- Pieces of the run, each by the kernel. -/
import Derived.Test.YtekbkaipdmklpaaGreatDoorSz
import Derived.KernelRfl
namespace Go.Proofs.YtekbkaipdmklpaaGreatDoor
namespace Cr
open Go Go.RowKit
open Sn
namespace Rn
set_option maxRecDepth 1000000 in
theorem p226 : piece selfX x110 c221 f223 (litH m224 1831) .norm f225 m224 1831 = true := by kernel_rfl
set_option maxRecDepth 1000000 in
theorem p1190 : litRun (cM [12] [M1161, M1169, M1176, M1183, M1188]) 12 f20 (litH m1153 8777) (tu [(ag [(i 2), (q 8929 2), (s0 0 0), (s0 0 0), (sc 9149 0 7 8 7)]), (ag [(i 0), (i 0)]), (i 0)]) m1189 9272 = true := by kernel_rfl
set_option maxRecDepth 1000000 in
theorem p1874 : piece selfX x67 c820 f1870 (litH m1871 13717) .ret f1872 m1873 14403 = true := by kernel_rfl
end Rn
end Cr
end Go.Proofs.YtekbkaipdmklpaaGreatDoor
