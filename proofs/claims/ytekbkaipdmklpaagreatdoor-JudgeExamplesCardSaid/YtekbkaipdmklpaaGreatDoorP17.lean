/- Pieces of the run, each by the kernel. -/
import Derived.Test.YtekbkaipdmklpaaGreatDoorSz
import Derived.KernelRfl
namespace Go.Proofs.YtekbkaipdmklpaaGreatDoor
namespace Cr
open Go Go.RowKit
open Sn
namespace Rn
set_option maxRecDepth 1000000 in
theorem p48 : piece selfX x29 c31 f45 (litH m40 259) .norm f46 m47 293 = true := by kernel_rfl
set_option maxRecDepth 1000000 in
theorem p87 : piece selfX x14 c84 f81 (litH m82 785) .ret f85 m86 816 = true := by kernel_rfl
set_option maxRecDepth 1000000 in
theorem p117 : piece selfX x18 c114 f110 (litH m113 1104) .ret f115 m116 1191 = true := by kernel_rfl
set_option maxRecDepth 1000000 in
theorem p355 : piece selfX x417 c275 f346 (litH m180 2095) .norm f353 m354 2128 = true := by kernel_rfl
set_option maxRecDepth 1000000 in
theorem p448 : piece selfX x18 c114 f443 (litH m445 2361) .ret f446 m447 2448 = true := by kernel_rfl
set_option maxRecDepth 1000000 in
theorem p861 : piece selfX x18 c114 f856 (litH m858 7717) .ret f859 m860 7804 = true := by kernel_rfl
set_option maxRecDepth 1000000 in
theorem p1166 : piece selfX x29 c31 f1162 (litH m1163 8937) .norm f1164 m1165 8971 = true := by kernel_rfl
set_option maxRecDepth 1000000 in
theorem p1180 : piece selfX x29 c31 f1177 (litH m1172 9023) .norm f1178 m1179 9057 = true := by kernel_rfl
set_option maxRecDepth 1000000 in
theorem p1257 : piece selfX x18 c114 f1252 (litH m1254 9639) .ret f1255 m1256 9726 = true := by kernel_rfl
set_option maxRecDepth 1000000 in
theorem p1516 : piece selfX x18 c114 f1511 (litH m1513 10890) .ret f1514 m1515 10977 = true := by kernel_rfl
end Rn
end Cr
end Go.Proofs.YtekbkaipdmklpaaGreatDoor
