/- Pieces of the run, each by the kernel. -/
import Derived.Test.YtkpmlkhgndpcpaaGreatSz
import Derived.KernelRfl
namespace Go.Proofs.YtkpmlkhgndpcpaaGreat
namespace Cr
open Go Go.RowKit
open Sn
namespace Rn
set_option maxRecDepth 1000000 in
theorem p157 : pieceC selfX x6 c50 4 f150 (litH m151 3193) f156 m151 3193 = true := by kernel_rfl
set_option maxRecDepth 1000000 in
theorem p167 : pieceC selfX x20 c164 4 f162 (litH m151 3193) f165 m166 3194 = true := by kernel_rfl
set_option maxRecDepth 1000000 in
theorem p220 : restI PR spX selfX (comp PR) GG x4 c19 3 f216 (litH m217 3195) f219 m217 3195 = true := by kernel_rfl
set_option maxRecDepth 1000000 in
theorem p282 : piece selfX x32 c78 f272 (litH m273 6083) .ret f280 m281 6091 = true := by kernel_rfl
set_option maxRecDepth 1000000 in
theorem p311 : pieceN selfX x18 c122 1 f306 (litH m307 6430) f309 m310 6529 = true := by kernel_rfl
set_option maxRecDepth 1000000 in
theorem p386 : pieceN selfX x18 c122 4 f381 (litH m382 8386) f384 m385 8491 = true := by kernel_rfl
set_option maxRecDepth 1000000 in
theorem p459 : restI PR spX selfX (comp PR) GG x4 c19 3 f455 (litH m456 8945) f458 m456 8945 = true := by kernel_rfl
set_option maxRecDepth 1000000 in
theorem p464 : piece selfX x4 c20 f458 (litH m456 8945) .ret f463 m456 8945 = true := by kernel_rfl
set_option maxRecDepth 1000000 in
theorem p483 : pieceC selfX x6 c24 14 f479 (litH m476 9078) f481 m482 9110 = true := by kernel_rfl
set_option maxRecDepth 1000000 in
theorem p492 : pieceC selfX x20 c164 4 f488 (litH m482 9110) f490 m491 9111 = true := by kernel_rfl
set_option maxRecDepth 1000000 in
theorem p525 : restI PR spX selfX (comp PR) GG x4 c19 3 f521 (litH m522 9112) f524 m522 9112 = true := by kernel_rfl
set_option maxRecDepth 1000000 in
theorem p555 : pieceC selfX x20 c164 4 f551 (litH m548 9309) f553 m554 9310 = true := by kernel_rfl
set_option maxRecDepth 1000000 in
theorem p588 : restI PR spX selfX (comp PR) GG x4 c19 3 f584 (litH m585 9311) f587 m585 9311 = true := by kernel_rfl
set_option maxRecDepth 1000000 in
theorem p593 : piece selfX x4 c20 f587 (litH m585 9311) .ret f592 m585 9311 = true := by kernel_rfl
set_option maxRecDepth 1000000 in
theorem p632 : piece selfX x14 c630 f628 (litH m619 9872) .ret f631 m619 9872 = true := by kernel_rfl
set_option maxRecDepth 1000000 in
theorem p643 : piece selfX x6 c626 f637 (litH m619 9872) .ret f642 m619 9872 = true := by kernel_rfl
set_option maxRecDepth 1000000 in
theorem p651 : restI PR spX selfX (comp PR) GG x3 c616 5 f648 (litH m619 9872) f650 m619 9872 = true := by kernel_rfl
set_option maxRecDepth 1000000 in
theorem p747 : pieceC selfX x6 c247 4 f740 (litH m741 12008) f746 m741 12008 = true := by kernel_rfl
set_option maxRecDepth 1000000 in
theorem p756 : pieceC selfX x20 c164 4 f752 (litH m741 12008) f754 m755 12009 = true := by kernel_rfl
set_option maxRecDepth 1000000 in
theorem p823 : restI PR spX selfX (comp PR) GG x4 c19 3 f819 (litH m820 12010) f822 m820 12010 = true := by kernel_rfl
set_option maxRecDepth 1000000 in
theorem p828 : piece selfX x4 c20 f822 (litH m820 12010) .ret f827 m820 12010 = true := by kernel_rfl
set_option maxRecDepth 1000000 in
theorem p893 : piece selfX x18 c68 f886 (litH m884 14322) .ret f891 m892 14325 = true := by kernel_rfl
set_option maxRecDepth 1000000 in
theorem p911 : piece selfX x6 c247 f904 (litH m905 14326) .ret f910 m905 14326 = true := by kernel_rfl
set_option maxRecDepth 1000000 in
theorem p919 : restI PR spX selfX (comp PR) GG x4 c19 3 f916 (litH m840 14326) f918 m840 14326 = true := by kernel_rfl
set_option maxRecDepth 1000000 in
theorem p924 : piece selfX x4 c20 f918 (litH m840 14326) .ret f923 m840 14326 = true := by kernel_rfl
end Rn
end Cr
end Go.Proofs.YtkpmlkhgndpcpaaGreat
