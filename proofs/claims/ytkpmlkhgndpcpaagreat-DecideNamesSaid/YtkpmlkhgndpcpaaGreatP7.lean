/- Pieces of the run, each by the kernel. -/
import Derived.Test.YtkpmlkhgndpcpaaGreatSz
import Derived.KernelRfl
namespace Go.Proofs.YtkpmlkhgndpcpaaGreat
namespace Cr
open Go Go.RowKit
open Sn
namespace Rn
set_option maxRecDepth 1000000 in
theorem p113 : piece selfX x18 c68 f108 (litH m106 3037) .norm f108 m106 3037 = true := by kernel_rfl
set_option maxRecDepth 1000000 in
theorem p187 : piece selfX x20 c178 f186 (litH m184 3195) (.exit 0) f186 m184 3195 = true := by kernel_rfl
set_option maxRecDepth 1000000 in
theorem p194 : nextB PR spX selfX GG x20 c177 f171 (litH m172 3195) [⟨f181, m182, 3195⟩] = true := by kernel_rfl
set_option maxRecDepth 1000000 in
theorem p200 : callMid (comp PR) GG x6 c159 4 f161 (tu [(s 3193 0 1 1), (i 0)]) (litH m180 3195) f199 m180 3195 = true := by kernel_rfl
set_option maxRecDepth 1000000 in
theorem p218 : callMid (comp PR) GG x4 c19 2 f21 (tu [(y 1), (s 3193 0 1 1), (i 0)]) (litH m180 3195) f216 m217 3195 = true := by kernel_rfl
set_option maxRecDepth 1000000 in
theorem p231 : callMid (comp PR) GG x3 c8 2 f10 tt (litH m217 3195) f230 m11 3195 = true := by kernel_rfl
set_option maxRecDepth 1000000 in
theorem p289 : callMid (comp PR) GG x18 c67 2 f258 tt (litH m281 6091) f287 m288 6091 = true := by kernel_rfl
set_option maxRecDepth 1000000 in
theorem p291 : restI PR spX selfX (comp PR) GG x18 c67 3 f287 (litH m288 6091) f290 m288 6091 = true := by kernel_rfl
set_option maxRecDepth 1000000 in
theorem p295 : piece selfX x18 c68 f290 (litH m288 6091) .norm f290 m288 6091 = true := by kernel_rfl
set_option maxRecDepth 1000000 in
theorem p332 : pieceN selfX x18 c122 2 f327 (litH m328 6991) f330 m331 7104 = true := by kernel_rfl
set_option maxRecDepth 1000000 in
theorem p356 : pieceN selfX x18 c122 2 f348 (litH m349 7610) f354 m355 7722 = true := by kernel_rfl
set_option maxRecDepth 1000000 in
theorem p442 : callMid (comp PR) GG x6 c246 6 f248 (tu [(ag [(y 2), (s0 0 0), (q 8943 36)]), (i 0)]) (litH m400 8944) f440 m441 8944 = true := by kernel_rfl
set_option maxRecDepth 1000000 in
theorem p457 : callMid (comp PR) GG x4 c19 2 f239 (tu [(y 2), (s0 0 0), (i 0)]) (litH m444 8945) f455 m456 8945 = true := by kernel_rfl
set_option maxRecDepth 1000000 in
theorem p471 : callMid (comp PR) GG x3 c8 7 f232 tt (litH m456 8945) f469 m470 8945 = true := by kernel_rfl
set_option maxRecDepth 1000000 in
theorem p498 : piece selfX x20 c178 f497 (litH m494 9112) (.exit 0) f497 m494 9112 = true := by kernel_rfl
set_option maxRecDepth 1000000 in
theorem p501 : resHas PR 3 71 f499 (litH m494 9112) Tryz.f20.results.toList (tu [(s 9110 0 0 0), (i 0)]) m491 9112 = true := by kernel_rfl
set_option maxRecDepth 1000000 in
theorem p503 : nextB PR spX selfX GG x20 c177 f493 (litH m494 9112) [⟨f497, m494, 9112⟩] = true := by kernel_rfl
set_option maxRecDepth 1000000 in
theorem p509 : callMid (comp PR) GG x6 c485 4 f487 (tu [(s 9110 0 0 0), (i 0)]) (litH m491 9112) f508 m491 9112 = true := by kernel_rfl
set_option maxRecDepth 1000000 in
theorem p523 : callMid (comp PR) GG x4 c19 2 f478 (tu [(y 1), (s 9110 0 0 0), (i 0)]) (litH m491 9112) f521 m522 9112 = true := by kernel_rfl
set_option maxRecDepth 1000000 in
theorem p536 : callMid (comp PR) GG x3 c8 11 f472 tt (litH m522 9112) f535 m470 9112 = true := by kernel_rfl
set_option maxRecDepth 1000000 in
theorem p561 : piece selfX x20 c178 f560 (litH m557 9311) (.exit 0) f560 m557 9311 = true := by kernel_rfl
set_option maxRecDepth 1000000 in
theorem p564 : resHas PR 3 71 f562 (litH m557 9311) Tryz.f20.results.toList (tu [(s 9309 0 0 0), (i 0)]) m554 9311 = true := by kernel_rfl
set_option maxRecDepth 1000000 in
theorem p566 : nextB PR spX selfX GG x20 c177 f556 (litH m557 9311) [⟨f560, m557, 9311⟩] = true := by kernel_rfl
set_option maxRecDepth 1000000 in
theorem p572 : callMid (comp PR) GG x6 c485 4 f550 (tu [(s 9309 0 0 0), (i 0)]) (litH m554 9311) f571 m554 9311 = true := by kernel_rfl
set_option maxRecDepth 1000000 in
theorem p586 : callMid (comp PR) GG x4 c19 2 f544 (tu [(y 1), (s 9309 0 0 0), (i 0)]) (litH m554 9311) f584 m585 9311 = true := by kernel_rfl
set_option maxRecDepth 1000000 in
theorem p599 : callMid (comp PR) GG x3 c8 16 f537 tt (litH m585 9311) f598 m538 9311 = true := by kernel_rfl
set_option maxRecDepth 1000000 in
theorem p609 : piece selfX x3 c9 f600 (litH m601 9738) .norm f600 m601 9738 = true := by kernel_rfl
set_option maxRecDepth 1000000 in
theorem p636 : callMid (comp PR) GG x6 c625 2 f627 (tu [(s0 0 0), (i 3)]) (litH m619 9872) f635 m619 9872 = true := by kernel_rfl
set_option maxRecDepth 1000000 in
theorem p649 : callMid (comp PR) GG x3 c616 4 f618 (tu [(y 0), (s0 0 0), (i 3)]) (litH m619 9872) f648 m619 9872 = true := by kernel_rfl
set_option maxRecDepth 1000000 in
theorem p665 : pieceC selfX x7 c663 1 f0 (litH m656 9881) f664 m656 9881 = true := by kernel_rfl
set_option maxRecDepth 1000000 in
theorem p719 : callMid (comp PR) GG x18 c67 2 f692 tt (litH m711 12006) f717 m718 12006 = true := by kernel_rfl
set_option maxRecDepth 1000000 in
theorem p721 : restI PR spX selfX (comp PR) GG x18 c67 3 f717 (litH m718 12006) f720 m718 12006 = true := by kernel_rfl
set_option maxRecDepth 1000000 in
theorem p725 : piece selfX x18 c68 f720 (litH m718 12006) .norm f720 m718 12006 = true := by kernel_rfl
set_option maxRecDepth 1000000 in
theorem p739 : callMid (comp PR) GG x6 c246 6 f682 (tu [(ag [(y 1), (s 12006 0 20 20), (s0 0 0)]), (i 0)]) (litH m729 12007) f737 m738 12007 = true := by kernel_rfl
set_option maxRecDepth 1000000 in
theorem p772 : piece selfX x20 c178 f771 (litH m769 12010) (.exit 0) f771 m769 12010 = true := by kernel_rfl
set_option maxRecDepth 1000000 in
theorem p775 : resHas PR 3 71 f773 (litH m769 12010) Tryz.f20.results.toList (tu [(s 12008 0 3 3), (i 0)]) m761 12010 = true := by kernel_rfl
set_option maxRecDepth 1000000 in
theorem p777 : nextB PR spX selfX GG x20 c177 f768 (litH m769 12010) [⟨f771, m769, 12010⟩] = true := by kernel_rfl
set_option maxRecDepth 1000000 in
theorem p779 : nextB PR spX selfX GG x20 c177 f764 (litH m763 12010) [⟨f766, m767, 12010⟩] = true := by kernel_rfl
set_option maxRecDepth 1000000 in
theorem p790 : piece selfX x20 c178 f789 (litH m786 12010) (.exit 0) f789 m786 12010 = true := by kernel_rfl
set_option maxRecDepth 1000000 in
theorem p793 : resHas PR 3 71 f791 (litH m786 12010) Tryz.f20.results.toList (tu [(s 12008 0 3 3), (i 0)]) m761 12010 = true := by kernel_rfl
set_option maxRecDepth 1000000 in
theorem p795 : nextB PR spX selfX GG x20 c177 f787 (litH m786 12010) [⟨f789, m786, 12010⟩] = true := by kernel_rfl
set_option maxRecDepth 1000000 in
theorem p797 : nextB PR spX selfX GG x20 c177 f768 (litH m783 12010) [⟨f785, m786, 12010⟩] = true := by kernel_rfl
set_option maxRecDepth 1000000 in
theorem p799 : nextB PR spX selfX GG x20 c177 f757 (litH m758 12010) [⟨f762, m763, 12010⟩, ⟨f781, m782, 12010⟩] = true := by kernel_rfl
set_option maxRecDepth 1000000 in
theorem p805 : callMid (comp PR) GG x6 c749 4 f751 (tu [(s 12008 0 3 3), (i 0)]) (litH m761 12010) f804 m761 12010 = true := by kernel_rfl
set_option maxRecDepth 1000000 in
theorem p821 : callMid (comp PR) GG x4 c19 2 f676 (tu [(y 1), (s 12008 0 3 3), (i 0)]) (litH m761 12010) f819 m820 12010 = true := by kernel_rfl
set_option maxRecDepth 1000000 in
theorem p834 : callMid (comp PR) GG x7 c667 2 f669 tt (litH m820 12010) f833 m670 12010 = true := by kernel_rfl
set_option maxRecDepth 1000000 in
theorem p885 : callMid (comp PR) GG x18 c67 2 f858 ff (litH m877 14322) f883 m884 14322 = true := by kernel_rfl
set_option maxRecDepth 1000000 in
theorem p887 : restI PR spX selfX (comp PR) GG x18 c67 3 f883 (litH m884 14322) f886 m884 14322 = true := by kernel_rfl
set_option maxRecDepth 1000000 in
theorem p903 : callMid (comp PR) GG x6 c246 6 f848 (tu [(ag [(y 2), (s0 0 0), (q 14324 1)]), (i 0)]) (litH m892 14325) f901 m902 14325 = true := by kernel_rfl
set_option maxRecDepth 1000000 in
theorem p917 : callMid (comp PR) GG x4 c19 2 f842 (tu [(y 2), (s0 0 0), (i 0)]) (litH m905 14326) f916 m840 14326 = true := by kernel_rfl
set_option maxRecDepth 1000000 in
theorem p930 : callMid (comp PR) GG x7 c667 6 f835 tt (litH m840 14326) f929 m836 14326 = true := by kernel_rfl
set_option maxRecDepth 1000000 in
theorem p937 : piece selfX x7 c668 f931 (litH m836 14326) .ret f931 m836 14326 = true := by kernel_rfl
set_option maxRecDepth 1000000 in
theorem p943 : callMid (comp PR) GG x3 c659 45 f661 tt (litH m836 14326) f942 m656 14326 = true := by kernel_rfl
set_option maxRecDepth 1000000 in
theorem p949 : piece selfX x3 c660 f944 (litH m656 14326) .ret f944 m656 14326 = true := by kernel_rfl
end Rn
end Cr
end Go.Proofs.YtkpmlkhgndpcpaaGreat
