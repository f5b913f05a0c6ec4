/- Pieces of the run, each by the kernel. -/
import Derived.Test.YtkpmlkhgndpcpaaGreatSz
import Derived.KernelRfl
namespace Go.Proofs.YtkpmlkhgndpcpaaGreat
namespace Cr
open Go Go.RowKit
open Sn
namespace Rn
set_option maxRecDepth 1000000 in
theorem p4 : pieceC selfX x3 c1 2 f0 H0 f2 m3 1 = true := by kernel_rfl
set_option maxRecDepth 1000000 in
theorem p13 : callPreI PR spX selfX (comp PR) GG x3 c8 0 2 f2 (litH m3 1) f10 m11 3 4 f12 = true := by kernel_rfl
set_option maxRecDepth 1000000 in
theorem p23 : callPreI PR spX selfX (comp PR) GG x4 c19 0 2 f15 (litH m16 142) f21 m16 142 6 f22 = true := by kernel_rfl
set_option maxRecDepth 1000000 in
theorem p32 : pieceC selfX x6 c29 1 f25 (litH m26 192) f31 m26 192 = true := by kernel_rfl
set_option maxRecDepth 1000000 in
theorem p47 : pieceC selfX x6 c30 1 f39 (litH m40 1615) f46 m40 1615 = true := by kernel_rfl
set_option maxRecDepth 1000000 in
theorem p58 : pieceC selfX x18 c55 1 f53 (litH m52 1718) f56 m57 1720 = true := by kernel_rfl
set_option maxRecDepth 1000000 in
theorem p71 : callPreI PR spX selfX (comp PR) GG x18 c67 0 2 f61 (litH m62 1732) f69 m62 1732 32 f70 = true := by kernel_rfl
set_option maxRecDepth 1000000 in
theorem p75 : pieceC selfX x32 c72 1 f70 (litH m62 1732) f73 m74 1733 = true := by kernel_rfl
set_option maxRecDepth 1000000 in
theorem p80 : pieceC selfX x32 c77 1 f73 (litH m74 1733) f79 m74 1733 = true := by kernel_rfl
set_option maxRecDepth 1000000 in
theorem p107 : callMid (comp PR) GG x18 c67 2 f69 tt (litH m99 3037) f105 m106 3037 = true := by kernel_rfl
set_option maxRecDepth 1000000 in
theorem p109 : restI PR spX selfX (comp PR) GG x18 c67 3 f105 (litH m106 3037) f108 m106 3037 = true := by kernel_rfl
set_option maxRecDepth 1000000 in
theorem p117 : pieceC selfX x18 c66 2 f108 (litH m106 3037) f116 m106 3037 = true := by kernel_rfl
set_option maxRecDepth 1000000 in
theorem p149 : callMid (comp PR) GG x6 c49 6 f51 (tu [(ag [(y 1), (s 3191 0 26 26), (s0 0 0)]), (i 0)]) (litH m132 3192) f147 m148 3192 = true := by kernel_rfl
set_option maxRecDepth 1000000 in
theorem p152 : restI PR spX selfX (comp PR) GG x6 c49 7 f147 (litH m148 3192) f150 m151 3193 = true := by kernel_rfl
set_option maxRecDepth 1000000 in
theorem p163 : callPreI PR spX selfX (comp PR) GG x6 c159 0 4 f156 (litH m151 3193) f161 m151 3193 20 f162 = true := by kernel_rfl
set_option maxRecDepth 1000000 in
theorem p173 : pieceC selfX x20 c169 1 f165 (litH m166 3194) f171 m172 3195 = true := by kernel_rfl
set_option maxRecDepth 1000000 in
theorem p189 : piece selfX x20 c170 f186 (litH m184 3195) .ret f188 m184 3195 = true := by kernel_rfl
set_option maxRecDepth 1000000 in
theorem p190 : resHas PR 3 71 f188 (litH m184 3195) Tryz.f20.results.toList (tu [(s 3193 0 1 1), (i 0)]) m180 3195 = true := by kernel_rfl
set_option maxRecDepth 1000000 in
theorem p192 : nextB PR spX selfX GG x20 c177 f183 (litH m184 3195) [⟨f186, m184, 3195⟩] = true := by kernel_rfl
set_option maxRecDepth 1000000 in
theorem p202 : restI PR spX selfX (comp PR) GG x6 c159 5 f199 (litH m180 3195) f201 m180 3195 = true := by kernel_rfl
set_option maxRecDepth 1000000 in
theorem p207 : piece selfX x6 c160 f201 (litH m180 3195) .ret f206 m180 3195 = true := by kernel_rfl
set_option maxRecDepth 1000000 in
theorem p235 : callPreI PR spX selfX (comp PR) GG x3 c8 3 4 f230 (litH m11 3195) f232 m233 3196 4 f234 = true := by kernel_rfl
set_option maxRecDepth 1000000 in
theorem p241 : callPreI PR spX selfX (comp PR) GG x4 c19 0 2 f236 (litH m237 3331) f239 m237 3331 6 f240 = true := by kernel_rfl
set_option maxRecDepth 1000000 in
theorem p254 : pieceC selfX x18 c55 1 f250 (litH m249 4766) f252 m253 4768 = true := by kernel_rfl
set_option maxRecDepth 1000000 in
theorem p260 : callPreI PR spX selfX (comp PR) GG x18 c67 0 2 f255 (litH m256 4780) f258 m256 4780 32 f259 = true := by kernel_rfl
set_option maxRecDepth 1000000 in
theorem p263 : pieceC selfX x32 c72 1 f259 (litH m256 4780) f261 m262 4781 = true := by kernel_rfl
set_option maxRecDepth 1000000 in
theorem p265 : pieceC selfX x32 c77 1 f261 (litH m262 4781) f264 m262 4781 = true := by kernel_rfl
set_option maxRecDepth 1000000 in
theorem p299 : pieceC selfX x18 c66 2 f290 (litH m288 6091) f298 m288 6091 = true := by kernel_rfl
set_option maxRecDepth 1000000 in
theorem p383 : pieceN selfX x18 c122 4 f378 (litH m379 8318) f381 m382 8386 = true := by kernel_rfl
set_option maxRecDepth 1000000 in
theorem p392 : pieceN selfX x18 c122 2 f387 (litH m388 8565) f390 m391 8677 = true := by kernel_rfl
set_option maxRecDepth 1000000 in
theorem p445 : restI PR spX selfX (comp PR) GG x6 c246 7 f440 (litH m441 8944) f443 m444 8945 = true := by kernel_rfl
set_option maxRecDepth 1000000 in
theorem p474 : callPreI PR spX selfX (comp PR) GG x3 c8 8 3 f469 (litH m470 8945) f472 m470 8945 4 f473 = true := by kernel_rfl
set_option maxRecDepth 1000000 in
theorem p480 : callPreI PR spX selfX (comp PR) GG x4 c19 0 2 f475 (litH m476 9078) f478 m476 9078 6 f479 = true := by kernel_rfl
set_option maxRecDepth 1000000 in
theorem p489 : callPreI PR spX selfX (comp PR) GG x6 c485 0 4 f481 (litH m482 9110) f487 m482 9110 20 f488 = true := by kernel_rfl
set_option maxRecDepth 1000000 in
theorem p495 : pieceC selfX x20 c169 1 f490 (litH m491 9111) f493 m494 9112 = true := by kernel_rfl
set_option maxRecDepth 1000000 in
theorem p500 : piece selfX x20 c170 f497 (litH m494 9112) .ret f499 m494 9112 = true := by kernel_rfl
set_option maxRecDepth 1000000 in
theorem p511 : restI PR spX selfX (comp PR) GG x6 c485 5 f508 (litH m491 9112) f510 m491 9112 = true := by kernel_rfl
set_option maxRecDepth 1000000 in
theorem p516 : piece selfX x6 c486 f510 (litH m491 9112) .ret f515 m491 9112 = true := by kernel_rfl
set_option maxRecDepth 1000000 in
theorem p540 : callPreI PR spX selfX (comp PR) GG x3 c8 12 4 f535 (litH m470 9112) f537 m538 9113 4 f539 = true := by kernel_rfl
set_option maxRecDepth 1000000 in
theorem p546 : callPreI PR spX selfX (comp PR) GG x4 c19 0 2 f541 (litH m542 9248) f544 m542 9248 6 f545 = true := by kernel_rfl
set_option maxRecDepth 1000000 in
theorem p552 : callPreI PR spX selfX (comp PR) GG x6 c485 0 4 f547 (litH m548 9309) f550 m548 9309 20 f551 = true := by kernel_rfl
set_option maxRecDepth 1000000 in
theorem p558 : pieceC selfX x20 c169 1 f553 (litH m554 9310) f556 m557 9311 = true := by kernel_rfl
set_option maxRecDepth 1000000 in
theorem p563 : piece selfX x20 c170 f560 (litH m557 9311) .ret f562 m557 9311 = true := by kernel_rfl
set_option maxRecDepth 1000000 in
theorem p574 : restI PR spX selfX (comp PR) GG x6 c485 5 f571 (litH m554 9311) f573 m554 9311 = true := by kernel_rfl
set_option maxRecDepth 1000000 in
theorem p579 : piece selfX x6 c486 f573 (litH m554 9311) .ret f578 m554 9311 = true := by kernel_rfl
set_option maxRecDepth 1000000 in
theorem p621 : callPreI PR spX selfX (comp PR) GG x3 c616 0 4 f612 (litH m613 9871) f618 m619 9872 6 f620 = true := by kernel_rfl
set_option maxRecDepth 1000000 in
theorem p623 : pieceC selfX x6 c24 2 f620 (litH m619 9872) f622 m619 9872 = true := by kernel_rfl
set_option maxRecDepth 1000000 in
theorem p629 : callPreI PR spX selfX (comp PR) GG x6 c625 0 2 f622 (litH m619 9872) f627 m619 9872 14 f628 = true := by kernel_rfl
set_option maxRecDepth 1000000 in
theorem p638 : restI PR spX selfX (comp PR) GG x6 c625 3 f635 (litH m619 9872) f637 m619 9872 = true := by kernel_rfl
set_option maxRecDepth 1000000 in
theorem p672 : callPreI PR spX selfX (comp PR) GG x7 c667 0 2 f664 (litH m656 9881) f669 m670 9883 4 f671 = true := by kernel_rfl
set_option maxRecDepth 1000000 in
theorem p678 : callPreI PR spX selfX (comp PR) GG x4 c19 0 2 f673 (litH m674 10020) f676 m674 10020 6 f677 = true := by kernel_rfl
set_option maxRecDepth 1000000 in
theorem p688 : pieceC selfX x18 c55 1 f684 (litH m683 11029) f686 m687 11031 = true := by kernel_rfl
set_option maxRecDepth 1000000 in
theorem p694 : callPreI PR spX selfX (comp PR) GG x18 c67 0 2 f689 (litH m690 11043) f692 m690 11043 32 f693 = true := by kernel_rfl
set_option maxRecDepth 1000000 in
theorem p697 : pieceC selfX x32 c72 1 f693 (litH m690 11043) f695 m696 11044 = true := by kernel_rfl
set_option maxRecDepth 1000000 in
theorem p699 : pieceC selfX x32 c77 1 f695 (litH m696 11044) f698 m696 11044 = true := by kernel_rfl
set_option maxRecDepth 1000000 in
theorem p742 : restI PR spX selfX (comp PR) GG x6 c246 7 f737 (litH m738 12007) f740 m741 12008 = true := by kernel_rfl
set_option maxRecDepth 1000000 in
theorem p753 : callPreI PR spX selfX (comp PR) GG x6 c749 0 4 f746 (litH m741 12008) f751 m741 12008 20 f752 = true := by kernel_rfl
set_option maxRecDepth 1000000 in
theorem p759 : pieceC selfX x20 c169 1 f754 (litH m755 12009) f757 m758 12010 = true := by kernel_rfl
set_option maxRecDepth 1000000 in
theorem p774 : piece selfX x20 c170 f771 (litH m769 12010) .ret f773 m769 12010 = true := by kernel_rfl
set_option maxRecDepth 1000000 in
theorem p792 : piece selfX x20 c170 f789 (litH m786 12010) .ret f791 m786 12010 = true := by kernel_rfl
set_option maxRecDepth 1000000 in
theorem p807 : restI PR spX selfX (comp PR) GG x6 c749 5 f804 (litH m761 12010) f806 m761 12010 = true := by kernel_rfl
set_option maxRecDepth 1000000 in
theorem p812 : piece selfX x6 c750 f806 (litH m761 12010) .ret f811 m761 12010 = true := by kernel_rfl
set_option maxRecDepth 1000000 in
theorem p838 : callPreI PR spX selfX (comp PR) GG x7 c667 3 3 f833 (litH m670 12010) f835 m836 12012 4 f837 = true := by kernel_rfl
set_option maxRecDepth 1000000 in
theorem p844 : callPreI PR spX selfX (comp PR) GG x4 c19 0 2 f839 (litH m840 12147) f842 m840 12147 6 f843 = true := by kernel_rfl
set_option maxRecDepth 1000000 in
theorem p854 : pieceC selfX x18 c55 1 f850 (litH m849 13293) f852 m853 13295 = true := by kernel_rfl
set_option maxRecDepth 1000000 in
theorem p860 : callPreI PR spX selfX (comp PR) GG x18 c67 0 2 f855 (litH m856 13307) f858 m856 13307 32 f859 = true := by kernel_rfl
set_option maxRecDepth 1000000 in
theorem p863 : pieceC selfX x32 c72 1 f859 (litH m856 13307) f861 m862 13308 = true := by kernel_rfl
set_option maxRecDepth 1000000 in
theorem p865 : pieceC selfX x32 c77 1 f861 (litH m862 13308) f864 m862 13308 = true := by kernel_rfl
set_option maxRecDepth 1000000 in
theorem p906 : restI PR spX selfX (comp PR) GG x6 c246 7 f901 (litH m902 14325) f904 m905 14326 = true := by kernel_rfl
set_option maxRecDepth 1000000 in
theorem p932 : restI PR spX selfX (comp PR) GG x7 c667 7 f929 (litH m836 14326) f931 m836 14326 = true := by kernel_rfl
set_option maxRecDepth 1000000 in
theorem p945 : restI PR spX selfX (comp PR) GG x3 c659 46 f942 (litH m656 14326) f944 m656 14326 = true := by kernel_rfl
end Rn
end Cr
end Go.Proofs.YtkpmlkhgndpcpaaGreat
