/- Pieces of the run, each by the kernel. -/
import Derived.Test.YtekbkaipdmklpaaGreatDoorSz
import Derived.KernelRfl
namespace Go.Proofs.YtekbkaipdmklpaaGreatDoor
namespace Cr
open Go Go.RowKit
open Sn
namespace Rn
set_option maxRecDepth 1000000 in
theorem p4 : pieceC selfX x3 c1 1 f0 H0 f2 m3 12 = true := by kernel_rfl
set_option maxRecDepth 1000000 in
theorem p15 : pieceC selfX x5 c12 1 f10 (litH m3 12) f13 m14 13 = true := by kernel_rfl
set_option maxRecDepth 1000000 in
theorem p21 : callPreI PR spX selfX (comp PR) GG x5 c17 0 1 f13 (litH m14 13) f19 m14 13 12 f20 = true := by kernel_rfl
set_option maxRecDepth 1000000 in
theorem p62 : callMid (comp PR) GG x5 c17 1 f19 (tu [(ag [(i 2), (q 165 2), (s0 0 0), (s0 0 0), (sc 385 0 7 8 7)]), (ag [(i 0), (i 0)]), (i 0)]) (litH m58 508) f61 m58 508 = true := by kernel_rfl
set_option maxRecDepth 1000000 in
theorem p79 : callPreI PR spX selfX (comp PR) GG x5 c75 0 2 f69 (litH m70 664) f77 m70 664 14 f78 = true := by kernel_rfl
set_option maxRecDepth 1000000 in
theorem p92 : callMid (comp PR) GG x5 c75 2 f77 (tu [(ag [(i 0), (i 0)]), (i 0)]) (litH m86 816) f91 m70 816 = true := by kernel_rfl
set_option maxRecDepth 1000000 in
theorem p100 : piece selfX x5 c76 f93 (litH m94 817) .norm f99 m94 817 = true := by kernel_rfl
set_option maxRecDepth 1000000 in
theorem p111 : callPreI PR spX selfX (comp PR) GG x5 c107 0 2 f103 (litH m104 1027) f109 m104 1027 6 f110 = true := by kernel_rfl
set_option maxRecDepth 1000000 in
theorem p187 : callPreI PR spX selfX (comp PR) GG x417 c183 0 3 f179 (litH m180 1596) f185 m180 1596 426 f186 = true := by kernel_rfl
set_option maxRecDepth 1000000 in
theorem p230 : piece selfX x110 c213 f227 (litH m224 1831) .ret f229 m224 1831 = true := by kernel_rfl
set_option maxRecDepth 1000000 in
theorem p231 : resHas PR 3 71 f229 (litH m224 1831) Tryz.f110.results.toList (tu [(s 1829 0 3 3), (i 0)]) m209 1831 = true := by kernel_rfl
set_option maxRecDepth 1000000 in
theorem p233 : nextB PR spX selfX GG x110 c220 f225 (litH m224 1831) [⟨f227, m224, 1831⟩] = true := by kernel_rfl
set_option maxRecDepth 1000000 in
theorem p235 : nextB PR spX selfX GG x110 c220 f214 (litH m215 1831) [⟨f223, m224, 1831⟩] = true := by kernel_rfl
set_option maxRecDepth 1000000 in
theorem p241 : callMid (comp PR) GG x64 c202 4 f204 (tu [(s 1829 0 3 3), (i 0)]) (litH m209 1831) f240 m209 1831 = true := by kernel_rfl
set_option maxRecDepth 1000000 in
theorem p265 : callMid (comp PR) GG x417 c183 3 f185 tt (litH m255 1831) f264 m180 1831 = true := by kernel_rfl
set_option maxRecDepth 1000000 in
theorem p267 : restI PR spX selfX (comp PR) GG x417 c183 4 f264 (litH m180 1831) f266 m180 1831 = true := by kernel_rfl
set_option maxRecDepth 1000000 in
theorem p277 : pieceC selfX x417 c274 1 f271 (litH m180 1831) f276 m180 1831 = true := by kernel_rfl
set_option maxRecDepth 1000000 in
theorem p282 : callPreI PR spX selfX (comp PR) GG x417 c279 0 3 f276 (litH m180 1831) f280 m180 1831 426 f281 = true := by kernel_rfl
set_option maxRecDepth 1000000 in
theorem p310 : piece selfX x110 c213 f307 (litH m305 2095) .ret f309 m305 2095 = true := by kernel_rfl
set_option maxRecDepth 1000000 in
theorem p311 : resHas PR 3 71 f309 (litH m305 2095) Tryz.f110.results.toList (tu [(s 2093 0 3 3), (i 0)]) m301 2095 = true := by kernel_rfl
set_option maxRecDepth 1000000 in
theorem p313 : nextB PR spX selfX GG x110 c220 f304 (litH m305 2095) [⟨f307, m305, 2095⟩] = true := by kernel_rfl
set_option maxRecDepth 1000000 in
theorem p315 : nextB PR spX selfX GG x110 c220 f297 (litH m298 2095) [⟨f302, m303, 2095⟩] = true := by kernel_rfl
set_option maxRecDepth 1000000 in
theorem p321 : callMid (comp PR) GG x64 c202 4 f291 (tu [(s 2093 0 3 3), (i 0)]) (litH m301 2095) f320 m301 2095 = true := by kernel_rfl
set_option maxRecDepth 1000000 in
theorem p345 : callMid (comp PR) GG x417 c279 3 f280 tt (litH m335 2095) f344 m180 2095 = true := by kernel_rfl
set_option maxRecDepth 1000000 in
theorem p347 : restI PR spX selfX (comp PR) GG x417 c279 4 f344 (litH m180 2095) f346 m180 2095 = true := by kernel_rfl
set_option maxRecDepth 1000000 in
theorem p363 : callMid (comp PR) GG x407 c173 6 f175 un (litH m354 2128) f175 m362 2128 = true := by kernel_rfl
set_option maxRecDepth 1000000 in
theorem p368 : piece selfX x407 c174 f175 (litH m362 2128) .ret f175 m362 2128 = true := by kernel_rfl
set_option maxRecDepth 1000000 in
theorem p374 : callMid (comp PR) GG x22 c162 6 f164 ff (litH m362 2128) f164 m373 2128 = true := by kernel_rfl
set_option maxRecDepth 1000000 in
theorem p375 : restI PR spX selfX (comp PR) GG x22 c162 7 f164 (litH m373 2128) f164 m373 2128 = true := by kernel_rfl
set_option maxRecDepth 1000000 in
theorem p411 : callMid (comp PR) GG x5 c107 2 f109 (tu [(ag [(y 0), (y 0), (i 0), (s0 0 0), (s0 0 0), ff, ff, (i 0), (i 0), (i 0)]), (i 0)]) (litH m104 2267) f410 m104 2267 = true := by kernel_rfl
set_option maxRecDepth 1000000 in
theorem p419 : piece selfX x5 c108 f412 (litH m413 2268) .ret f418 m413 2268 = true := by kernel_rfl
set_option maxRecDepth 1000000 in
theorem p430 : callMid (comp PR) GG x3 c8 0 f2 (ag [(y 0), (y 0), (i 0), (s0 0 0), (s0 0 0), ff, ff, (i 0), (i 0), (i 0)]) (litH m413 2268) f428 m429 2268 = true := by kernel_rfl
set_option maxRecDepth 1000000 in
theorem p489 : callPreI PR spX selfX (comp PR) GG x417 c183 0 3 f484 (litH m485 2853) f487 m485 2853 426 f488 = true := by kernel_rfl
set_option maxRecDepth 1000000 in
theorem p515 : piece selfX x110 c213 f512 (litH m509 3088) .ret f514 m509 3088 = true := by kernel_rfl
set_option maxRecDepth 1000000 in
theorem p516 : resHas PR 3 71 f514 (litH m509 3088) Tryz.f110.results.toList (tu [(s 3086 0 3 3), (i 0)]) m502 3088 = true := by kernel_rfl
set_option maxRecDepth 1000000 in
theorem p518 : nextB PR spX selfX GG x110 c220 f510 (litH m509 3088) [⟨f512, m509, 3088⟩] = true := by kernel_rfl
set_option maxRecDepth 1000000 in
theorem p520 : nextB PR spX selfX GG x110 c220 f504 (litH m505 3088) [⟨f508, m509, 3088⟩] = true := by kernel_rfl
set_option maxRecDepth 1000000 in
theorem p562 : callPreI PR spX selfX (comp PR) GG x417 c279 0 3 f558 (litH m485 3088) f560 m485 3088 426 f561 = true := by kernel_rfl
set_option maxRecDepth 1000000 in
theorem p590 : piece selfX x110 c213 f587 (litH m585 3352) .ret f589 m585 3352 = true := by kernel_rfl
set_option maxRecDepth 1000000 in
theorem p719 : pieceC selfX x108 c716 1 f714 (litH m713 5502) f717 m718 5504 = true := by kernel_rfl
set_option maxRecDepth 1000000 in
theorem p771 : piece selfX x110 c213 f768 (litH m766 5865) .ret f770 m766 5865 = true := by kernel_rfl
set_option maxRecDepth 1000000 in
theorem p789 : piece selfX x110 c213 f786 (litH m783 5865) .ret f788 m783 5865 = true := by kernel_rfl
set_option maxRecDepth 1000000 in
theorem p809 : piece selfX x64 c747 f803 (litH m758 5865) .ret f808 m758 5865 = true := by kernel_rfl
set_option maxRecDepth 1000000 in
theorem p869 : pieceC selfX x22 c123 1 f865 (litH m866 7809) f867 m868 7810 = true := by kernel_rfl
set_option maxRecDepth 1000000 in
theorem p881 : pieceC selfX x22 c149 1 f877 (litH m878 8042) f880 m878 8042 = true := by kernel_rfl
set_option maxRecDepth 1000000 in
theorem p902 : callPreI PR spX selfX (comp PR) GG x417 c183 0 3 f897 (litH m898 8209) f900 m898 8209 426 f901 = true := by kernel_rfl
set_option maxRecDepth 1000000 in
theorem p913 : callPreI PR spX selfX (comp PR) GG x64 c202 0 4 f908 (litH m909 8442) f911 m909 8442 110 f912 = true := by kernel_rfl
set_option maxRecDepth 1000000 in
theorem p928 : piece selfX x110 c213 f925 (litH m922 8444) .ret f927 m922 8444 = true := by kernel_rfl
set_option maxRecDepth 1000000 in
theorem p946 : piece selfX x64 c203 f940 (litH m915 8444) .ret f945 m915 8444 = true := by kernel_rfl
set_option maxRecDepth 1000000 in
theorem p975 : callPreI PR spX selfX (comp PR) GG x417 c279 0 3 f971 (litH m898 8444) f973 m898 8444 426 f974 = true := by kernel_rfl
set_option maxRecDepth 1000000 in
theorem p986 : callPreI PR spX selfX (comp PR) GG x64 c202 0 4 f981 (litH m982 8706) f984 m982 8706 110 f985 = true := by kernel_rfl
set_option maxRecDepth 1000000 in
theorem p1003 : piece selfX x110 c213 f1000 (litH m998 8708) .ret f1002 m998 8708 = true := by kernel_rfl
set_option maxRecDepth 1000000 in
theorem p1021 : piece selfX x64 c203 f1015 (litH m994 8708) .ret f1020 m994 8708 = true := by kernel_rfl
set_option maxRecDepth 1000000 in
theorem p1205 : callPreI PR spX selfX (comp PR) GG x5 c75 0 2 f1200 (litH m1201 9407) f1203 m1201 9407 14 f1204 = true := by kernel_rfl
set_option maxRecDepth 1000000 in
theorem p1265 : pieceC selfX x22 c123 1 f1261 (litH m1262 9731) f1263 m1264 9732 = true := by kernel_rfl
set_option maxRecDepth 1000000 in
theorem p1277 : pieceC selfX x22 c149 1 f1273 (litH m1274 9964) f1276 m1274 9964 = true := by kernel_rfl
set_option maxRecDepth 1000000 in
theorem p1298 : callPreI PR spX selfX (comp PR) GG x417 c183 0 3 f1293 (litH m1294 10131) f1296 m1294 10131 426 f1297 = true := by kernel_rfl
set_option maxRecDepth 1000000 in
theorem p1309 : callPreI PR spX selfX (comp PR) GG x64 c202 0 4 f1304 (litH m1305 10364) f1307 m1305 10364 110 f1308 = true := by kernel_rfl
set_option maxRecDepth 1000000 in
theorem p1324 : piece selfX x110 c213 f1321 (litH m1318 10366) .ret f1323 m1318 10366 = true := by kernel_rfl
set_option maxRecDepth 1000000 in
theorem p1342 : piece selfX x64 c203 f1336 (litH m1311 10366) .ret f1341 m1311 10366 = true := by kernel_rfl
set_option maxRecDepth 1000000 in
theorem p1371 : callPreI PR spX selfX (comp PR) GG x417 c279 0 3 f1367 (litH m1294 10366) f1369 m1294 10366 426 f1370 = true := by kernel_rfl
set_option maxRecDepth 1000000 in
theorem p1382 : callPreI PR spX selfX (comp PR) GG x64 c202 0 4 f1377 (litH m1378 10628) f1380 m1378 10628 110 f1381 = true := by kernel_rfl
set_option maxRecDepth 1000000 in
theorem p1399 : piece selfX x110 c213 f1396 (litH m1394 10630) .ret f1398 m1394 10630 = true := by kernel_rfl
set_option maxRecDepth 1000000 in
theorem p1417 : piece selfX x64 c203 f1411 (litH m1390 10630) .ret f1416 m1390 10630 = true := by kernel_rfl
set_option maxRecDepth 1000000 in
theorem p1524 : pieceC selfX x22 c123 1 f1520 (litH m1521 10982) f1522 m1523 10983 = true := by kernel_rfl
set_option maxRecDepth 1000000 in
theorem p1536 : pieceC selfX x22 c149 1 f1532 (litH m1533 11215) f1535 m1533 11215 = true := by kernel_rfl
set_option maxRecDepth 1000000 in
theorem p1557 : callPreI PR spX selfX (comp PR) GG x417 c183 0 3 f1552 (litH m1553 11382) f1555 m1553 11382 426 f1556 = true := by kernel_rfl
set_option maxRecDepth 1000000 in
theorem p1568 : callPreI PR spX selfX (comp PR) GG x64 c202 0 4 f1563 (litH m1564 11615) f1566 m1564 11615 110 f1567 = true := by kernel_rfl
set_option maxRecDepth 1000000 in
theorem p1583 : piece selfX x110 c213 f1580 (litH m1577 11617) .ret f1582 m1577 11617 = true := by kernel_rfl
set_option maxRecDepth 1000000 in
theorem p1601 : piece selfX x64 c203 f1595 (litH m1570 11617) .ret f1600 m1570 11617 = true := by kernel_rfl
set_option maxRecDepth 1000000 in
theorem p1630 : callPreI PR spX selfX (comp PR) GG x417 c279 0 3 f1626 (litH m1553 11617) f1628 m1553 11617 426 f1629 = true := by kernel_rfl
set_option maxRecDepth 1000000 in
theorem p1641 : callPreI PR spX selfX (comp PR) GG x64 c202 0 4 f1636 (litH m1637 11879) f1639 m1637 11879 110 f1640 = true := by kernel_rfl
set_option maxRecDepth 1000000 in
theorem p1658 : piece selfX x110 c213 f1655 (litH m1653 11881) .ret f1657 m1653 11881 = true := by kernel_rfl
set_option maxRecDepth 1000000 in
theorem p1676 : piece selfX x64 c203 f1670 (litH m1649 11881) .ret f1675 m1649 11881 = true := by kernel_rfl
set_option maxRecDepth 1000000 in
theorem p1762 : pieceC selfX x62 c693 1 f1758 (litH m1759 12014) f1760 m1761 12015 = true := by kernel_rfl
set_option maxRecDepth 1000000 in
theorem p1804 : callPreI PR spX selfX (comp PR) GG x64 c1800 0 4 f1796 (litH m1797 13694) f1802 m1797 13694 110 f1803 = true := by kernel_rfl
set_option maxRecDepth 1000000 in
theorem p1825 : piece selfX x110 c213 f1822 (litH m1820 13696) .ret f1824 m1820 13696 = true := by kernel_rfl
set_option maxRecDepth 1000000 in
theorem p1843 : piece selfX x110 c213 f1840 (litH m1837 13696) .ret f1842 m1837 13696 = true := by kernel_rfl
set_option maxRecDepth 1000000 in
theorem p1863 : piece selfX x64 c1801 f1857 (litH m1812 13696) .ret f1862 m1812 13696 = true := by kernel_rfl
set_option maxRecDepth 1000000 in
theorem p1904 : restI PR spX selfX (comp PR) GG x3 c1240 21 f1900 (litH m1901 14409) f1903 m1901 14409 = true := by kernel_rfl
end Rn
end Cr
end Go.Proofs.YtekbkaipdmklpaaGreatDoor
