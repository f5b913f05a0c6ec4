/- Pieces of the run, each by the kernel. -/
import Derived.Test.YtekbkaipdmklpaaGreatDoorSz
import Derived.KernelRfl
namespace Go.Proofs.YtekbkaipdmklpaaGreatDoor
namespace Cr
open Go Go.RowKit
open Sn
namespace Rn
set_option maxRecDepth 1000000 in
theorem p526 : callMid (comp PR) GG x64 c202 4 f498 (tu [(s 3086 0 3 3), (i 0)]) (litH m502 3088) f525 m502 3088 = true := by kernel_rfl
set_option maxRecDepth 1000000 in
theorem p550 : callMid (comp PR) GG x417 c183 3 f487 tt (litH m540 3088) f549 m485 3088 = true := by kernel_rfl
set_option maxRecDepth 1000000 in
theorem p552 : restI PR spX selfX (comp PR) GG x417 c183 4 f549 (litH m485 3088) f551 m485 3088 = true := by kernel_rfl
set_option maxRecDepth 1000000 in
theorem p559 : pieceC selfX x417 c274 1 f556 (litH m485 3088) f558 m485 3088 = true := by kernel_rfl
set_option maxRecDepth 1000000 in
theorem p591 : resHas PR 3 71 f589 (litH m585 3352) Tryz.f110.results.toList (tu [(s 3350 0 3 3), (i 0)]) m581 3352 = true := by kernel_rfl
set_option maxRecDepth 1000000 in
theorem p593 : nextB PR spX selfX GG x110 c220 f584 (litH m585 3352) [⟨f587, m585, 3352⟩] = true := by kernel_rfl
set_option maxRecDepth 1000000 in
theorem p595 : nextB PR spX selfX GG x110 c220 f577 (litH m578 3352) [⟨f582, m583, 3352⟩] = true := by kernel_rfl
set_option maxRecDepth 1000000 in
theorem p601 : callMid (comp PR) GG x64 c202 4 f571 (tu [(s 3350 0 3 3), (i 0)]) (litH m581 3352) f600 m581 3352 = true := by kernel_rfl
set_option maxRecDepth 1000000 in
theorem p625 : callMid (comp PR) GG x417 c279 3 f560 tt (litH m615 3352) f624 m485 3352 = true := by kernel_rfl
set_option maxRecDepth 1000000 in
theorem p627 : restI PR spX selfX (comp PR) GG x417 c279 4 f624 (litH m485 3352) f626 m485 3352 = true := by kernel_rfl
set_option maxRecDepth 1000000 in
theorem p643 : callMid (comp PR) GG x407 c173 6 f481 un (litH m634 3385) f481 m642 3385 = true := by kernel_rfl
set_option maxRecDepth 1000000 in
theorem p648 : piece selfX x407 c174 f481 (litH m642 3385) .ret f481 m642 3385 = true := by kernel_rfl
set_option maxRecDepth 1000000 in
theorem p654 : callMid (comp PR) GG x22 c162 6 f474 ff (litH m642 3385) f474 m653 3385 = true := by kernel_rfl
set_option maxRecDepth 1000000 in
theorem p655 : restI PR spX selfX (comp PR) GG x22 c162 7 f474 (litH m653 3385) f474 m653 3385 = true := by kernel_rfl
set_option maxRecDepth 1000000 in
theorem p736 : callMid (comp PR) GG x64 c710 6 f712 (tu [(ag [(y 1), (s 5861 0 12 12), (s0 0 0)]), (i 0)]) (litH m727 5862) f734 m735 5862 = true := by kernel_rfl
set_option maxRecDepth 1000000 in
theorem p772 : resHas PR 3 71 f770 (litH m766 5865) Tryz.f110.results.toList (tu [(s 5863 0 4 4), (i 0)]) m758 5865 = true := by kernel_rfl
set_option maxRecDepth 1000000 in
theorem p774 : nextB PR spX selfX GG x110 c220 f765 (litH m766 5865) [⟨f768, m766, 5865⟩] = true := by kernel_rfl
set_option maxRecDepth 1000000 in
theorem p776 : nextB PR spX selfX GG x110 c220 f761 (litH m760 5865) [⟨f763, m764, 5865⟩] = true := by kernel_rfl
set_option maxRecDepth 1000000 in
theorem p790 : resHas PR 3 71 f788 (litH m783 5865) Tryz.f110.results.toList (tu [(s 5863 0 4 4), (i 0)]) m758 5865 = true := by kernel_rfl
set_option maxRecDepth 1000000 in
theorem p792 : nextB PR spX selfX GG x110 c220 f784 (litH m783 5865) [⟨f786, m783, 5865⟩] = true := by kernel_rfl
set_option maxRecDepth 1000000 in
theorem p794 : nextB PR spX selfX GG x110 c220 f765 (litH m780 5865) [⟨f782, m783, 5865⟩] = true := by kernel_rfl
set_option maxRecDepth 1000000 in
theorem p796 : nextB PR spX selfX GG x110 c220 f754 (litH m755 5865) [⟨f759, m760, 5865⟩, ⟨f778, m779, 5865⟩] = true := by kernel_rfl
set_option maxRecDepth 1000000 in
theorem p802 : callMid (comp PR) GG x64 c746 4 f748 (tu [(s 5863 0 4 4), (i 0)]) (litH m758 5865) f801 m758 5865 = true := by kernel_rfl
set_option maxRecDepth 1000000 in
theorem p835 : callMid (comp PR) GG x3 c439 2 f441 (tu [(ag [(y 1), (y 0), (i 0), (q 6563 2), (q 6569 2), ff, ff, (i 0), (i 0), (i 0)]), (i 0)]) (litH m831 6573) f834 m831 6573 = true := by kernel_rfl
set_option maxRecDepth 1000000 in
theorem p929 : resHas PR 3 71 f927 (litH m922 8444) Tryz.f110.results.toList (tu [(s 8442 0 3 3), (i 0)]) m915 8444 = true := by kernel_rfl
set_option maxRecDepth 1000000 in
theorem p931 : nextB PR spX selfX GG x110 c220 f923 (litH m922 8444) [⟨f925, m922, 8444⟩] = true := by kernel_rfl
set_option maxRecDepth 1000000 in
theorem p933 : nextB PR spX selfX GG x110 c220 f917 (litH m918 8444) [⟨f921, m922, 8444⟩] = true := by kernel_rfl
set_option maxRecDepth 1000000 in
theorem p939 : callMid (comp PR) GG x64 c202 4 f911 (tu [(s 8442 0 3 3), (i 0)]) (litH m915 8444) f938 m915 8444 = true := by kernel_rfl
set_option maxRecDepth 1000000 in
theorem p963 : callMid (comp PR) GG x417 c183 3 f900 tt (litH m953 8444) f962 m898 8444 = true := by kernel_rfl
set_option maxRecDepth 1000000 in
theorem p965 : restI PR spX selfX (comp PR) GG x417 c183 4 f962 (litH m898 8444) f964 m898 8444 = true := by kernel_rfl
set_option maxRecDepth 1000000 in
theorem p972 : pieceC selfX x417 c274 1 f969 (litH m898 8444) f971 m898 8444 = true := by kernel_rfl
set_option maxRecDepth 1000000 in
theorem p1004 : resHas PR 3 71 f1002 (litH m998 8708) Tryz.f110.results.toList (tu [(s 8706 0 3 3), (i 0)]) m994 8708 = true := by kernel_rfl
set_option maxRecDepth 1000000 in
theorem p1006 : nextB PR spX selfX GG x110 c220 f997 (litH m998 8708) [⟨f1000, m998, 8708⟩] = true := by kernel_rfl
set_option maxRecDepth 1000000 in
theorem p1008 : nextB PR spX selfX GG x110 c220 f990 (litH m991 8708) [⟨f995, m996, 8708⟩] = true := by kernel_rfl
set_option maxRecDepth 1000000 in
theorem p1014 : callMid (comp PR) GG x64 c202 4 f984 (tu [(s 8706 0 3 3), (i 0)]) (litH m994 8708) f1013 m994 8708 = true := by kernel_rfl
set_option maxRecDepth 1000000 in
theorem p1038 : callMid (comp PR) GG x417 c279 3 f973 tt (litH m1028 8708) f1037 m898 8708 = true := by kernel_rfl
set_option maxRecDepth 1000000 in
theorem p1040 : restI PR spX selfX (comp PR) GG x417 c279 4 f1037 (litH m898 8708) f1039 m898 8708 = true := by kernel_rfl
set_option maxRecDepth 1000000 in
theorem p1056 : callMid (comp PR) GG x407 c173 6 f894 un (litH m1047 8741) f894 m1055 8741 = true := by kernel_rfl
set_option maxRecDepth 1000000 in
theorem p1061 : piece selfX x407 c174 f894 (litH m1055 8741) .ret f894 m1055 8741 = true := by kernel_rfl
set_option maxRecDepth 1000000 in
theorem p1067 : callMid (comp PR) GG x22 c162 6 f887 ff (litH m1055 8741) f887 m1066 8741 = true := by kernel_rfl
set_option maxRecDepth 1000000 in
theorem p1068 : restI PR spX selfX (comp PR) GG x22 c162 7 f887 (litH m1066 8741) f887 m1066 8741 = true := by kernel_rfl
set_option maxRecDepth 1000000 in
theorem p1115 : callPreI PR spX selfX (comp PR) GG x3 c1111 0 1 f1108 (litH m1105 8773) f1113 m1105 8773 5 f1114 = true := by kernel_rfl
set_option maxRecDepth 1000000 in
theorem p1118 : pieceC selfX x5 c12 1 f1114 (litH m1105 8773) f1116 m1117 8774 = true := by kernel_rfl
set_option maxRecDepth 1000000 in
theorem p1121 : callPreI PR spX selfX (comp PR) GG x5 c17 0 1 f1116 (litH m1117 8774) f1119 m1117 8774 12 f1120 = true := by kernel_rfl
set_option maxRecDepth 1000000 in
theorem p1124 : callMid (comp PR) GG x5 c17 1 f1119 (tu [(ag [(i 0), (s0 0 0), (s0 0 0), (s0 0 0), (s0 0 0)]), (ag [(i 1), (i 1)]), (i 4)]) (litH m1117 8774) f1123 m1117 8774 = true := by kernel_rfl
set_option maxRecDepth 1000000 in
theorem p1139 : callMid (comp PR) GG x3 c1111 1 f1113 (ag [(y 3), (y 0), (i 0), (s0 0 0), (s0 0 0), ff, ff, (i 1), (i 1), (i 4)]) (litH m1132 8776) f1138 m1105 8776 = true := by kernel_rfl
set_option maxRecDepth 1000000 in
theorem p1141 : restI PR spX selfX (comp PR) GG x3 c1111 2 f1138 (litH m1105 8776) f1138 m1140 8776 = true := by kernel_rfl
set_option maxRecDepth 1000000 in
theorem p1154 : pieceC selfX x5 c12 1 f1150 (litH m1140 8776) f1152 m1153 8777 = true := by kernel_rfl
set_option maxRecDepth 1000000 in
theorem p1156 : callPreI PR spX selfX (comp PR) GG x5 c17 0 1 f1152 (litH m1153 8777) f1155 m1153 8777 12 f20 = true := by kernel_rfl
set_option maxRecDepth 1000000 in
theorem p1193 : callMid (comp PR) GG x5 c17 1 f1155 (tu [(ag [(i 2), (q 8929 2), (s0 0 0), (s0 0 0), (sc 9149 0 7 8 7)]), (ag [(i 0), (i 0)]), (i 0)]) (litH m1189 9272) f1192 m1189 9272 = true := by kernel_rfl
set_option maxRecDepth 1000000 in
theorem p1216 : callMid (comp PR) GG x5 c75 2 f1203 (tu [(ag [(i 5), (i 1)]), (i 6)]) (litH m1210 9551) f1215 m1201 9551 = true := by kernel_rfl
set_option maxRecDepth 1000000 in
theorem p1234 : callMid (comp PR) GG x3 c1148 0 f1145 (ag [(y 3), (y 0), (i 0), (s0 0 0), (s0 0 0), ff, ff, (i 5), (i 1), (i 6)]) (litH m1224 9552) f1233 m1140 9552 = true := by kernel_rfl
set_option maxRecDepth 1000000 in
theorem p1236 : restI PR spX selfX (comp PR) GG x3 c1148 1 f1233 (litH m1140 9552) f1233 m1235 9552 = true := by kernel_rfl
set_option maxRecDepth 1000000 in
theorem p1246 : pieceC selfX x10 c1244 1 f0 (litH m1235 9552) f1245 m1235 9552 = true := by kernel_rfl
set_option maxRecDepth 1000000 in
theorem p1325 : resHas PR 3 71 f1323 (litH m1318 10366) Tryz.f110.results.toList (tu [(s 10364 0 3 3), (i 0)]) m1311 10366 = true := by kernel_rfl
set_option maxRecDepth 1000000 in
theorem p1327 : nextB PR spX selfX GG x110 c220 f1319 (litH m1318 10366) [⟨f1321, m1318, 10366⟩] = true := by kernel_rfl
set_option maxRecDepth 1000000 in
theorem p1329 : nextB PR spX selfX GG x110 c220 f1313 (litH m1314 10366) [⟨f1317, m1318, 10366⟩] = true := by kernel_rfl
set_option maxRecDepth 1000000 in
theorem p1335 : callMid (comp PR) GG x64 c202 4 f1307 (tu [(s 10364 0 3 3), (i 0)]) (litH m1311 10366) f1334 m1311 10366 = true := by kernel_rfl
set_option maxRecDepth 1000000 in
theorem p1359 : callMid (comp PR) GG x417 c183 3 f1296 tt (litH m1349 10366) f1358 m1294 10366 = true := by kernel_rfl
set_option maxRecDepth 1000000 in
theorem p1361 : restI PR spX selfX (comp PR) GG x417 c183 4 f1358 (litH m1294 10366) f1360 m1294 10366 = true := by kernel_rfl
set_option maxRecDepth 1000000 in
theorem p1368 : pieceC selfX x417 c274 1 f1365 (litH m1294 10366) f1367 m1294 10366 = true := by kernel_rfl
set_option maxRecDepth 1000000 in
theorem p1400 : resHas PR 3 71 f1398 (litH m1394 10630) Tryz.f110.results.toList (tu [(s 10628 0 3 3), (i 0)]) m1390 10630 = true := by kernel_rfl
set_option maxRecDepth 1000000 in
theorem p1402 : nextB PR spX selfX GG x110 c220 f1393 (litH m1394 10630) [⟨f1396, m1394, 10630⟩] = true := by kernel_rfl
set_option maxRecDepth 1000000 in
theorem p1404 : nextB PR spX selfX GG x110 c220 f1386 (litH m1387 10630) [⟨f1391, m1392, 10630⟩] = true := by kernel_rfl
set_option maxRecDepth 1000000 in
theorem p1410 : callMid (comp PR) GG x64 c202 4 f1380 (tu [(s 10628 0 3 3), (i 0)]) (litH m1390 10630) f1409 m1390 10630 = true := by kernel_rfl
set_option maxRecDepth 1000000 in
theorem p1434 : callMid (comp PR) GG x417 c279 3 f1369 tt (litH m1424 10630) f1433 m1294 10630 = true := by kernel_rfl
set_option maxRecDepth 1000000 in
theorem p1436 : restI PR spX selfX (comp PR) GG x417 c279 4 f1433 (litH m1294 10630) f1435 m1294 10630 = true := by kernel_rfl
set_option maxRecDepth 1000000 in
theorem p1452 : callMid (comp PR) GG x407 c173 6 f1290 un (litH m1443 10663) f1290 m1451 10663 = true := by kernel_rfl
set_option maxRecDepth 1000000 in
theorem p1457 : piece selfX x407 c174 f1290 (litH m1451 10663) .ret f1290 m1451 10663 = true := by kernel_rfl
set_option maxRecDepth 1000000 in
theorem p1463 : callMid (comp PR) GG x22 c162 6 f1283 ff (litH m1451 10663) f1283 m1462 10663 = true := by kernel_rfl
set_option maxRecDepth 1000000 in
theorem p1464 : restI PR spX selfX (comp PR) GG x22 c162 7 f1283 (litH m1462 10663) f1283 m1462 10663 = true := by kernel_rfl
set_option maxRecDepth 1000000 in
theorem p1500 : callMid (comp PR) GG x10 c1248 2 f1250 (tu [(ag [(y 0), (y 0), (i 0), (s0 0 0), (s0 0 0), ff, ff, (i 0), (i 0), (i 0)]), (i 0)]) (litH m1251 10802) f1499 m1251 10802 = true := by kernel_rfl
set_option maxRecDepth 1000000 in
theorem p1584 : resHas PR 3 71 f1582 (litH m1577 11617) Tryz.f110.results.toList (tu [(s 11615 0 3 3), (i 0)]) m1570 11617 = true := by kernel_rfl
set_option maxRecDepth 1000000 in
theorem p1586 : nextB PR spX selfX GG x110 c220 f1578 (litH m1577 11617) [⟨f1580, m1577, 11617⟩] = true := by kernel_rfl
set_option maxRecDepth 1000000 in
theorem p1588 : nextB PR spX selfX GG x110 c220 f1572 (litH m1573 11617) [⟨f1576, m1577, 11617⟩] = true := by kernel_rfl
set_option maxRecDepth 1000000 in
theorem p1594 : callMid (comp PR) GG x64 c202 4 f1566 (tu [(s 11615 0 3 3), (i 0)]) (litH m1570 11617) f1593 m1570 11617 = true := by kernel_rfl
set_option maxRecDepth 1000000 in
theorem p1618 : callMid (comp PR) GG x417 c183 3 f1555 tt (litH m1608 11617) f1617 m1553 11617 = true := by kernel_rfl
set_option maxRecDepth 1000000 in
theorem p1620 : restI PR spX selfX (comp PR) GG x417 c183 4 f1617 (litH m1553 11617) f1619 m1553 11617 = true := by kernel_rfl
set_option maxRecDepth 1000000 in
theorem p1627 : pieceC selfX x417 c274 1 f1624 (litH m1553 11617) f1626 m1553 11617 = true := by kernel_rfl
set_option maxRecDepth 1000000 in
theorem p1659 : resHas PR 3 71 f1657 (litH m1653 11881) Tryz.f110.results.toList (tu [(s 11879 0 3 3), (i 0)]) m1649 11881 = true := by kernel_rfl
end Rn
end Cr
end Go.Proofs.YtekbkaipdmklpaaGreatDoor
