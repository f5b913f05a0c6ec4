/- Pieces of the run, each by the kernel. -/
import Derived.Test.YtekbkaipdmklpaaGreatDoorSz
import Derived.KernelRfl
namespace Go.Proofs.YtekbkaipdmklpaaGreatDoor
namespace Cr
open Go Go.RowKit
open Sn
namespace Rn
set_option maxRecDepth 1000000 in
theorem p160 : pieceC selfX x22 c157 2 f154 (litH m144 1429) f158 m159 1430 = true := by kernel_rfl
set_option maxRecDepth 1000000 in
theorem p181 : pieceC selfX x417 c178 5 f176 (litH m170 1513) f179 m180 1596 = true := by kernel_rfl
set_option maxRecDepth 1000000 in
theorem p191 : pieceC selfX x426 c188 2 f186 (litH m180 1596) f189 m190 1601 = true := by kernel_rfl
set_option maxRecDepth 1000000 in
theorem p210 : pieceC selfX x110 c207 4 f205 (litH m199 1829) f208 m209 1830 = true := by kernel_rfl
set_option maxRecDepth 1000000 in
theorem p259 : piece selfX x426 c194 f254 (litH m255 1831) .ret f258 m255 1831 = true := by kernel_rfl
set_option maxRecDepth 1000000 in
theorem p285 : pieceC selfX x426 c188 2 f281 (litH m180 1831) f283 m284 1836 = true := by kernel_rfl
set_option maxRecDepth 1000000 in
theorem p296 : pieceC selfX x110 c207 4 f292 (litH m289 2093) f294 m295 2094 = true := by kernel_rfl
set_option maxRecDepth 1000000 in
theorem p339 : piece selfX x426 c194 f334 (litH m335 2095) .ret f338 m335 2095 = true := by kernel_rfl
set_option maxRecDepth 1000000 in
theorem p444 : callPreI PR spX selfX (comp PR) GG x3 c439 0 2 f431 (litH m429 2272) f441 m442 2284 6 f443 = true := by kernel_rfl
set_option maxRecDepth 1000000 in
theorem p466 : pieceC selfX x22 c142 2 f460 (litH m461 2685) f464 m465 2686 = true := by kernel_rfl
set_option maxRecDepth 1000000 in
theorem p473 : pieceC selfX x22 c157 2 f469 (litH m465 2686) f471 m472 2687 = true := by kernel_rfl
set_option maxRecDepth 1000000 in
theorem p486 : pieceC selfX x417 c178 5 f482 (litH m479 2770) f484 m485 2853 = true := by kernel_rfl
set_option maxRecDepth 1000000 in
theorem p492 : pieceC selfX x426 c188 2 f488 (litH m485 2853) f490 m491 2858 = true := by kernel_rfl
set_option maxRecDepth 1000000 in
theorem p503 : pieceC selfX x110 c207 4 f499 (litH m496 3086) f501 m502 3087 = true := by kernel_rfl
set_option maxRecDepth 1000000 in
theorem p511 : piece selfX x110 c221 f508 (litH m509 3088) .norm f510 m509 3088 = true := by kernel_rfl
set_option maxRecDepth 1000000 in
theorem p544 : piece selfX x426 c194 f539 (litH m540 3088) .ret f543 m540 3088 = true := by kernel_rfl
set_option maxRecDepth 1000000 in
theorem p565 : pieceC selfX x426 c188 2 f561 (litH m485 3088) f563 m564 3093 = true := by kernel_rfl
set_option maxRecDepth 1000000 in
theorem p576 : pieceC selfX x110 c207 4 f572 (litH m569 3350) f574 m575 3351 = true := by kernel_rfl
set_option maxRecDepth 1000000 in
theorem p619 : piece selfX x426 c194 f614 (litH m615 3352) .ret f618 m615 3352 = true := by kernel_rfl
set_option maxRecDepth 1000000 in
theorem p635 : piece selfX x417 c275 f626 (litH m485 3352) .norm f633 m634 3385 = true := by kernel_rfl
set_option maxRecDepth 1000000 in
theorem p674 : piece selfX x22 c135 f474 (litH m653 3385) (.exit 0) f672 m673 3413 = true := by kernel_rfl
set_option maxRecDepth 1000000 in
theorem p680 : piece selfX x22 c134 f672 (litH m673 3413) .ret f679 m673 3413 = true := by kernel_rfl
set_option maxRecDepth 1000000 in
theorem p744 : pieceC selfX x64 c711 4 f737 (litH m738 5863) f743 m738 5863 = true := by kernel_rfl
set_option maxRecDepth 1000000 in
theorem p753 : pieceC selfX x110 c207 4 f749 (litH m738 5863) f751 m752 5864 = true := by kernel_rfl
set_option maxRecDepth 1000000 in
theorem p762 : piece selfX x110 c221 f759 (litH m760 5865) .norm f761 m760 5865 = true := by kernel_rfl
set_option maxRecDepth 1000000 in
theorem p785 : piece selfX x110 c221 f782 (litH m783 5865) .norm f784 m783 5865 = true := by kernel_rfl
set_option maxRecDepth 1000000 in
theorem p852 : pieceC selfX x3 c849 2 f846 (litH m847 7630) f850 m851 7634 = true := by kernel_rfl
set_option maxRecDepth 1000000 in
theorem p879 : pieceC selfX x22 c142 2 f873 (litH m874 8041) f877 m878 8042 = true := by kernel_rfl
set_option maxRecDepth 1000000 in
theorem p886 : pieceC selfX x22 c157 2 f882 (litH m878 8042) f884 m885 8043 = true := by kernel_rfl
set_option maxRecDepth 1000000 in
theorem p899 : pieceC selfX x417 c178 5 f895 (litH m892 8126) f897 m898 8209 = true := by kernel_rfl
set_option maxRecDepth 1000000 in
theorem p905 : pieceC selfX x426 c188 2 f901 (litH m898 8209) f903 m904 8214 = true := by kernel_rfl
set_option maxRecDepth 1000000 in
theorem p916 : pieceC selfX x110 c207 4 f912 (litH m909 8442) f914 m915 8443 = true := by kernel_rfl
set_option maxRecDepth 1000000 in
theorem p924 : piece selfX x110 c221 f921 (litH m922 8444) .norm f923 m922 8444 = true := by kernel_rfl
set_option maxRecDepth 1000000 in
theorem p954 : piece (sM [] [M951]) x426 c193 f903 (litH m904 8214) .norm f952 m953 8444 = true := by kernel_rfl
set_option maxRecDepth 1000000 in
theorem p957 : piece selfX x426 c194 f952 (litH m953 8444) .ret f956 m953 8444 = true := by kernel_rfl
set_option maxRecDepth 1000000 in
theorem p978 : pieceC selfX x426 c188 2 f974 (litH m898 8444) f976 m977 8449 = true := by kernel_rfl
set_option maxRecDepth 1000000 in
theorem p989 : pieceC selfX x110 c207 4 f985 (litH m982 8706) f987 m988 8707 = true := by kernel_rfl
set_option maxRecDepth 1000000 in
theorem p1029 : piece (sM [] [M1026]) x426 c193 f976 (litH m977 8449) .norm f1027 m1028 8708 = true := by kernel_rfl
set_option maxRecDepth 1000000 in
theorem p1032 : piece selfX x426 c194 f1027 (litH m1028 8708) .ret f1031 m1028 8708 = true := by kernel_rfl
set_option maxRecDepth 1000000 in
theorem p1048 : piece selfX x417 c275 f1039 (litH m898 8708) .norm f1046 m1047 8741 = true := by kernel_rfl
set_option maxRecDepth 1000000 in
theorem p1087 : piece selfX x22 c135 f887 (litH m1066 8741) (.exit 0) f1085 m1086 8769 = true := by kernel_rfl
set_option maxRecDepth 1000000 in
theorem p1093 : piece selfX x22 c134 f1085 (litH m1086 8769) .ret f1092 m1086 8769 = true := by kernel_rfl
set_option maxRecDepth 1000000 in
theorem p1106 : piece (sM [] [M1103]) x3 c854 f850 (litH m851 7634) .norm f1104 m1105 8769 = true := by kernel_rfl
set_option maxRecDepth 1000000 in
theorem p1127 : restI PR spX selfX (comp PR) GG x5 c17 2 f1123 (litH m1117 8774) f1125 m1126 8776 = true := by kernel_rfl
set_option maxRecDepth 1000000 in
theorem p1146 : pieceC selfX x3 c1112 1 f1138 (litH m1140 8776) f1145 m1140 8776 = true := by kernel_rfl
set_option maxRecDepth 1000000 in
theorem p1243 : callPreI PR spX selfX (comp PR) GG x3 c1240 0 20 f1233 (litH m1235 9552) f1242 m1235 9552 10 f0 = true := by kernel_rfl
set_option maxRecDepth 1000000 in
theorem p1275 : pieceC selfX x22 c142 2 f1269 (litH m1270 9963) f1273 m1274 9964 = true := by kernel_rfl
set_option maxRecDepth 1000000 in
theorem p1282 : pieceC selfX x22 c157 2 f1278 (litH m1274 9964) f1280 m1281 9965 = true := by kernel_rfl
set_option maxRecDepth 1000000 in
theorem p1289 : pieceC selfX x407 c168 7 f1285 (litH m1284 9965) f1287 m1288 10048 = true := by kernel_rfl
set_option maxRecDepth 1000000 in
theorem p1295 : pieceC selfX x417 c178 5 f1291 (litH m1288 10048) f1293 m1294 10131 = true := by kernel_rfl
set_option maxRecDepth 1000000 in
theorem p1301 : pieceC selfX x426 c188 2 f1297 (litH m1294 10131) f1299 m1300 10136 = true := by kernel_rfl
set_option maxRecDepth 1000000 in
theorem p1312 : pieceC selfX x110 c207 4 f1308 (litH m1305 10364) f1310 m1311 10365 = true := by kernel_rfl
set_option maxRecDepth 1000000 in
theorem p1320 : piece selfX x110 c221 f1317 (litH m1318 10366) .norm f1319 m1318 10366 = true := by kernel_rfl
set_option maxRecDepth 1000000 in
theorem p1350 : piece (sM [] [M1347]) x426 c193 f1299 (litH m1300 10136) .norm f1348 m1349 10366 = true := by kernel_rfl
set_option maxRecDepth 1000000 in
theorem p1353 : piece selfX x426 c194 f1348 (litH m1349 10366) .ret f1352 m1349 10366 = true := by kernel_rfl
set_option maxRecDepth 1000000 in
theorem p1374 : pieceC selfX x426 c188 2 f1370 (litH m1294 10366) f1372 m1373 10371 = true := by kernel_rfl
set_option maxRecDepth 1000000 in
theorem p1385 : pieceC selfX x110 c207 4 f1381 (litH m1378 10628) f1383 m1384 10629 = true := by kernel_rfl
set_option maxRecDepth 1000000 in
theorem p1425 : piece (sM [] [M1422]) x426 c193 f1372 (litH m1373 10371) .norm f1423 m1424 10630 = true := by kernel_rfl
set_option maxRecDepth 1000000 in
theorem p1428 : piece selfX x426 c194 f1423 (litH m1424 10630) .ret f1427 m1424 10630 = true := by kernel_rfl
set_option maxRecDepth 1000000 in
theorem p1444 : piece selfX x417 c275 f1435 (litH m1294 10630) .norm f1442 m1443 10663 = true := by kernel_rfl
set_option maxRecDepth 1000000 in
theorem p1483 : piece selfX x22 c135 f1283 (litH m1462 10663) (.exit 0) f1481 m1482 10693 = true := by kernel_rfl
set_option maxRecDepth 1000000 in
theorem p1534 : pieceC selfX x22 c142 2 f1528 (litH m1529 11214) f1532 m1533 11215 = true := by kernel_rfl
set_option maxRecDepth 1000000 in
theorem p1541 : pieceC selfX x22 c157 2 f1537 (litH m1533 11215) f1539 m1540 11216 = true := by kernel_rfl
set_option maxRecDepth 1000000 in
theorem p1548 : pieceC selfX x407 c168 7 f1544 (litH m1543 11216) f1546 m1547 11299 = true := by kernel_rfl
set_option maxRecDepth 1000000 in
theorem p1554 : pieceC selfX x417 c178 5 f1550 (litH m1547 11299) f1552 m1553 11382 = true := by kernel_rfl
set_option maxRecDepth 1000000 in
theorem p1560 : pieceC selfX x426 c188 2 f1556 (litH m1553 11382) f1558 m1559 11387 = true := by kernel_rfl
set_option maxRecDepth 1000000 in
theorem p1571 : pieceC selfX x110 c207 4 f1567 (litH m1564 11615) f1569 m1570 11616 = true := by kernel_rfl
set_option maxRecDepth 1000000 in
theorem p1579 : piece selfX x110 c221 f1576 (litH m1577 11617) .norm f1578 m1577 11617 = true := by kernel_rfl
set_option maxRecDepth 1000000 in
theorem p1609 : piece (sM [] [M1606]) x426 c193 f1558 (litH m1559 11387) .norm f1607 m1608 11617 = true := by kernel_rfl
set_option maxRecDepth 1000000 in
theorem p1612 : piece selfX x426 c194 f1607 (litH m1608 11617) .ret f1611 m1608 11617 = true := by kernel_rfl
set_option maxRecDepth 1000000 in
theorem p1633 : pieceC selfX x426 c188 2 f1629 (litH m1553 11617) f1631 m1632 11622 = true := by kernel_rfl
set_option maxRecDepth 1000000 in
theorem p1644 : pieceC selfX x110 c207 4 f1640 (litH m1637 11879) f1642 m1643 11880 = true := by kernel_rfl
set_option maxRecDepth 1000000 in
theorem p1684 : piece (sM [] [M1681]) x426 c193 f1631 (litH m1632 11622) .norm f1682 m1683 11881 = true := by kernel_rfl
set_option maxRecDepth 1000000 in
theorem p1687 : piece selfX x426 c194 f1682 (litH m1683 11881) .ret f1686 m1683 11881 = true := by kernel_rfl
set_option maxRecDepth 1000000 in
theorem p1703 : piece selfX x417 c275 f1694 (litH m1553 11881) .norm f1701 m1702 11914 = true := by kernel_rfl
set_option maxRecDepth 1000000 in
theorem p1742 : piece selfX x22 c135 f1542 (litH m1721 11914) (.exit 0) f1740 m1741 11944 = true := by kernel_rfl
set_option maxRecDepth 1000000 in
theorem p1781 : piece (sM [] [M1778]) x62 c1764 f1760 (litH m1761 12015) .norm f1779 m1780 13072 = true := by kernel_rfl
set_option maxRecDepth 1000000 in
theorem p1807 : pieceC selfX x110 c207 4 f1803 (litH m1797 13694) f1805 m1806 13695 = true := by kernel_rfl
set_option maxRecDepth 1000000 in
theorem p1816 : piece selfX x110 c221 f1813 (litH m1814 13696) .norm f1815 m1814 13696 = true := by kernel_rfl
set_option maxRecDepth 1000000 in
theorem p1839 : piece selfX x110 c221 f1836 (litH m1837 13696) .norm f1838 m1837 13696 = true := by kernel_rfl
end Rn
end Cr
end Go.Proofs.YtekbkaipdmklpaaGreatDoor
