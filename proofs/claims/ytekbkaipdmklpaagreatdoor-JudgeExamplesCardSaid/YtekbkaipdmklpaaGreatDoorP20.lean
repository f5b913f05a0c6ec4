/- Pieces of the run, each by the kernel. -/
import Derived.Test.YtekbkaipdmklpaaGreatDoorSz
import Derived.KernelRfl
namespace Go.Proofs.YtekbkaipdmklpaaGreatDoor
namespace Cr
open Go Go.RowKit
open Sn
namespace Rn
set_option maxRecDepth 1000000 in
theorem p95 : restI PR spX selfX (comp PR) GG x5 c75 3 f91 (litH m70 816) f93 m94 817 = true := by kernel_rfl
set_option maxRecDepth 1000000 in
theorem p126 : pieceC selfX x22 c123 1 f121 (litH m122 1196) f124 m125 1197 = true := by kernel_rfl
set_option maxRecDepth 1000000 in
theorem p140 : pieceC selfX x22 c136 1 f137 (litH m138 1428) f137 m138 1428 = true := by kernel_rfl
set_option maxRecDepth 1000000 in
theorem p151 : pieceC selfX x22 c149 1 f143 (litH m144 1429) f150 m144 1429 = true := by kernel_rfl
set_option maxRecDepth 1000000 in
theorem p155 : pieceC selfX x22 c153 1 f150 (litH m144 1429) f154 m144 1429 = true := by kernel_rfl
set_option maxRecDepth 1000000 in
theorem p167 : callPreI PR spX selfX (comp PR) GG x22 c162 0 6 f158 (litH m159 1430) f164 m165 1430 407 f166 = true := by kernel_rfl
set_option maxRecDepth 1000000 in
theorem p177 : callPreI PR spX selfX (comp PR) GG x407 c173 0 6 f169 (litH m170 1513) f175 m170 1513 417 f176 = true := by kernel_rfl
set_option maxRecDepth 1000000 in
theorem p206 : callPreI PR spX selfX (comp PR) GG x64 c202 0 4 f198 (litH m199 1829) f204 m199 1829 110 f205 = true := by kernel_rfl
set_option maxRecDepth 1000000 in
theorem p216 : pieceC selfX x110 c212 1 f208 (litH m209 1830) f214 m215 1831 = true := by kernel_rfl
set_option maxRecDepth 1000000 in
theorem p243 : restI PR spX selfX (comp PR) GG x64 c202 5 f240 (litH m209 1831) f242 m209 1831 = true := by kernel_rfl
set_option maxRecDepth 1000000 in
theorem p248 : piece selfX x64 c203 f242 (litH m209 1831) .ret f247 m209 1831 = true := by kernel_rfl
set_option maxRecDepth 1000000 in
theorem p272 : pieceC selfX x417 c184 2 f266 (litH m180 1831) f271 m180 1831 = true := by kernel_rfl
set_option maxRecDepth 1000000 in
theorem p293 : callPreI PR spX selfX (comp PR) GG x64 c202 0 4 f288 (litH m289 2093) f291 m289 2093 110 f292 = true := by kernel_rfl
set_option maxRecDepth 1000000 in
theorem p299 : pieceC selfX x110 c212 1 f294 (litH m295 2094) f297 m298 2095 = true := by kernel_rfl
set_option maxRecDepth 1000000 in
theorem p323 : restI PR spX selfX (comp PR) GG x64 c202 5 f320 (litH m301 2095) f322 m301 2095 = true := by kernel_rfl
set_option maxRecDepth 1000000 in
theorem p328 : piece selfX x64 c203 f322 (litH m301 2095) .ret f327 m301 2095 = true := by kernel_rfl
set_option maxRecDepth 1000000 in
theorem p379 : piece selfX x22 c163 f164 (litH m373 2128) (.exit 1) f164 m373 2128 = true := by kernel_rfl
set_option maxRecDepth 1000000 in
theorem p414 : restI PR spX selfX (comp PR) GG x5 c107 3 f410 (litH m104 2267) f412 m413 2268 = true := by kernel_rfl
set_option maxRecDepth 1000000 in
theorem p456 : pieceC selfX x22 c123 1 f452 (litH m453 2453) f454 m455 2454 = true := by kernel_rfl
set_option maxRecDepth 1000000 in
theorem p463 : pieceC selfX x22 c136 1 f460 (litH m461 2685) f460 m461 2685 = true := by kernel_rfl
set_option maxRecDepth 1000000 in
theorem p468 : pieceC selfX x22 c149 1 f464 (litH m465 2686) f467 m465 2686 = true := by kernel_rfl
set_option maxRecDepth 1000000 in
theorem p470 : pieceC selfX x22 c153 1 f467 (litH m465 2686) f469 m465 2686 = true := by kernel_rfl
set_option maxRecDepth 1000000 in
theorem p477 : callPreI PR spX selfX (comp PR) GG x22 c162 0 6 f471 (litH m472 2687) f474 m475 2687 407 f476 = true := by kernel_rfl
set_option maxRecDepth 1000000 in
theorem p483 : callPreI PR spX selfX (comp PR) GG x407 c173 0 6 f478 (litH m479 2770) f481 m479 2770 417 f482 = true := by kernel_rfl
set_option maxRecDepth 1000000 in
theorem p500 : callPreI PR spX selfX (comp PR) GG x64 c202 0 4 f495 (litH m496 3086) f498 m496 3086 110 f499 = true := by kernel_rfl
set_option maxRecDepth 1000000 in
theorem p506 : pieceC selfX x110 c212 1 f501 (litH m502 3087) f504 m505 3088 = true := by kernel_rfl
set_option maxRecDepth 1000000 in
theorem p528 : restI PR spX selfX (comp PR) GG x64 c202 5 f525 (litH m502 3088) f527 m502 3088 = true := by kernel_rfl
set_option maxRecDepth 1000000 in
theorem p533 : piece selfX x64 c203 f527 (litH m502 3088) .ret f532 m502 3088 = true := by kernel_rfl
set_option maxRecDepth 1000000 in
theorem p557 : pieceC selfX x417 c184 2 f551 (litH m485 3088) f556 m485 3088 = true := by kernel_rfl
set_option maxRecDepth 1000000 in
theorem p573 : callPreI PR spX selfX (comp PR) GG x64 c202 0 4 f568 (litH m569 3350) f571 m569 3350 110 f572 = true := by kernel_rfl
set_option maxRecDepth 1000000 in
theorem p579 : pieceC selfX x110 c212 1 f574 (litH m575 3351) f577 m578 3352 = true := by kernel_rfl
set_option maxRecDepth 1000000 in
theorem p603 : restI PR spX selfX (comp PR) GG x64 c202 5 f600 (litH m581 3352) f602 m581 3352 = true := by kernel_rfl
set_option maxRecDepth 1000000 in
theorem p608 : piece selfX x64 c203 f602 (litH m581 3352) .ret f607 m581 3352 = true := by kernel_rfl
set_option maxRecDepth 1000000 in
theorem p659 : piece selfX x22 c163 f474 (litH m653 3385) (.exit 1) f474 m653 3385 = true := by kernel_rfl
set_option maxRecDepth 1000000 in
theorem p739 : restI PR spX selfX (comp PR) GG x64 c710 7 f734 (litH m735 5862) f737 m738 5863 = true := by kernel_rfl
set_option maxRecDepth 1000000 in
theorem p750 : callPreI PR spX selfX (comp PR) GG x64 c746 0 4 f743 (litH m738 5863) f748 m738 5863 110 f749 = true := by kernel_rfl
set_option maxRecDepth 1000000 in
theorem p756 : pieceC selfX x110 c212 1 f751 (litH m752 5864) f754 m755 5865 = true := by kernel_rfl
set_option maxRecDepth 1000000 in
theorem p804 : restI PR spX selfX (comp PR) GG x64 c746 5 f801 (litH m758 5865) f803 m758 5865 = true := by kernel_rfl
set_option maxRecDepth 1000000 in
theorem p838 : restI PR spX selfX (comp PR) GG x3 c439 3 f834 (litH m831 6573) f836 m837 6574 = true := by kernel_rfl
set_option maxRecDepth 1000000 in
theorem p876 : pieceC selfX x22 c136 1 f873 (litH m874 8041) f873 m874 8041 = true := by kernel_rfl
set_option maxRecDepth 1000000 in
theorem p883 : pieceC selfX x22 c153 1 f880 (litH m878 8042) f882 m878 8042 = true := by kernel_rfl
set_option maxRecDepth 1000000 in
theorem p890 : callPreI PR spX selfX (comp PR) GG x22 c162 0 6 f884 (litH m885 8043) f887 m888 8043 407 f889 = true := by kernel_rfl
set_option maxRecDepth 1000000 in
theorem p896 : callPreI PR spX selfX (comp PR) GG x407 c173 0 6 f891 (litH m892 8126) f894 m892 8126 417 f895 = true := by kernel_rfl
set_option maxRecDepth 1000000 in
theorem p919 : pieceC selfX x110 c212 1 f914 (litH m915 8443) f917 m918 8444 = true := by kernel_rfl
set_option maxRecDepth 1000000 in
theorem p941 : restI PR spX selfX (comp PR) GG x64 c202 5 f938 (litH m915 8444) f940 m915 8444 = true := by kernel_rfl
set_option maxRecDepth 1000000 in
theorem p970 : pieceC selfX x417 c184 2 f964 (litH m898 8444) f969 m898 8444 = true := by kernel_rfl
set_option maxRecDepth 1000000 in
theorem p992 : pieceC selfX x110 c212 1 f987 (litH m988 8707) f990 m991 8708 = true := by kernel_rfl
set_option maxRecDepth 1000000 in
theorem p1016 : restI PR spX selfX (comp PR) GG x64 c202 5 f1013 (litH m994 8708) f1015 m994 8708 = true := by kernel_rfl
set_option maxRecDepth 1000000 in
theorem p1072 : piece selfX x22 c163 f887 (litH m1066 8741) (.exit 1) f887 m1066 8741 = true := by kernel_rfl
set_option maxRecDepth 1000000 in
theorem p1133 : piece selfX x5 c18 f1125 (litH m1126 8776) .ret f1131 m1132 8776 = true := by kernel_rfl
set_option maxRecDepth 1000000 in
theorem p1196 : restI PR spX selfX (comp PR) GG x5 c17 2 f1192 (litH m1189 9272) f1194 m1195 9274 = true := by kernel_rfl
set_option maxRecDepth 1000000 in
theorem p1219 : restI PR spX selfX (comp PR) GG x5 c75 3 f1215 (litH m1201 9551) f1217 m1218 9552 = true := by kernel_rfl
set_option maxRecDepth 1000000 in
theorem p1225 : piece selfX x5 c76 f1217 (litH m1218 9552) .ret f1223 m1224 9552 = true := by kernel_rfl
set_option maxRecDepth 1000000 in
theorem p1272 : pieceC selfX x22 c136 1 f1269 (litH m1270 9963) f1269 m1270 9963 = true := by kernel_rfl
set_option maxRecDepth 1000000 in
theorem p1279 : pieceC selfX x22 c153 1 f1276 (litH m1274 9964) f1278 m1274 9964 = true := by kernel_rfl
set_option maxRecDepth 1000000 in
theorem p1286 : callPreI PR spX selfX (comp PR) GG x22 c162 0 6 f1280 (litH m1281 9965) f1283 m1284 9965 407 f1285 = true := by kernel_rfl
set_option maxRecDepth 1000000 in
theorem p1292 : callPreI PR spX selfX (comp PR) GG x407 c173 0 6 f1287 (litH m1288 10048) f1290 m1288 10048 417 f1291 = true := by kernel_rfl
set_option maxRecDepth 1000000 in
theorem p1315 : pieceC selfX x110 c212 1 f1310 (litH m1311 10365) f1313 m1314 10366 = true := by kernel_rfl
set_option maxRecDepth 1000000 in
theorem p1337 : restI PR spX selfX (comp PR) GG x64 c202 5 f1334 (litH m1311 10366) f1336 m1311 10366 = true := by kernel_rfl
set_option maxRecDepth 1000000 in
theorem p1366 : pieceC selfX x417 c184 2 f1360 (litH m1294 10366) f1365 m1294 10366 = true := by kernel_rfl
set_option maxRecDepth 1000000 in
theorem p1388 : pieceC selfX x110 c212 1 f1383 (litH m1384 10629) f1386 m1387 10630 = true := by kernel_rfl
set_option maxRecDepth 1000000 in
theorem p1412 : restI PR spX selfX (comp PR) GG x64 c202 5 f1409 (litH m1390 10630) f1411 m1390 10630 = true := by kernel_rfl
set_option maxRecDepth 1000000 in
theorem p1468 : piece selfX x22 c163 f1283 (litH m1462 10663) (.exit 1) f1283 m1462 10663 = true := by kernel_rfl
set_option maxRecDepth 1000000 in
theorem p1489 : piece selfX x22 c134 f1481 (litH m1482 10693) .ret f1488 m1482 10693 = true := by kernel_rfl
set_option maxRecDepth 1000000 in
theorem p1503 : restI PR spX selfX (comp PR) GG x10 c1248 3 f1499 (litH m1251 10802) f1501 m1502 10803 = true := by kernel_rfl
set_option maxRecDepth 1000000 in
theorem p1531 : pieceC selfX x22 c136 1 f1528 (litH m1529 11214) f1528 m1529 11214 = true := by kernel_rfl
set_option maxRecDepth 1000000 in
theorem p1538 : pieceC selfX x22 c153 1 f1535 (litH m1533 11215) f1537 m1533 11215 = true := by kernel_rfl
set_option maxRecDepth 1000000 in
theorem p1545 : callPreI PR spX selfX (comp PR) GG x22 c162 0 6 f1539 (litH m1540 11216) f1542 m1543 11216 407 f1544 = true := by kernel_rfl
set_option maxRecDepth 1000000 in
theorem p1551 : callPreI PR spX selfX (comp PR) GG x407 c173 0 6 f1546 (litH m1547 11299) f1549 m1547 11299 417 f1550 = true := by kernel_rfl
set_option maxRecDepth 1000000 in
theorem p1574 : pieceC selfX x110 c212 1 f1569 (litH m1570 11616) f1572 m1573 11617 = true := by kernel_rfl
set_option maxRecDepth 1000000 in
theorem p1596 : restI PR spX selfX (comp PR) GG x64 c202 5 f1593 (litH m1570 11617) f1595 m1570 11617 = true := by kernel_rfl
set_option maxRecDepth 1000000 in
theorem p1625 : pieceC selfX x417 c184 2 f1619 (litH m1553 11617) f1624 m1553 11617 = true := by kernel_rfl
set_option maxRecDepth 1000000 in
theorem p1647 : pieceC selfX x110 c212 1 f1642 (litH m1643 11880) f1645 m1646 11881 = true := by kernel_rfl
set_option maxRecDepth 1000000 in
theorem p1671 : restI PR spX selfX (comp PR) GG x64 c202 5 f1668 (litH m1649 11881) f1670 m1649 11881 = true := by kernel_rfl
set_option maxRecDepth 1000000 in
theorem p1727 : piece selfX x22 c163 f1542 (litH m1721 11914) (.exit 1) f1542 m1721 11914 = true := by kernel_rfl
set_option maxRecDepth 1000000 in
theorem p1748 : piece selfX x22 c134 f1740 (litH m1741 11944) .ret f1747 m1741 11944 = true := by kernel_rfl
set_option maxRecDepth 1000000 in
theorem p1784 : piece selfX x62 c1765 f1779 (litH m1780 13072) .ret f1783 m1780 13072 = true := by kernel_rfl
set_option maxRecDepth 1000000 in
theorem p1810 : pieceC selfX x110 c212 1 f1805 (litH m1806 13695) f1808 m1809 13696 = true := by kernel_rfl
set_option maxRecDepth 1000000 in
theorem p1858 : restI PR spX selfX (comp PR) GG x64 c1800 5 f1855 (litH m1812 13696) f1857 m1812 13696 = true := by kernel_rfl
set_option maxRecDepth 1000000 in
theorem p1889 : restI PR spX selfX (comp PR) GG x10 c1507 3 f1885 (litH m1882 14404) f1887 m1888 14405 = true := by kernel_rfl
end Rn
end Cr
end Go.Proofs.YtekbkaipdmklpaaGreatDoor
