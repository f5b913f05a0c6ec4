/- Pieces of the run, each by the kernel. -/
import Derived.Test.YtekbkaipdmklpaaGreatDoorSz
import Derived.KernelRfl
namespace Go.Proofs.YtekbkaipdmklpaaGreatDoor
namespace Cr
open Go Go.RowKit
open Sn
namespace Rn
set_option maxRecDepth 1000000 in
theorem p11 : callPreI PR spX selfX (comp PR) GG x3 c8 0 0 f2 (litH m3 12) f2 m3 12 5 f10 = true := by kernel_rfl
set_option maxRecDepth 1000000 in
theorem p228 : piece selfX x110 c221 f227 (litH m224 1831) (.exit 0) f227 m224 1831 = true := by kernel_rfl
set_option maxRecDepth 1000000 in
theorem p308 : piece selfX x110 c221 f307 (litH m305 2095) (.exit 0) f307 m305 2095 = true := by kernel_rfl
set_option maxRecDepth 1000000 in
theorem p364 : restI PR spX selfX (comp PR) GG x407 c173 7 f175 (litH m362 2128) f175 m362 2128 = true := by kernel_rfl
set_option maxRecDepth 1000000 in
theorem p436 : piece selfX x3 c9 f431 (litH m429 2272) .norm f431 m429 2272 = true := by kernel_rfl
set_option maxRecDepth 1000000 in
theorem p513 : piece selfX x110 c221 f512 (litH m509 3088) (.exit 0) f512 m509 3088 = true := by kernel_rfl
set_option maxRecDepth 1000000 in
theorem p588 : piece selfX x110 c221 f587 (litH m585 3352) (.exit 0) f587 m585 3352 = true := by kernel_rfl
set_option maxRecDepth 1000000 in
theorem p644 : restI PR spX selfX (comp PR) GG x407 c173 7 f481 (litH m642 3385) f481 m642 3385 = true := by kernel_rfl
set_option maxRecDepth 1000000 in
theorem p769 : piece selfX x110 c221 f768 (litH m766 5865) (.exit 0) f768 m766 5865 = true := by kernel_rfl
set_option maxRecDepth 1000000 in
theorem p787 : piece selfX x110 c221 f786 (litH m783 5865) (.exit 0) f786 m783 5865 = true := by kernel_rfl
set_option maxRecDepth 1000000 in
theorem p926 : piece selfX x110 c221 f925 (litH m922 8444) (.exit 0) f925 m922 8444 = true := by kernel_rfl
set_option maxRecDepth 1000000 in
theorem p1001 : piece selfX x110 c221 f1000 (litH m998 8708) (.exit 0) f1000 m998 8708 = true := by kernel_rfl
set_option maxRecDepth 1000000 in
theorem p1057 : restI PR spX selfX (comp PR) GG x407 c173 7 f894 (litH m1055 8741) f894 m1055 8741 = true := by kernel_rfl
set_option maxRecDepth 1000000 in
theorem p1151 : callPreI PR spX selfX (comp PR) GG x3 c1148 0 0 f1145 (litH m1140 8776) f1145 m1140 8776 5 f1150 = true := by kernel_rfl
set_option maxRecDepth 1000000 in
theorem p1322 : piece selfX x110 c221 f1321 (litH m1318 10366) (.exit 0) f1321 m1318 10366 = true := by kernel_rfl
set_option maxRecDepth 1000000 in
theorem p1397 : piece selfX x110 c221 f1396 (litH m1394 10630) (.exit 0) f1396 m1394 10630 = true := by kernel_rfl
set_option maxRecDepth 1000000 in
theorem p1453 : restI PR spX selfX (comp PR) GG x407 c173 7 f1290 (litH m1451 10663) f1290 m1451 10663 = true := by kernel_rfl
set_option maxRecDepth 1000000 in
theorem p1581 : piece selfX x110 c221 f1580 (litH m1577 11617) (.exit 0) f1580 m1577 11617 = true := by kernel_rfl
set_option maxRecDepth 1000000 in
theorem p1656 : piece selfX x110 c221 f1655 (litH m1653 11881) (.exit 0) f1655 m1653 11881 = true := by kernel_rfl
set_option maxRecDepth 1000000 in
theorem p1661 : nextB PR spX selfX GG x110 c220 f1652 (litH m1653 11881) [⟨f1655, m1653, 11881⟩] = true := by kernel_rfl
set_option maxRecDepth 1000000 in
theorem p1663 : nextB PR spX selfX GG x110 c220 f1645 (litH m1646 11881) [⟨f1650, m1651, 11881⟩] = true := by kernel_rfl
set_option maxRecDepth 1000000 in
theorem p1669 : callMid (comp PR) GG x64 c202 4 f1639 (tu [(s 11879 0 3 3), (i 0)]) (litH m1649 11881) f1668 m1649 11881 = true := by kernel_rfl
set_option maxRecDepth 1000000 in
theorem p1693 : callMid (comp PR) GG x417 c279 3 f1628 tt (litH m1683 11881) f1692 m1553 11881 = true := by kernel_rfl
set_option maxRecDepth 1000000 in
theorem p1695 : restI PR spX selfX (comp PR) GG x417 c279 4 f1692 (litH m1553 11881) f1694 m1553 11881 = true := by kernel_rfl
set_option maxRecDepth 1000000 in
theorem p1711 : callMid (comp PR) GG x407 c173 6 f1549 un (litH m1702 11914) f1549 m1710 11914 = true := by kernel_rfl
set_option maxRecDepth 1000000 in
theorem p1712 : restI PR spX selfX (comp PR) GG x407 c173 7 f1549 (litH m1710 11914) f1549 m1710 11914 = true := by kernel_rfl
set_option maxRecDepth 1000000 in
theorem p1716 : piece selfX x407 c174 f1549 (litH m1710 11914) .ret f1549 m1710 11914 = true := by kernel_rfl
set_option maxRecDepth 1000000 in
theorem p1722 : callMid (comp PR) GG x22 c162 6 f1542 ff (litH m1710 11914) f1542 m1721 11914 = true := by kernel_rfl
set_option maxRecDepth 1000000 in
theorem p1723 : restI PR spX selfX (comp PR) GG x22 c162 7 f1542 (litH m1721 11914) f1542 m1721 11914 = true := by kernel_rfl
set_option maxRecDepth 1000000 in
theorem p1823 : piece selfX x110 c221 f1822 (litH m1820 13696) (.exit 0) f1822 m1820 13696 = true := by kernel_rfl
set_option maxRecDepth 1000000 in
theorem p1826 : resHas PR 3 71 f1824 (litH m1820 13696) Tryz.f110.results.toList (tu [(s 13694 0 4 4), (i 0)]) m1812 13696 = true := by kernel_rfl
set_option maxRecDepth 1000000 in
theorem p1828 : nextB PR spX selfX GG x110 c220 f1819 (litH m1820 13696) [⟨f1822, m1820, 13696⟩] = true := by kernel_rfl
set_option maxRecDepth 1000000 in
theorem p1830 : nextB PR spX selfX GG x110 c220 f1815 (litH m1814 13696) [⟨f1817, m1818, 13696⟩] = true := by kernel_rfl
set_option maxRecDepth 1000000 in
theorem p1841 : piece selfX x110 c221 f1840 (litH m1837 13696) (.exit 0) f1840 m1837 13696 = true := by kernel_rfl
set_option maxRecDepth 1000000 in
theorem p1844 : resHas PR 3 71 f1842 (litH m1837 13696) Tryz.f110.results.toList (tu [(s 13694 0 4 4), (i 0)]) m1812 13696 = true := by kernel_rfl
set_option maxRecDepth 1000000 in
theorem p1846 : nextB PR spX selfX GG x110 c220 f1838 (litH m1837 13696) [⟨f1840, m1837, 13696⟩] = true := by kernel_rfl
set_option maxRecDepth 1000000 in
theorem p1848 : nextB PR spX selfX GG x110 c220 f1819 (litH m1834 13696) [⟨f1836, m1837, 13696⟩] = true := by kernel_rfl
set_option maxRecDepth 1000000 in
theorem p1850 : nextB PR spX selfX GG x110 c220 f1808 (litH m1809 13696) [⟨f1813, m1814, 13696⟩, ⟨f1832, m1833, 13696⟩] = true := by kernel_rfl
set_option maxRecDepth 1000000 in
theorem p1856 : callMid (comp PR) GG x64 c1800 4 f1802 (tu [(s 13694 0 4 4), (i 0)]) (litH m1812 13696) f1855 m1812 13696 = true := by kernel_rfl
set_option maxRecDepth 1000000 in
theorem p1886 : callMid (comp PR) GG x10 c1507 2 f1509 (tu [(ag [(y 1), (y 0), (i 0), (q 14394 2), (q 14400 2), tt, ff, (i 0), (i 0), (i 0)]), (i 0)]) (litH m1882 14404) f1885 m1882 14404 = true := by kernel_rfl
set_option maxRecDepth 1000000 in
theorem p1902 : callMid (comp PR) GG x3 c1240 20 f1242 tt (litH m1888 14409) f1900 m1901 14409 = true := by kernel_rfl
set_option maxRecDepth 1000000 in
theorem p1908 : piece selfX x3 c1241 f1903 (litH m1901 14409) .ret f1903 m1901 14409 = true := by kernel_rfl
end Rn
end Cr
end Go.Proofs.YtekbkaipdmklpaaGreatDoor
