/-
  armariumlaw21.NodeWaits: a closed run, cut into calls that are run by themselves. No condition.
-/
import Derived.Test.YtdegbhgoldglaaaGreatDoorEW2
namespace Go.Proofs.YtdegbhgoldglaaaGreatDoor
noncomputable section
open Go Go.Eng
set_option maxRecDepth 1000000
def Wq127 : AO := oR [vI 1, vI 2, vI 0, vI 1, vI 0, vI 0, vI 0, vI 0, vI 0, vI 0, .slice none 0 0, vI 0, .slice none 0 0, vI 0, .slice none 0 0, .slice none 0 0, vI 0, vI 0, vI 0, vI 0, vI 0, vI 4, vI 2, vI 3, vI 1, vI 0, vI 0, vI 0, vI 0, vI 0, vI 0, .slice none 0 0, vI 0, vU 1493 0 1, vI 0, .slice none 0 0, .slice none 0 0, vI 0, vI 0, vI 0, vI 0, vI 0] 55
def We91 : Ent := ⟨17, [vP 81 0, vI 35], 1481, [(77, Wq22), (80, Wq16), (81, Wq27), (149, Wq11), (176, Wq18), (298, Wq62), (299, Wq121)], vU 1501 0 2, [(80, some Wq16), (1493, some Wq18), (1501, some Wq127)], 1506, [80], true⟩
-- COST 991
theorem We91_k : chk smW [] We91 = true := by kernel_rfl
theorem We91_c : EO We91 := eo (l := []) smW_ok trivial We91_k
def Wq128 : AO := oR [vI 1, vI 2, vI 0, vI 1, vI 0, vI 0, vI 0, vI 0, vI 0, vI 0, .slice none 0 0, vI 0, .slice none 0 0, vI 0, .slice none 0 0, .slice none 0 0, vI 0, vI 0, vI 0, vI 0, vI 0, vI 4, vI 2, vI 3, vI 1, vI 0, vI 0, vI 0, vI 0, vI 0, vI 0, .slice none 0 0, vI 0, vU 1520 0 1, vI 0, .slice none 0 0, .slice none 0 0, vI 0, vI 0, vI 0, vI 0, vI 0] 55
def We92 : Ent := ⟨17, [vP 81 0, vI 36], 1508, [(77, Wq22), (80, Wq16), (81, Wq27), (149, Wq11), (176, Wq18), (298, Wq62), (299, Wq121)], vU 1528 0 2, [(80, some Wq16), (1520, some Wq18), (1528, some Wq128)], 1533, [80], true⟩
-- COST 991
theorem We92_k : chk smW [] We92 = true := by kernel_rfl
theorem We92_c : EO We92 := eo (l := []) smW_ok trivial We92_k
def Wq129 : AO := oR [vI 1, vI 2, vI 0, vI 1, vI 0, vI 0, vI 0, vI 0, vI 0, vI 0, .slice none 0 0, vI 0, .slice none 0 0, vI 0, .slice none 0 0, .slice none 0 0, vI 0, vI 0, vI 0, vI 0, vI 0, vI 4, vI 2, vI 3, vI 1, vI 0, vI 0, vI 0, vI 0, vI 0, vI 0, .slice none 0 0, vI 0, vU 1547 0 1, vI 0, .slice none 0 0, .slice none 0 0, vI 0, vI 0, vI 0, vI 0, vI 0] 55
def We93 : Ent := ⟨17, [vP 81 0, vI 37], 1535, [(77, Wq22), (80, Wq16), (81, Wq27), (149, Wq11), (176, Wq18), (298, Wq62), (299, Wq121)], vU 1555 0 2, [(80, some Wq16), (1547, some Wq18), (1555, some Wq129)], 1560, [80], true⟩
-- COST 991
theorem We93_k : chk smW [] We93 = true := by kernel_rfl
theorem We93_c : EO We93 := eo (l := []) smW_ok trivial We93_k
def Wq130 : AO := oR [vI 1, vI 2, vI 0, vI 1, vI 0, vI 0, vI 0, vI 0, vI 0, vI 0, .slice none 0 0, vI 0, .slice none 0 0, vI 0, .slice none 0 0, .slice none 0 0, vI 0, vI 0, vI 0, vI 0, vI 0, vI 4, vI 2, vI 3, vI 1, vI 0, vI 0, vI 0, vI 0, vI 0, vI 0, .slice none 0 0, vI 0, vU 1574 0 1, vI 0, .slice none 0 0, .slice none 0 0, vI 0, vI 0, vI 0, vI 0, vI 0] 55
def We94 : Ent := ⟨17, [vP 81 0, vI 38], 1562, [(77, Wq22), (80, Wq16), (81, Wq27), (149, Wq11), (176, Wq18), (298, Wq62), (299, Wq121)], vU 1582 0 2, [(80, some Wq16), (1574, some Wq18), (1582, some Wq130)], 1587, [80], true⟩
-- COST 991
theorem We94_k : chk smW [] We94 = true := by kernel_rfl
theorem We94_c : EO We94 := eo (l := []) smW_ok trivial We94_k
def Wq131 : AO := oR [vI 1, vI 2, vI 0, vI 1, vI 0, vI 0, vI 0, vI 0, vI 0, vI 0, .slice none 0 0, vI 0, .slice none 0 0, vI 0, .slice none 0 0, .slice none 0 0, vI 0, vI 0, vI 0, vI 0, vI 0, vI 4, vI 2, vI 3, vI 1, vI 0, vI 0, vI 0, vI 0, vI 0, vI 0, .slice none 0 0, vI 0, vU 1601 0 1, vI 0, .slice none 0 0, .slice none 0 0, vI 0, vI 0, vI 0, vI 0, vI 0] 55
def We95 : Ent := ⟨17, [vP 81 0, vI 39], 1589, [(77, Wq22), (80, Wq16), (81, Wq27), (149, Wq11), (176, Wq18), (298, Wq62), (299, Wq121)], vU 1609 0 2, [(80, some Wq16), (1601, some Wq18), (1609, some Wq131)], 1614, [80], true⟩
-- COST 991
theorem We95_k : chk smW [] We95 = true := by kernel_rfl
theorem We95_c : EO We95 := eo (l := []) smW_ok trivial We95_k
def Wq132 : AO := oR [vI 1, vI 2, vI 0, vI 1, vI 0, vI 0, vI 0, vI 0, vI 0, vI 0, .slice none 0 0, vI 0, .slice none 0 0, vI 0, .slice none 0 0, .slice none 0 0, vI 0, vI 0, vI 0, vI 0, vI 0, vI 4, vI 2, vI 3, vI 1, vI 0, vI 0, vI 0, vI 0, vI 0, vI 0, .slice none 0 0, vI 0, vU 1628 0 1, vI 0, .slice none 0 0, .slice none 0 0, vI 0, vI 0, vI 0, vI 0, vI 0] 55
def We96 : Ent := ⟨17, [vP 81 0, vI 40], 1616, [(77, Wq22), (80, Wq16), (81, Wq27), (149, Wq11), (176, Wq18), (298, Wq62), (299, Wq121)], vU 1636 0 2, [(80, some Wq16), (1628, some Wq18), (1636, some Wq132)], 1641, [80], true⟩
-- COST 991
theorem We96_k : chk smW [] We96 = true := by kernel_rfl
theorem We96_c : EO We96 := eo (l := []) smW_ok trivial We96_k
def Wq133 : AO := oR [vI 1, vI 2, vI 0, vI 1, vI 0, vI 0, vI 0, vI 0, vI 0, vI 0, .slice none 0 0, vI 0, .slice none 0 0, vI 0, .slice none 0 0, .slice none 0 0, vI 0, vI 0, vI 0, vI 0, vI 0, vI 4, vI 2, vI 3, vI 1, vI 0, vI 0, vI 0, vI 0, vI 0, vI 0, .slice none 0 0, vI 0, vU 1655 0 1, vI 0, .slice none 0 0, .slice none 0 0, vI 0, vI 0, vI 0, vI 0, vI 0] 55
def We97 : Ent := ⟨17, [vP 81 0, vI 41], 1643, [(77, Wq22), (80, Wq16), (81, Wq27), (149, Wq11), (176, Wq18), (298, Wq62), (299, Wq121)], vU 1663 0 2, [(80, some Wq16), (1655, some Wq18), (1663, some Wq133)], 1668, [80], true⟩
-- COST 991
theorem We97_k : chk smW [] We97 = true := by kernel_rfl
theorem We97_c : EO We97 := eo (l := []) smW_ok trivial We97_k
def Wq134 : AO := oR [vI 1, vI 2, vI 0, vI 1, vI 0, vI 0, vI 0, vI 0, vI 0, vI 0, .slice none 0 0, vI 0, .slice none 0 0, vI 0, .slice none 0 0, .slice none 0 0, vI 0, vI 0, vI 0, vI 0, vI 0, vI 4, vI 2, vI 3, vI 1, vI 0, vI 0, vI 0, vI 0, vI 0, vI 0, .slice none 0 0, vI 0, vU 1682 0 1, vI 0, .slice none 0 0, .slice none 0 0, vI 0, vI 0, vI 0, vI 0, vI 0] 55
def We98 : Ent := ⟨17, [vP 81 0, vI 42], 1670, [(77, Wq22), (80, Wq16), (81, Wq27), (149, Wq11), (176, Wq18), (298, Wq62), (299, Wq121)], vU 1690 0 2, [(80, some Wq16), (1682, some Wq18), (1690, some Wq134)], 1695, [80], true⟩
-- COST 991
theorem We98_k : chk smW [] We98 = true := by kernel_rfl
theorem We98_c : EO We98 := eo (l := []) smW_ok trivial We98_k
def Wq135 : AO := oR [vI 1, vI 2, vI 0, vI 1, vI 0, vI 0, vI 0, vI 0, vI 0, vI 0, .slice none 0 0, vI 0, .slice none 0 0, vI 0, .slice none 0 0, .slice none 0 0, vI 0, vI 0, vI 0, vI 0, vI 0, vI 4, vI 2, vI 3, vI 1, vI 0, vI 0, vI 0, vI 0, vI 0, vI 0, .slice none 0 0, vI 0, vU 1709 0 1, vI 0, .slice none 0 0, .slice none 0 0, vI 0, vI 0, vI 0, vI 0, vI 0] 55
def We99 : Ent := ⟨17, [vP 81 0, vI 43], 1697, [(77, Wq22), (80, Wq16), (81, Wq27), (149, Wq11), (176, Wq18), (298, Wq62), (299, Wq121)], vU 1717 0 2, [(80, some Wq16), (1709, some Wq18), (1717, some Wq135)], 1722, [80], true⟩
-- COST 991
theorem We99_k : chk smW [] We99 = true := by kernel_rfl
theorem We99_c : EO We99 := eo (l := []) smW_ok trivial We99_k
def Wq136 : AO := oR [vI 1, vI 2, vI 0, vI 1, vI 0, vI 0, vI 0, vI 0, vI 0, vI 0, .slice none 0 0, vI 0, .slice none 0 0, vI 0, .slice none 0 0, .slice none 0 0, vI 0, vI 0, vI 0, vI 0, vI 0, vI 4, vI 2, vI 3, vI 1, vI 0, vI 0, vI 0, vI 0, vI 0, vI 0, .slice none 0 0, vI 0, vU 1736 0 1, vI 0, .slice none 0 0, .slice none 0 0, vI 0, vI 0, vI 0, vI 0, vI 0] 55
def We100 : Ent := ⟨17, [vP 81 0, vI 44], 1724, [(77, Wq22), (80, Wq16), (81, Wq27), (149, Wq11), (176, Wq18), (298, Wq62), (299, Wq121)], vU 1744 0 2, [(80, some Wq16), (1736, some Wq18), (1744, some Wq136)], 1749, [80], true⟩
-- COST 991
theorem We100_k : chk smW [] We100 = true := by kernel_rfl
theorem We100_c : EO We100 := eo (l := []) smW_ok trivial We100_k
def Wq137 : AO := oR [vI 1, vI 2, vI 0, vI 1, vI 0, vI 0, vI 0, vI 0, vI 0, vI 0, .slice none 0 0, vI 0, .slice none 0 0, vI 0, .slice none 0 0, .slice none 0 0, vI 0, vI 0, vI 0, vI 0, vI 0, vI 4, vI 2, vI 3, vI 1, vI 0, vI 0, vI 0, vI 0, vI 0, vI 0, .slice none 0 0, vI 0, vU 1763 0 1, vI 0, .slice none 0 0, .slice none 0 0, vI 0, vI 0, vI 0, vI 0, vI 0] 55
def We101 : Ent := ⟨17, [vP 81 0, vI 45], 1751, [(77, Wq22), (80, Wq16), (81, Wq27), (149, Wq11), (176, Wq18), (298, Wq62), (299, Wq121)], vU 1771 0 2, [(80, some Wq16), (1763, some Wq18), (1771, some Wq137)], 1776, [80], true⟩
-- COST 991
theorem We101_k : chk smW [] We101 = true := by kernel_rfl
theorem We101_c : EO We101 := eo (l := []) smW_ok trivial We101_k
def Wq138 : AO := oR [vI 1, vI 2, vI 0, vI 1, vI 0, vI 0, vI 0, vI 0, vI 0, vI 0, .slice none 0 0, vI 0, .slice none 0 0, vI 0, .slice none 0 0, .slice none 0 0, vI 0, vI 0, vI 0, vI 0, vI 0, vI 4, vI 2, vI 3, vI 1, vI 0, vI 0, vI 0, vI 0, vI 0, vI 0, .slice none 0 0, vI 0, vU 1790 0 1, vI 0, .slice none 0 0, .slice none 0 0, vI 0, vI 0, vI 0, vI 0, vI 0] 55
def We102 : Ent := ⟨17, [vP 81 0, vI 46], 1778, [(77, Wq22), (80, Wq16), (81, Wq27), (149, Wq11), (176, Wq18), (298, Wq62), (299, Wq121)], vU 1798 0 2, [(80, some Wq16), (1790, some Wq18), (1798, some Wq138)], 1803, [80], true⟩
-- COST 991
theorem We102_k : chk smW [] We102 = true := by kernel_rfl
theorem We102_c : EO We102 := eo (l := []) smW_ok trivial We102_k
def Wq139 : AO := oR [vI 1, vI 2, vI 0, vI 1, vI 0, vI 0, vI 0, vI 0, vI 0, vI 0, .slice none 0 0, vI 0, .slice none 0 0, vI 0, .slice none 0 0, .slice none 0 0, vI 0, vI 0, vI 0, vI 0, vI 0, vI 4, vI 2, vI 3, vI 1, vI 0, vI 0, vI 0, vI 0, vI 0, vI 0, .slice none 0 0, vI 0, vU 1817 0 1, vI 0, .slice none 0 0, .slice none 0 0, vI 0, vI 0, vI 0, vI 0, vI 0] 55
def We103 : Ent := ⟨17, [vP 81 0, vI 47], 1805, [(77, Wq22), (80, Wq16), (81, Wq27), (149, Wq11), (176, Wq18), (298, Wq62), (299, Wq121)], vU 1825 0 2, [(80, some Wq16), (1817, some Wq18), (1825, some Wq139)], 1830, [80], true⟩
-- COST 991
theorem We103_k : chk smW [] We103 = true := by kernel_rfl
theorem We103_c : EO We103 := eo (l := []) smW_ok trivial We103_k
def Wq140 : AO := oR [vI 1, vI 2, vI 0, vI 1, vI 0, vI 0, vI 0, vI 0, vI 0, vI 0, .slice none 0 0, vI 0, .slice none 0 0, vI 0, .slice none 0 0, .slice none 0 0, vI 0, vI 0, vI 0, vI 0, vI 0, vI 4, vI 2, vI 3, vI 1, vI 0, vI 0, vI 0, vI 0, vI 0, vI 0, .slice none 0 0, vI 0, vU 1844 0 1, vI 0, .slice none 0 0, .slice none 0 0, vI 0, vI 0, vI 0, vI 0, vI 0] 55
def We104 : Ent := ⟨17, [vP 81 0, vI 48], 1832, [(77, Wq22), (80, Wq16), (81, Wq27), (149, Wq11), (176, Wq18), (298, Wq62), (299, Wq121)], vU 1852 0 2, [(80, some Wq16), (1844, some Wq18), (1852, some Wq140)], 1857, [80], true⟩
-- COST 991
theorem We104_k : chk smW [] We104 = true := by kernel_rfl
theorem We104_c : EO We104 := eo (l := []) smW_ok trivial We104_k
def Wq141 : AO := oR [vI 1, vI 2, vI 0, vI 1, vI 0, vI 0, vI 0, vI 0, vI 0, vI 0, .slice none 0 0, vI 0, .slice none 0 0, vI 0, .slice none 0 0, .slice none 0 0, vI 0, vI 0, vI 0, vI 0, vI 0, vI 4, vI 2, vI 3, vI 1, vI 0, vI 0, vI 0, vI 0, vI 0, vI 0, .slice none 0 0, vI 0, vU 1871 0 1, vI 0, .slice none 0 0, .slice none 0 0, vI 0, vI 0, vI 0, vI 0, vI 0] 55
def We105 : Ent := ⟨17, [vP 81 0, vI 49], 1859, [(77, Wq22), (80, Wq16), (81, Wq27), (149, Wq11), (176, Wq18), (298, Wq62), (299, Wq121)], vU 1879 0 2, [(80, some Wq16), (1871, some Wq18), (1879, some Wq141)], 1884, [80], true⟩
-- COST 991
theorem We105_k : chk smW [] We105 = true := by kernel_rfl
theorem We105_c : EO We105 := eo (l := []) smW_ok trivial We105_k
def Wq142 : AO := oR [vI 1, vI 2, vI 0, vI 1, vI 0, vI 0, vI 0, vI 0, vI 0, vI 0, .slice none 0 0, vI 0, .slice none 0 0, vI 0, .slice none 0 0, .slice none 0 0, vI 0, vI 0, vI 0, vI 0, vI 0, vI 4, vI 2, vI 3, vI 1, vI 0, vI 0, vI 0, vI 0, vI 0, vI 0, .slice none 0 0, vI 0, vU 1898 0 1, vI 0, .slice none 0 0, .slice none 0 0, vI 0, vI 0, vI 0, vI 0, vI 0] 55
def We106 : Ent := ⟨17, [vP 81 0, vI 50], 1886, [(77, Wq22), (80, Wq16), (81, Wq27), (149, Wq11), (176, Wq18), (298, Wq62), (299, Wq121)], vU 1906 0 2, [(80, some Wq16), (1898, some Wq18), (1906, some Wq142)], 1911, [80], true⟩
-- COST 991
theorem We106_k : chk smW [] We106 = true := by kernel_rfl
theorem We106_c : EO We106 := eo (l := []) smW_ok trivial We106_k
end
end Go.Proofs.YtdegbhgoldglaaaGreatDoor
