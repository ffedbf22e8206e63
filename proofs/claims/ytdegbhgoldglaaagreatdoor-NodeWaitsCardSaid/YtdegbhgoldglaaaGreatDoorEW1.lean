/-
  armariumlaw21.NodeWaits: a closed run, cut into calls that are run by themselves. No condition.
-/
import Derived.Test.YtdegbhgoldglaaaGreatDoorEW0
namespace Go.Proofs.YtdegbhgoldglaaaGreatDoor
noncomputable section
open Go Go.Eng
set_option maxRecDepth 1000000
def Wq58 : AO := oR [vI 1, vI 2, vI 0, vI 1, vI 0, vI 0, vI 0, vI 0, vI 0, vI 0, .slice none 0 0, vI 0, .slice none 0 0, vI 0, .slice none 0 0, .slice none 0 0, vI 0, vI 0, vI 0, vI 0, vI 0, vI 4, vI 2, vI 3, vI 1, vI 0, vI 0, vI 0, vI 0, vI 0, vI 0, .slice none 0 0, vI 0, vU 1189 0 1, vI 0, .slice none 0 0, .slice none 0 0, vI 0, vI 0, vI 0, vI 0, vI 0, vI 8, vI 2, vI 3, vI 1, vI 0, vI 8589934593, vI 0, vI 0, vI 0, vI 0, .slice none 0 0, vI 0, .slice none 0 0, vI 0, .slice none 0 0, .slice none 0 0, vI 0, vI 0, vI 0, vI 0, vI 0] 55
def We29 : Ent := ⟨17, [vP 81 0, vI 26], 1177, [(77, Wq22), (80, Wq16), (81, Wq27), (149, Wq11), (176, Wq18), (299, Wq30)], vU 1206 0 3, [(80, some Wq16), (1189, some Wq18), (1206, some Wq58)], 1207, [80], true⟩
-- COST 1109
theorem We29_k : chk smW [] We29 = true := by kernel_rfl
theorem We29_c : EO We29 := eo (l := []) smW_ok trivial We29_k
def Wq59 : AO := oR [vI 1, vI 2, vI 0, vI 1, vI 0, vI 0, vI 0, vI 0, vI 0, vI 0, .slice none 0 0, vI 0, .slice none 0 0, vI 0, .slice none 0 0, .slice none 0 0, vI 0, vI 0, vI 0, vI 0, vI 0, vI 4, vI 2, vI 3, vI 1, vI 0, vI 0, vI 0, vI 0, vI 0, vI 0, .slice none 0 0, vI 0, vU 1222 0 1, vI 0, .slice none 0 0, .slice none 0 0, vI 0, vI 0, vI 0, vI 0, vI 0, vI 8, vI 2, vI 3, vI 1, vI 0, vI 8589934593, vI 0, vI 0, vI 0, vI 0, .slice none 0 0, vI 0, .slice none 0 0, vI 0, .slice none 0 0, .slice none 0 0, vI 0, vI 0, vI 0, vI 0, vI 0] 55
def We30 : Ent := ⟨17, [vP 81 0, vI 27], 1210, [(77, Wq22), (80, Wq16), (81, Wq27), (149, Wq11), (176, Wq18), (299, Wq30)], vU 1239 0 3, [(80, some Wq16), (1222, some Wq18), (1239, some Wq59)], 1240, [80], true⟩
-- COST 1109
theorem We30_k : chk smW [] We30 = true := by kernel_rfl
theorem We30_c : EO We30 := eo (l := []) smW_ok trivial We30_k
def Wq60 : AO := oR [vI 1, vI 2, vI 0, vI 1, vI 0, vI 0, vI 0, vI 0, vI 0, vI 0, .slice none 0 0, vI 0, .slice none 0 0, vI 0, .slice none 0 0, .slice none 0 0, vI 0, vI 0, vI 0, vI 0, vI 0, vI 4, vI 2, vI 3, vI 1, vI 0, vI 0, vI 0, vI 0, vI 0, vI 0, .slice none 0 0, vI 0, vU 1255 0 1, vI 0, .slice none 0 0, .slice none 0 0, vI 0, vI 0, vI 0, vI 0, vI 0, vI 8, vI 2, vI 3, vI 1, vI 0, vI 8589934593, vI 0, vI 0, vI 0, vI 0, .slice none 0 0, vI 0, .slice none 0 0, vI 0, .slice none 0 0, .slice none 0 0, vI 0, vI 0, vI 0, vI 0, vI 0] 55
def We31 : Ent := ⟨17, [vP 81 0, vI 28], 1243, [(77, Wq22), (80, Wq16), (81, Wq27), (149, Wq11), (176, Wq18), (299, Wq30)], vU 1272 0 3, [(80, some Wq16), (1255, some Wq18), (1272, some Wq60)], 1273, [80], true⟩
-- COST 1109
theorem We31_k : chk smW [] We31 = true := by kernel_rfl
theorem We31_c : EO We31 := eo (l := []) smW_ok trivial We31_k
def Wq61 : AO := oR [vI 1, vI 2, vI 0, vI 1, vI 0, vI 0, vI 0, vI 0, vI 0, vI 0, .slice none 0 0, vI 0, .slice none 0 0, vI 0, .slice none 0 0, .slice none 0 0, vI 0, vI 0, vI 0, vI 0, vI 0, vI 4, vI 2, vI 3, vI 1, vI 0, vI 0, vI 0, vI 0, vI 0, vI 0, .slice none 0 0, vI 0, vU 1288 0 1, vI 0, .slice none 0 0, .slice none 0 0, vI 0, vI 0, vI 0, vI 0, vI 0, vI 8, vI 2, vI 3, vI 1, vI 0, vI 8589934593, vI 0, vI 0, vI 0, vI 0, .slice none 0 0, vI 0, .slice none 0 0, vI 0, .slice none 0 0, .slice none 0 0, vI 0, vI 0, vI 0, vI 0, vI 0] 55
def We32 : Ent := ⟨17, [vP 81 0, vI 29], 1276, [(77, Wq22), (80, Wq16), (81, Wq27), (149, Wq11), (176, Wq18), (299, Wq30)], vU 1305 0 3, [(80, some Wq16), (1288, some Wq18), (1305, some Wq61)], 1306, [80], true⟩
-- COST 1109
theorem We32_k : chk smW [] We32 = true := by kernel_rfl
theorem We32_c : EO We32 := eo (l := []) smW_ok trivial We32_k
def Wq62 : AO := oR [vP 297 0, .slice (some ⟨319, 5, some 0⟩) 0 9223372036854775808, vI 0, v0, vI 0, v0, vI 0, v0, v0, v0, vI 0, .bool false, .bool false, vB 55 0x485454502f312e3120353033205365727669636520556e617661696c61626c650d0a436f6e74656e742d4c656e6774683a20300d0a0d0a, .bool false] 109
def Wq63 : AO := oR [vP 298 0, vI 0, vI 0, v0, v0, vI 0, vI 0, v0, vI 0, vI 0, .bool false, vI 0] 79
def Wq64 : AO := oR [vI 1, vI 2, vI 0, vI 1, vI 0, vI 0, vI 0, vI 0, vI 0, vI 0, .slice none 0 0, vI 0, .slice none 0 0, vI 0, .slice none 0 0, .slice none 0 0, vI 0, vI 0, vI 0, vI 0, vI 0, vI 4, vI 2, vI 3, vI 1, vI 0, vI 0, vI 0, vI 0, vI 0, vI 0, .slice none 0 0, vI 0, vU 1321 0 1, vI 0, .slice none 0 0, .slice none 0 0, vI 0, vI 0, vI 0, vI 0, vI 0] 55
def We33 : Ent := ⟨17, [vP 81 0, vI 30], 1309, [(0, Wq0), (77, Wq22), (80, Wq16), (81, Wq27), (149, Wq11), (176, Wq18), (297, Wq28), (298, Wq29), (299, Wq30)], vU 1329 0 2, [(80, some Wq16), (298, some Wq62), (299, some Wq63), (1321, some Wq18), (1329, some Wq64)], 1340, [80, 298, 299], true⟩
-- COST 1467
theorem We33_k : chk smW [] We33 = true := by kernel_rfl
theorem We33_c : EO We33 := eo (l := []) smW_ok trivial We33_k
def Wq65 : AO := oR [vB 55 0x485454502f312e3120353033205365727669636520556e617661696c61626c650d0a436f6e74656e742d4c656e6774683a20300d0a0d0a, vI 0, vI 0, vI 0, .slice none 0 0, v0] 83
def Wq66 : AO := oR [vB 55 0x485454502f312e3120353033205365727669636520556e617661696c61626c650d0a436f6e74656e742d4c656e6774683a20300d0a0d0a, vI 34, vI 0, vI 503, .slice none 0 0, v0] 83
def We34 : Ent := ⟨27, [vP 1343 0], 1344, [(0, Wq0), (1343, Wq65)], vI 0, [(1343, some Wq66)], 1354, [1343], false⟩
-- COST 12116
theorem We34_k : chk smW [] We34 = true := by kernel_rfl
theorem We34_c : EO We34 := eo (l := []) smW_ok trivial We34_k
def We35 : Ent := ⟨11, [vB 55 0x485454502f312e3120353033205365727669636520556e617661696c61626c650d0a436f6e74656e742d4c656e6774683a20300d0a0d0a, .bool false], 1342, [(0, Wq0)], .tuple #[.agg #[vI 503, .slice none 0 0, v0], vI 55, vI 0], [], 1345, [], false⟩
-- COST 1061
theorem We35_k : chk smW [We34] We35 = true := by kernel_rfl
theorem We35_c : EO We35 := eo (l := [We34]) smW_ok ⟨We34_c, trivial⟩ We35_k
def Wq67 : AO := oR [vI 1, vI 2, vI 0, vI 1, vI 0, vI 0, vI 0, vI 0, vI 0, vI 0, .slice none 0 0, vI 0, .slice none 0 0, vI 0, .slice none 0 0, .slice none 0 0, vI 0, vI 0, vI 0, vI 0, vI 0, vI 4, vI 2, vI 3, vI 1, vI 0, vI 0, vI 0, vI 0, vI 0, vI 0, .slice none 0 0, vI 0, vU 1354 0 1, vI 0, .slice none 0 0, .slice none 0 0, vI 0, vI 0, vI 0, vI 0, vI 0] 55
def We36 : Ent := ⟨17, [vP 81 0, vI 31], 1342, [(77, Wq22), (80, Wq16), (81, Wq27), (149, Wq11), (176, Wq18), (298, Wq62), (299, Wq63)], vU 1362 0 2, [(80, some Wq16), (1354, some Wq18), (1362, some Wq67)], 1367, [80], true⟩
-- COST 991
theorem We36_k : chk smW [] We36 = true := by kernel_rfl
theorem We36_c : EO We36 := eo (l := []) smW_ok trivial We36_k
def Wq68 : AO := oR [vI 1, vI 2, vI 0, vI 1, vI 0, vI 0, vI 0, vI 0, vI 0, vI 0, .slice none 0 0, vI 0, .slice none 0 0, vI 0, .slice none 0 0, .slice none 0 0, vI 0, vI 0, vI 0, vI 0, vI 0, vI 4, vI 2, vI 3, vI 1, vI 0, vI 0, vI 0, vI 0, vI 0, vI 0, .slice none 0 0, vI 0, vU 1381 0 1, vI 0, .slice none 0 0, .slice none 0 0, vI 0, vI 0, vI 0, vI 0, vI 0] 55
def We37 : Ent := ⟨17, [vP 81 0, vI 32], 1369, [(77, Wq22), (80, Wq16), (81, Wq27), (149, Wq11), (176, Wq18), (298, Wq62), (299, Wq63)], vU 1389 0 2, [(80, some Wq16), (1381, some Wq18), (1389, some Wq68)], 1394, [80], true⟩
-- COST 991
theorem We37_k : chk smW [] We37 = true := by kernel_rfl
theorem We37_c : EO We37 := eo (l := []) smW_ok trivial We37_k
def Wq69 : AO := oR [vI 1, vI 2, vI 0, vI 1, vI 0, vI 0, vI 0, vI 0, vI 0, vI 0, .slice none 0 0, vI 0, .slice none 0 0, vI 0, .slice none 0 0, .slice none 0 0, vI 0, vI 0, vI 0, vI 0, vI 0, vI 4, vI 2, vI 3, vI 1, vI 0, vI 0, vI 0, vI 0, vI 0, vI 0, .slice none 0 0, vI 0, vU 1408 0 1, vI 0, .slice none 0 0, .slice none 0 0, vI 0, vI 0, vI 0, vI 0, vI 0] 55
def We38 : Ent := ⟨17, [vP 81 0, vI 33], 1396, [(77, Wq22), (80, Wq16), (81, Wq27), (149, Wq11), (176, Wq18), (298, Wq62), (299, Wq63)], vU 1416 0 2, [(80, some Wq16), (1408, some Wq18), (1416, some Wq69)], 1421, [80], true⟩
-- COST 991
theorem We38_k : chk smW [] We38 = true := by kernel_rfl
theorem We38_c : EO We38 := eo (l := []) smW_ok trivial We38_k
def Wq70 : AO := oR [vI 1, vI 2, vI 0, vI 1, vI 0, vI 0, vI 0, vI 0, vI 0, vI 0, .slice none 0 0, vI 0, .slice none 0 0, vI 0, .slice none 0 0, .slice none 0 0, vI 0, vI 0, vI 0, vI 0, vI 0, vI 4, vI 2, vI 3, vI 1, vI 0, vI 0, vI 0, vI 0, vI 0, vI 0, .slice none 0 0, vI 0, vU 1435 0 1, vI 0, .slice none 0 0, .slice none 0 0, vI 0, vI 0, vI 0, vI 0, vI 0] 55
def We39 : Ent := ⟨17, [vP 81 0, vI 34], 1423, [(77, Wq22), (80, Wq16), (81, Wq27), (149, Wq11), (176, Wq18), (298, Wq62), (299, Wq63)], vU 1443 0 2, [(80, some Wq16), (1435, some Wq18), (1443, some Wq70)], 1448, [80], true⟩
-- COST 991
theorem We39_k : chk smW [] We39 = true := by kernel_rfl
theorem We39_c : EO We39 := eo (l := []) smW_ok trivial We39_k
def Wq71 : AO := oR [vI 1, vI 2, vI 0, vI 1, vI 0, vI 0, vI 0, vI 0, vI 0, vI 0, .slice none 0 0, vI 0, .slice none 0 0, vI 0, .slice none 0 0, .slice none 0 0, vI 0, vI 0, vI 0, vI 0, vI 0, vI 4, vI 2, vI 3, vI 1, vI 0, vI 0, vI 0, vI 0, vI 0, vI 0, .slice none 0 0, vI 0, vU 1462 0 1, vI 0, .slice none 0 0, .slice none 0 0, vI 0, vI 0, vI 0, vI 0, vI 0] 55
def We40 : Ent := ⟨17, [vP 81 0, vI 35], 1450, [(77, Wq22), (80, Wq16), (81, Wq27), (149, Wq11), (176, Wq18), (298, Wq62), (299, Wq63)], vU 1470 0 2, [(80, some Wq16), (1462, some Wq18), (1470, some Wq71)], 1475, [80], true⟩
-- COST 991
theorem We40_k : chk smW [] We40 = true := by kernel_rfl
theorem We40_c : EO We40 := eo (l := []) smW_ok trivial We40_k
def Wq72 : AO := oR [vI 1, vI 2, vI 0, vI 1, vI 0, vI 0, vI 0, vI 0, vI 0, vI 0, .slice none 0 0, vI 0, .slice none 0 0, vI 0, .slice none 0 0, .slice none 0 0, vI 0, vI 0, vI 0, vI 0, vI 0, vI 4, vI 2, vI 3, vI 1, vI 0, vI 0, vI 0, vI 0, vI 0, vI 0, .slice none 0 0, vI 0, vU 1489 0 1, vI 0, .slice none 0 0, .slice none 0 0, vI 0, vI 0, vI 0, vI 0, vI 0] 55
def We41 : Ent := ⟨17, [vP 81 0, vI 36], 1477, [(77, Wq22), (80, Wq16), (81, Wq27), (149, Wq11), (176, Wq18), (298, Wq62), (299, Wq63)], vU 1497 0 2, [(80, some Wq16), (1489, some Wq18), (1497, some Wq72)], 1502, [80], true⟩
-- COST 991
theorem We41_k : chk smW [] We41 = true := by kernel_rfl
theorem We41_c : EO We41 := eo (l := []) smW_ok trivial We41_k
def Wq73 : AO := oR [vI 1, vI 2, vI 0, vI 1, vI 0, vI 0, vI 0, vI 0, vI 0, vI 0, .slice none 0 0, vI 0, .slice none 0 0, vI 0, .slice none 0 0, .slice none 0 0, vI 0, vI 0, vI 0, vI 0, vI 0, vI 4, vI 2, vI 3, vI 1, vI 0, vI 0, vI 0, vI 0, vI 0, vI 0, .slice none 0 0, vI 0, vU 1516 0 1, vI 0, .slice none 0 0, .slice none 0 0, vI 0, vI 0, vI 0, vI 0, vI 0] 55
def We42 : Ent := ⟨17, [vP 81 0, vI 37], 1504, [(77, Wq22), (80, Wq16), (81, Wq27), (149, Wq11), (176, Wq18), (298, Wq62), (299, Wq63)], vU 1524 0 2, [(80, some Wq16), (1516, some Wq18), (1524, some Wq73)], 1529, [80], true⟩
-- COST 991
theorem We42_k : chk smW [] We42 = true := by kernel_rfl
theorem We42_c : EO We42 := eo (l := []) smW_ok trivial We42_k
def Wq74 : AO := oR [vI 1, vI 2, vI 0, vI 1, vI 0, vI 0, vI 0, vI 0, vI 0, vI 0, .slice none 0 0, vI 0, .slice none 0 0, vI 0, .slice none 0 0, .slice none 0 0, vI 0, vI 0, vI 0, vI 0, vI 0, vI 4, vI 2, vI 3, vI 1, vI 0, vI 0, vI 0, vI 0, vI 0, vI 0, .slice none 0 0, vI 0, vU 1543 0 1, vI 0, .slice none 0 0, .slice none 0 0, vI 0, vI 0, vI 0, vI 0, vI 0] 55
def We43 : Ent := ⟨17, [vP 81 0, vI 38], 1531, [(77, Wq22), (80, Wq16), (81, Wq27), (149, Wq11), (176, Wq18), (298, Wq62), (299, Wq63)], vU 1551 0 2, [(80, some Wq16), (1543, some Wq18), (1551, some Wq74)], 1556, [80], true⟩
-- COST 991
theorem We43_k : chk smW [] We43 = true := by kernel_rfl
theorem We43_c : EO We43 := eo (l := []) smW_ok trivial We43_k
def Wq75 : AO := oR [vI 1, vI 2, vI 0, vI 1, vI 0, vI 0, vI 0, vI 0, vI 0, vI 0, .slice none 0 0, vI 0, .slice none 0 0, vI 0, .slice none 0 0, .slice none 0 0, vI 0, vI 0, vI 0, vI 0, vI 0, vI 4, vI 2, vI 3, vI 1, vI 0, vI 0, vI 0, vI 0, vI 0, vI 0, .slice none 0 0, vI 0, vU 1570 0 1, vI 0, .slice none 0 0, .slice none 0 0, vI 0, vI 0, vI 0, vI 0, vI 0] 55
def We44 : Ent := ⟨17, [vP 81 0, vI 39], 1558, [(77, Wq22), (80, Wq16), (81, Wq27), (149, Wq11), (176, Wq18), (298, Wq62), (299, Wq63)], vU 1578 0 2, [(80, some Wq16), (1570, some Wq18), (1578, some Wq75)], 1583, [80], true⟩
-- COST 991
theorem We44_k : chk smW [] We44 = true := by kernel_rfl
theorem We44_c : EO We44 := eo (l := []) smW_ok trivial We44_k
def Wq76 : AO := oR [vI 1, vI 2, vI 0, vI 1, vI 0, vI 0, vI 0, vI 0, vI 0, vI 0, .slice none 0 0, vI 0, .slice none 0 0, vI 0, .slice none 0 0, .slice none 0 0, vI 0, vI 0, vI 0, vI 0, vI 0, vI 4, vI 2, vI 3, vI 1, vI 0, vI 0, vI 0, vI 0, vI 0, vI 0, .slice none 0 0, vI 0, vU 1597 0 1, vI 0, .slice none 0 0, .slice none 0 0, vI 0, vI 0, vI 0, vI 0, vI 0] 55
def We45 : Ent := ⟨17, [vP 81 0, vI 40], 1585, [(77, Wq22), (80, Wq16), (81, Wq27), (149, Wq11), (176, Wq18), (298, Wq62), (299, Wq63)], vU 1605 0 2, [(80, some Wq16), (1597, some Wq18), (1605, some Wq76)], 1610, [80], true⟩
-- COST 991
theorem We45_k : chk smW [] We45 = true := by kernel_rfl
theorem We45_c : EO We45 := eo (l := []) smW_ok trivial We45_k
def Wq77 : AO := oR [vI 1, vI 2, vI 0, vI 1, vI 0, vI 0, vI 0, vI 0, vI 0, vI 0, .slice none 0 0, vI 0, .slice none 0 0, vI 0, .slice none 0 0, .slice none 0 0, vI 0, vI 0, vI 0, vI 0, vI 0, vI 4, vI 2, vI 3, vI 1, vI 0, vI 0, vI 0, vI 0, vI 0, vI 0, .slice none 0 0, vI 0, vU 1624 0 1, vI 0, .slice none 0 0, .slice none 0 0, vI 0, vI 0, vI 0, vI 0, vI 0] 55
def We46 : Ent := ⟨17, [vP 81 0, vI 41], 1612, [(77, Wq22), (80, Wq16), (81, Wq27), (149, Wq11), (176, Wq18), (298, Wq62), (299, Wq63)], vU 1632 0 2, [(80, some Wq16), (1624, some Wq18), (1632, some Wq77)], 1637, [80], true⟩
-- COST 991
theorem We46_k : chk smW [] We46 = true := by kernel_rfl
theorem We46_c : EO We46 := eo (l := []) smW_ok trivial We46_k
def Wq78 : AO := oR [vI 1, vI 2, vI 0, vI 1, vI 0, vI 0, vI 0, vI 0, vI 0, vI 0, .slice none 0 0, vI 0, .slice none 0 0, vI 0, .slice none 0 0, .slice none 0 0, vI 0, vI 0, vI 0, vI 0, vI 0, vI 4, vI 2, vI 3, vI 1, vI 0, vI 0, vI 0, vI 0, vI 0, vI 0, .slice none 0 0, vI 0, vU 1651 0 1, vI 0, .slice none 0 0, .slice none 0 0, vI 0, vI 0, vI 0, vI 0, vI 0] 55
def We47 : Ent := ⟨17, [vP 81 0, vI 42], 1639, [(77, Wq22), (80, Wq16), (81, Wq27), (149, Wq11), (176, Wq18), (298, Wq62), (299, Wq63)], vU 1659 0 2, [(80, some Wq16), (1651, some Wq18), (1659, some Wq78)], 1664, [80], true⟩
-- COST 991
theorem We47_k : chk smW [] We47 = true := by kernel_rfl
theorem We47_c : EO We47 := eo (l := []) smW_ok trivial We47_k
def Wq79 : AO := oR [vI 1, vI 2, vI 0, vI 1, vI 0, vI 0, vI 0, vI 0, vI 0, vI 0, .slice none 0 0, vI 0, .slice none 0 0, vI 0, .slice none 0 0, .slice none 0 0, vI 0, vI 0, vI 0, vI 0, vI 0, vI 4, vI 2, vI 3, vI 1, vI 0, vI 0, vI 0, vI 0, vI 0, vI 0, .slice none 0 0, vI 0, vU 1678 0 1, vI 0, .slice none 0 0, .slice none 0 0, vI 0, vI 0, vI 0, vI 0, vI 0] 55
def We48 : Ent := ⟨17, [vP 81 0, vI 43], 1666, [(77, Wq22), (80, Wq16), (81, Wq27), (149, Wq11), (176, Wq18), (298, Wq62), (299, Wq63)], vU 1686 0 2, [(80, some Wq16), (1678, some Wq18), (1686, some Wq79)], 1691, [80], true⟩
-- COST 991
theorem We48_k : chk smW [] We48 = true := by kernel_rfl
theorem We48_c : EO We48 := eo (l := []) smW_ok trivial We48_k
def Wq80 : AO := oR [vI 1, vI 2, vI 0, vI 1, vI 0, vI 0, vI 0, vI 0, vI 0, vI 0, .slice none 0 0, vI 0, .slice none 0 0, vI 0, .slice none 0 0, .slice none 0 0, vI 0, vI 0, vI 0, vI 0, vI 0, vI 4, vI 2, vI 3, vI 1, vI 0, vI 0, vI 0, vI 0, vI 0, vI 0, .slice none 0 0, vI 0, vU 1705 0 1, vI 0, .slice none 0 0, .slice none 0 0, vI 0, vI 0, vI 0, vI 0, vI 0] 55
def We49 : Ent := ⟨17, [vP 81 0, vI 44], 1693, [(77, Wq22), (80, Wq16), (81, Wq27), (149, Wq11), (176, Wq18), (298, Wq62), (299, Wq63)], vU 1713 0 2, [(80, some Wq16), (1705, some Wq18), (1713, some Wq80)], 1718, [80], true⟩
-- COST 991
theorem We49_k : chk smW [] We49 = true := by kernel_rfl
theorem We49_c : EO We49 := eo (l := []) smW_ok trivial We49_k
def Wq81 : AO := oR [vI 1, vI 2, vI 0, vI 1, vI 0, vI 0, vI 0, vI 0, vI 0, vI 0, .slice none 0 0, vI 0, .slice none 0 0, vI 0, .slice none 0 0, .slice none 0 0, vI 0, vI 0, vI 0, vI 0, vI 0, vI 4, vI 2, vI 3, vI 1, vI 0, vI 0, vI 0, vI 0, vI 0, vI 0, .slice none 0 0, vI 0, vU 1732 0 1, vI 0, .slice none 0 0, .slice none 0 0, vI 0, vI 0, vI 0, vI 0, vI 0] 55
def We50 : Ent := ⟨17, [vP 81 0, vI 45], 1720, [(77, Wq22), (80, Wq16), (81, Wq27), (149, Wq11), (176, Wq18), (298, Wq62), (299, Wq63)], vU 1740 0 2, [(80, some Wq16), (1732, some Wq18), (1740, some Wq81)], 1745, [80], true⟩
-- COST 991
theorem We50_k : chk smW [] We50 = true := by kernel_rfl
theorem We50_c : EO We50 := eo (l := []) smW_ok trivial We50_k
def Wq82 : AO := oR [vI 1, vI 2, vI 0, vI 1, vI 0, vI 0, vI 0, vI 0, vI 0, vI 0, .slice none 0 0, vI 0, .slice none 0 0, vI 0, .slice none 0 0, .slice none 0 0, vI 0, vI 0, vI 0, vI 0, vI 0, vI 4, vI 2, vI 3, vI 1, vI 0, vI 0, vI 0, vI 0, vI 0, vI 0, .slice none 0 0, vI 0, vU 1759 0 1, vI 0, .slice none 0 0, .slice none 0 0, vI 0, vI 0, vI 0, vI 0, vI 0] 55
def We51 : Ent := ⟨17, [vP 81 0, vI 46], 1747, [(77, Wq22), (80, Wq16), (81, Wq27), (149, Wq11), (176, Wq18), (298, Wq62), (299, Wq63)], vU 1767 0 2, [(80, some Wq16), (1759, some Wq18), (1767, some Wq82)], 1772, [80], true⟩
-- COST 991
theorem We51_k : chk smW [] We51 = true := by kernel_rfl
theorem We51_c : EO We51 := eo (l := []) smW_ok trivial We51_k
def Wq83 : AO := oR [vI 1, vI 2, vI 0, vI 1, vI 0, vI 0, vI 0, vI 0, vI 0, vI 0, .slice none 0 0, vI 0, .slice none 0 0, vI 0, .slice none 0 0, .slice none 0 0, vI 0, vI 0, vI 0, vI 0, vI 0, vI 4, vI 2, vI 3, vI 1, vI 0, vI 0, vI 0, vI 0, vI 0, vI 0, .slice none 0 0, vI 0, vU 1786 0 1, vI 0, .slice none 0 0, .slice none 0 0, vI 0, vI 0, vI 0, vI 0, vI 0] 55
def We52 : Ent := ⟨17, [vP 81 0, vI 47], 1774, [(77, Wq22), (80, Wq16), (81, Wq27), (149, Wq11), (176, Wq18), (298, Wq62), (299, Wq63)], vU 1794 0 2, [(80, some Wq16), (1786, some Wq18), (1794, some Wq83)], 1799, [80], true⟩
-- COST 991
theorem We52_k : chk smW [] We52 = true := by kernel_rfl
theorem We52_c : EO We52 := eo (l := []) smW_ok trivial We52_k
def Wq84 : AO := oR [vI 1, vI 2, vI 0, vI 1, vI 0, vI 0, vI 0, vI 0, vI 0, vI 0, .slice none 0 0, vI 0, .slice none 0 0, vI 0, .slice none 0 0, .slice none 0 0, vI 0, vI 0, vI 0, vI 0, vI 0, vI 4, vI 2, vI 3, vI 1, vI 0, vI 0, vI 0, vI 0, vI 0, vI 0, .slice none 0 0, vI 0, vU 1813 0 1, vI 0, .slice none 0 0, .slice none 0 0, vI 0, vI 0, vI 0, vI 0, vI 0] 55
def We53 : Ent := ⟨17, [vP 81 0, vI 48], 1801, [(77, Wq22), (80, Wq16), (81, Wq27), (149, Wq11), (176, Wq18), (298, Wq62), (299, Wq63)], vU 1821 0 2, [(80, some Wq16), (1813, some Wq18), (1821, some Wq84)], 1826, [80], true⟩
-- COST 991
theorem We53_k : chk smW [] We53 = true := by kernel_rfl
theorem We53_c : EO We53 := eo (l := []) smW_ok trivial We53_k
def Wq85 : AO := oR [vI 1, vI 2, vI 0, vI 1, vI 0, vI 0, vI 0, vI 0, vI 0, vI 0, .slice none 0 0, vI 0, .slice none 0 0, vI 0, .slice none 0 0, .slice none 0 0, vI 0, vI 0, vI 0, vI 0, vI 0, vI 4, vI 2, vI 3, vI 1, vI 0, vI 0, vI 0, vI 0, vI 0, vI 0, .slice none 0 0, vI 0, vU 1840 0 1, vI 0, .slice none 0 0, .slice none 0 0, vI 0, vI 0, vI 0, vI 0, vI 0] 55
def We54 : Ent := ⟨17, [vP 81 0, vI 49], 1828, [(77, Wq22), (80, Wq16), (81, Wq27), (149, Wq11), (176, Wq18), (298, Wq62), (299, Wq63)], vU 1848 0 2, [(80, some Wq16), (1840, some Wq18), (1848, some Wq85)], 1853, [80], true⟩
-- COST 991
theorem We54_k : chk smW [] We54 = true := by kernel_rfl
theorem We54_c : EO We54 := eo (l := []) smW_ok trivial We54_k
def Wq86 : AO := oR [vI 1, vI 2, vI 0, vI 1, vI 0, vI 0, vI 0, vI 0, vI 0, vI 0, .slice none 0 0, vI 0, .slice none 0 0, vI 0, .slice none 0 0, .slice none 0 0, vI 0, vI 0, vI 0, vI 0, vI 0, vI 4, vI 2, vI 3, vI 1, vI 0, vI 0, vI 0, vI 0, vI 0, vI 0, .slice none 0 0, vI 0, vU 1867 0 1, vI 0, .slice none 0 0, .slice none 0 0, vI 0, vI 0, vI 0, vI 0, vI 0] 55
def We55 : Ent := ⟨17, [vP 81 0, vI 50], 1855, [(77, Wq22), (80, Wq16), (81, Wq27), (149, Wq11), (176, Wq18), (298, Wq62), (299, Wq63)], vU 1875 0 2, [(80, some Wq16), (1867, some Wq18), (1875, some Wq86)], 1880, [80], true⟩
-- COST 991
theorem We55_k : chk smW [] We55 = true := by kernel_rfl
theorem We55_c : EO We55 := eo (l := []) smW_ok trivial We55_k
def Wq87 : AO := oR [vP 297 0, .slice (some ⟨319, 5, some 0⟩) 0 9223372036854775808, vI 2, vB 1 0x6b, vI 0, v0, vI 0, v0, v0, v0, vI 0, .bool false, .bool true, v0, .bool false] 109
def Wq88 : AO := oR [vP 298 0, vI 8589934593, vI 1, vB 1 0x6b, v0, vI 0, vI 0, v0, vI 8589934593, vI 8589934593, .bool true, vI 0] 79
def Wq89 : AO := oR [vB 3 0x505554, vB 4 0x2f6f2f6b, v0, .slice none 0 0, v0] 148
def Wq90 : AO := oR [vI 1, vB 1 0x6b, v0, vI 0, vI 0, v0, vI 8589934593, vI 8589934593] 57
def Wq91 : AO := oR [vI 3, vI 2, vI 1, vI 1, vI 0, vI 0, vI 0, vI 0, vI 0, vI 0, .slice none 0 0, vI 0, vS 349 0 1 1, vI 0, .slice none 0 0, .slice none 0 0, vI 0, vI 0, vI 0, vI 0, vI 0] 55
def We56 : Ent := ⟨10, [vP 81 0, vI 0, vB 21 0x505554202f6f2f6b20485454502f312e310d0a0d0a, vI 0], 297, [(1, Wq1), (10, Wq19), (11, Wq20), (80, Wq16), (81, Wq10), (149, Wq11)], vU 353 0 1, [(10, some Wq25), (11, some Wq26), (80, some Wq16), (81, some Wq27), (297, some Wq28), (298, some Wq87), (299, some Wq88), (319, some Wq89), (349, some Wq90), (353, some Wq91)], 354, [10, 11, 80, 81], true⟩
-- COST 4833
theorem We56_k : chk smW [] We56 = true := by kernel_rfl
theorem We56_c : EO We56 := eo (l := []) smW_ok trivial We56_k
end
end Go.Proofs.YtdegbhgoldglaaaGreatDoor
