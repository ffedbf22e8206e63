/-
  armariumlaw21.NodeWaits: a closed run, cut into calls that are run by themselves. No condition.
-/
import Derived.Test.YtdegbhgoldglaaaGreatDoorEW1
namespace Go.Proofs.YtdegbhgoldglaaaGreatDoor
noncomputable section
open Go Go.Eng
set_option maxRecDepth 1000000
def Wq92 : AO := oR [vI 1, vI 2, vI 0, vI 1, vI 0, vI 0, vI 0, vI 0, vI 0, vI 0, .slice none 0 0, vI 0, .slice none 0 0, vI 0, .slice none 0 0, .slice none 0 0, vI 0, vI 0, vI 0, vI 0, vI 0, vI 4, vI 2, vI 3, vI 1, vI 0, vI 0, vI 0, vI 0, vI 0, vI 0, .slice none 0 0, vI 0, vU 366 0 1, vI 0, .slice none 0 0, .slice none 0 0, vI 0, vI 0, vI 0, vI 0, vI 0, vI 3, vI 2, vI 1, vI 1, vI 0, vI 0, vI 0, vI 0, vI 0, vI 0, .slice none 0 0, vI 0, vS 381 0 1 1, vI 0, .slice none 0 0, .slice none 0 0, vI 0, vI 0, vI 0, vI 0, vI 0] 55
def We57 : Ent := ⟨17, [vP 81 0, vI 1], 354, [(77, Wq22), (80, Wq16), (81, Wq27), (149, Wq11), (176, Wq18), (299, Wq88)], vU 384 0 3, [(80, some Wq16), (366, some Wq18), (381, some Wq90), (384, some Wq92)], 385, [80], true⟩
-- COST 1207
theorem We57_k : chk smW [] We57 = true := by kernel_rfl
theorem We57_c : EO We57 := eo (l := []) smW_ok trivial We57_k
def Wq93 : AO := oR [vI 1, vI 2, vI 0, vI 1, vI 0, vI 0, vI 0, vI 0, vI 0, vI 0, .slice none 0 0, vI 0, .slice none 0 0, vI 0, .slice none 0 0, .slice none 0 0, vI 0, vI 0, vI 0, vI 0, vI 0, vI 4, vI 2, vI 3, vI 1, vI 0, vI 0, vI 0, vI 0, vI 0, vI 0, .slice none 0 0, vI 0, vU 400 0 1, vI 0, .slice none 0 0, .slice none 0 0, vI 0, vI 0, vI 0, vI 0, vI 0, vI 3, vI 2, vI 1, vI 1, vI 0, vI 0, vI 0, vI 0, vI 0, vI 0, .slice none 0 0, vI 0, vS 415 0 1 1, vI 0, .slice none 0 0, .slice none 0 0, vI 0, vI 0, vI 0, vI 0, vI 0] 55
def We58 : Ent := ⟨17, [vP 81 0, vI 2], 388, [(77, Wq22), (80, Wq16), (81, Wq27), (149, Wq11), (176, Wq18), (299, Wq88)], vU 418 0 3, [(80, some Wq16), (400, some Wq18), (415, some Wq90), (418, some Wq93)], 419, [80], true⟩
-- COST 1207
theorem We58_k : chk smW [] We58 = true := by kernel_rfl
theorem We58_c : EO We58 := eo (l := []) smW_ok trivial We58_k
def Wq94 : AO := oR [vI 1, vI 2, vI 0, vI 1, vI 0, vI 0, vI 0, vI 0, vI 0, vI 0, .slice none 0 0, vI 0, .slice none 0 0, vI 0, .slice none 0 0, .slice none 0 0, vI 0, vI 0, vI 0, vI 0, vI 0, vI 4, vI 2, vI 3, vI 1, vI 0, vI 0, vI 0, vI 0, vI 0, vI 0, .slice none 0 0, vI 0, vU 434 0 1, vI 0, .slice none 0 0, .slice none 0 0, vI 0, vI 0, vI 0, vI 0, vI 0, vI 3, vI 2, vI 1, vI 1, vI 0, vI 0, vI 0, vI 0, vI 0, vI 0, .slice none 0 0, vI 0, vS 449 0 1 1, vI 0, .slice none 0 0, .slice none 0 0, vI 0, vI 0, vI 0, vI 0, vI 0] 55
def We59 : Ent := ⟨17, [vP 81 0, vI 3], 422, [(77, Wq22), (80, Wq16), (81, Wq27), (149, Wq11), (176, Wq18), (299, Wq88)], vU 452 0 3, [(80, some Wq16), (434, some Wq18), (449, some Wq90), (452, some Wq94)], 453, [80], true⟩
-- COST 1207
theorem We59_k : chk smW [] We59 = true := by kernel_rfl
theorem We59_c : EO We59 := eo (l := []) smW_ok trivial We59_k
def Wq95 : AO := oR [vI 1, vI 2, vI 0, vI 1, vI 0, vI 0, vI 0, vI 0, vI 0, vI 0, .slice none 0 0, vI 0, .slice none 0 0, vI 0, .slice none 0 0, .slice none 0 0, vI 0, vI 0, vI 0, vI 0, vI 0, vI 4, vI 2, vI 3, vI 1, vI 0, vI 0, vI 0, vI 0, vI 0, vI 0, .slice none 0 0, vI 0, vU 468 0 1, vI 0, .slice none 0 0, .slice none 0 0, vI 0, vI 0, vI 0, vI 0, vI 0, vI 3, vI 2, vI 1, vI 1, vI 0, vI 0, vI 0, vI 0, vI 0, vI 0, .slice none 0 0, vI 0, vS 483 0 1 1, vI 0, .slice none 0 0, .slice none 0 0, vI 0, vI 0, vI 0, vI 0, vI 0] 55
def We60 : Ent := ⟨17, [vP 81 0, vI 4], 456, [(77, Wq22), (80, Wq16), (81, Wq27), (149, Wq11), (176, Wq18), (299, Wq88)], vU 486 0 3, [(80, some Wq16), (468, some Wq18), (483, some Wq90), (486, some Wq95)], 487, [80], true⟩
-- COST 1207
theorem We60_k : chk smW [] We60 = true := by kernel_rfl
theorem We60_c : EO We60 := eo (l := []) smW_ok trivial We60_k
def Wq96 : AO := oR [vI 1, vI 2, vI 0, vI 1, vI 0, vI 0, vI 0, vI 0, vI 0, vI 0, .slice none 0 0, vI 0, .slice none 0 0, vI 0, .slice none 0 0, .slice none 0 0, vI 0, vI 0, vI 0, vI 0, vI 0, vI 4, vI 2, vI 3, vI 1, vI 0, vI 0, vI 0, vI 0, vI 0, vI 0, .slice none 0 0, vI 0, vU 502 0 1, vI 0, .slice none 0 0, .slice none 0 0, vI 0, vI 0, vI 0, vI 0, vI 0, vI 3, vI 2, vI 1, vI 1, vI 0, vI 0, vI 0, vI 0, vI 0, vI 0, .slice none 0 0, vI 0, vS 517 0 1 1, vI 0, .slice none 0 0, .slice none 0 0, vI 0, vI 0, vI 0, vI 0, vI 0] 55
def We61 : Ent := ⟨17, [vP 81 0, vI 5], 490, [(77, Wq22), (80, Wq16), (81, Wq27), (149, Wq11), (176, Wq18), (299, Wq88)], vU 520 0 3, [(80, some Wq16), (502, some Wq18), (517, some Wq90), (520, some Wq96)], 521, [80], true⟩
-- COST 1207
theorem We61_k : chk smW [] We61 = true := by kernel_rfl
theorem We61_c : EO We61 := eo (l := []) smW_ok trivial We61_k
def Wq97 : AO := oR [vI 1, vI 2, vI 0, vI 1, vI 0, vI 0, vI 0, vI 0, vI 0, vI 0, .slice none 0 0, vI 0, .slice none 0 0, vI 0, .slice none 0 0, .slice none 0 0, vI 0, vI 0, vI 0, vI 0, vI 0, vI 4, vI 2, vI 3, vI 1, vI 0, vI 0, vI 0, vI 0, vI 0, vI 0, .slice none 0 0, vI 0, vU 536 0 1, vI 0, .slice none 0 0, .slice none 0 0, vI 0, vI 0, vI 0, vI 0, vI 0, vI 3, vI 2, vI 1, vI 1, vI 0, vI 0, vI 0, vI 0, vI 0, vI 0, .slice none 0 0, vI 0, vS 551 0 1 1, vI 0, .slice none 0 0, .slice none 0 0, vI 0, vI 0, vI 0, vI 0, vI 0] 55
def We62 : Ent := ⟨17, [vP 81 0, vI 6], 524, [(77, Wq22), (80, Wq16), (81, Wq27), (149, Wq11), (176, Wq18), (299, Wq88)], vU 554 0 3, [(80, some Wq16), (536, some Wq18), (551, some Wq90), (554, some Wq97)], 555, [80], true⟩
-- COST 1207
theorem We62_k : chk smW [] We62 = true := by kernel_rfl
theorem We62_c : EO We62 := eo (l := []) smW_ok trivial We62_k
def Wq98 : AO := oR [vI 1, vI 2, vI 0, vI 1, vI 0, vI 0, vI 0, vI 0, vI 0, vI 0, .slice none 0 0, vI 0, .slice none 0 0, vI 0, .slice none 0 0, .slice none 0 0, vI 0, vI 0, vI 0, vI 0, vI 0, vI 4, vI 2, vI 3, vI 1, vI 0, vI 0, vI 0, vI 0, vI 0, vI 0, .slice none 0 0, vI 0, vU 570 0 1, vI 0, .slice none 0 0, .slice none 0 0, vI 0, vI 0, vI 0, vI 0, vI 0, vI 3, vI 2, vI 1, vI 1, vI 0, vI 0, vI 0, vI 0, vI 0, vI 0, .slice none 0 0, vI 0, vS 585 0 1 1, vI 0, .slice none 0 0, .slice none 0 0, vI 0, vI 0, vI 0, vI 0, vI 0] 55
def We63 : Ent := ⟨17, [vP 81 0, vI 7], 558, [(77, Wq22), (80, Wq16), (81, Wq27), (149, Wq11), (176, Wq18), (299, Wq88)], vU 588 0 3, [(80, some Wq16), (570, some Wq18), (585, some Wq90), (588, some Wq98)], 589, [80], true⟩
-- COST 1207
theorem We63_k : chk smW [] We63 = true := by kernel_rfl
theorem We63_c : EO We63 := eo (l := []) smW_ok trivial We63_k
def Wq99 : AO := oR [vI 1, vI 2, vI 0, vI 1, vI 0, vI 0, vI 0, vI 0, vI 0, vI 0, .slice none 0 0, vI 0, .slice none 0 0, vI 0, .slice none 0 0, .slice none 0 0, vI 0, vI 0, vI 0, vI 0, vI 0, vI 4, vI 2, vI 3, vI 1, vI 0, vI 0, vI 0, vI 0, vI 0, vI 0, .slice none 0 0, vI 0, vU 604 0 1, vI 0, .slice none 0 0, .slice none 0 0, vI 0, vI 0, vI 0, vI 0, vI 0, vI 3, vI 2, vI 1, vI 1, vI 0, vI 0, vI 0, vI 0, vI 0, vI 0, .slice none 0 0, vI 0, vS 619 0 1 1, vI 0, .slice none 0 0, .slice none 0 0, vI 0, vI 0, vI 0, vI 0, vI 0] 55
def We64 : Ent := ⟨17, [vP 81 0, vI 8], 592, [(77, Wq22), (80, Wq16), (81, Wq27), (149, Wq11), (176, Wq18), (299, Wq88)], vU 622 0 3, [(80, some Wq16), (604, some Wq18), (619, some Wq90), (622, some Wq99)], 623, [80], true⟩
-- COST 1207
theorem We64_k : chk smW [] We64 = true := by kernel_rfl
theorem We64_c : EO We64 := eo (l := []) smW_ok trivial We64_k
def Wq100 : AO := oR [vI 1, vI 2, vI 0, vI 1, vI 0, vI 0, vI 0, vI 0, vI 0, vI 0, .slice none 0 0, vI 0, .slice none 0 0, vI 0, .slice none 0 0, .slice none 0 0, vI 0, vI 0, vI 0, vI 0, vI 0, vI 4, vI 2, vI 3, vI 1, vI 0, vI 0, vI 0, vI 0, vI 0, vI 0, .slice none 0 0, vI 0, vU 638 0 1, vI 0, .slice none 0 0, .slice none 0 0, vI 0, vI 0, vI 0, vI 0, vI 0, vI 3, vI 2, vI 1, vI 1, vI 0, vI 0, vI 0, vI 0, vI 0, vI 0, .slice none 0 0, vI 0, vS 653 0 1 1, vI 0, .slice none 0 0, .slice none 0 0, vI 0, vI 0, vI 0, vI 0, vI 0] 55
def We65 : Ent := ⟨17, [vP 81 0, vI 9], 626, [(77, Wq22), (80, Wq16), (81, Wq27), (149, Wq11), (176, Wq18), (299, Wq88)], vU 656 0 3, [(80, some Wq16), (638, some Wq18), (653, some Wq90), (656, some Wq100)], 657, [80], true⟩
-- COST 1207
theorem We65_k : chk smW [] We65 = true := by kernel_rfl
theorem We65_c : EO We65 := eo (l := []) smW_ok trivial We65_k
def Wq101 : AO := oR [vI 1, vI 2, vI 0, vI 1, vI 0, vI 0, vI 0, vI 0, vI 0, vI 0, .slice none 0 0, vI 0, .slice none 0 0, vI 0, .slice none 0 0, .slice none 0 0, vI 0, vI 0, vI 0, vI 0, vI 0, vI 4, vI 2, vI 3, vI 1, vI 0, vI 0, vI 0, vI 0, vI 0, vI 0, .slice none 0 0, vI 0, vU 672 0 1, vI 0, .slice none 0 0, .slice none 0 0, vI 0, vI 0, vI 0, vI 0, vI 0, vI 3, vI 2, vI 1, vI 1, vI 0, vI 0, vI 0, vI 0, vI 0, vI 0, .slice none 0 0, vI 0, vS 687 0 1 1, vI 0, .slice none 0 0, .slice none 0 0, vI 0, vI 0, vI 0, vI 0, vI 0] 55
def We66 : Ent := ⟨17, [vP 81 0, vI 10], 660, [(77, Wq22), (80, Wq16), (81, Wq27), (149, Wq11), (176, Wq18), (299, Wq88)], vU 690 0 3, [(80, some Wq16), (672, some Wq18), (687, some Wq90), (690, some Wq101)], 691, [80], true⟩
-- COST 1207
theorem We66_k : chk smW [] We66 = true := by kernel_rfl
theorem We66_c : EO We66 := eo (l := []) smW_ok trivial We66_k
def Wq102 : AO := oR [vI 1, vI 2, vI 0, vI 1, vI 0, vI 0, vI 0, vI 0, vI 0, vI 0, .slice none 0 0, vI 0, .slice none 0 0, vI 0, .slice none 0 0, .slice none 0 0, vI 0, vI 0, vI 0, vI 0, vI 0, vI 4, vI 2, vI 3, vI 1, vI 0, vI 0, vI 0, vI 0, vI 0, vI 0, .slice none 0 0, vI 0, vU 706 0 1, vI 0, .slice none 0 0, .slice none 0 0, vI 0, vI 0, vI 0, vI 0, vI 0, vI 3, vI 2, vI 1, vI 1, vI 0, vI 0, vI 0, vI 0, vI 0, vI 0, .slice none 0 0, vI 0, vS 721 0 1 1, vI 0, .slice none 0 0, .slice none 0 0, vI 0, vI 0, vI 0, vI 0, vI 0] 55
def We67 : Ent := ⟨17, [vP 81 0, vI 11], 694, [(77, Wq22), (80, Wq16), (81, Wq27), (149, Wq11), (176, Wq18), (299, Wq88)], vU 724 0 3, [(80, some Wq16), (706, some Wq18), (721, some Wq90), (724, some Wq102)], 725, [80], true⟩
-- COST 1207
theorem We67_k : chk smW [] We67 = true := by kernel_rfl
theorem We67_c : EO We67 := eo (l := []) smW_ok trivial We67_k
def Wq103 : AO := oR [vI 1, vI 2, vI 0, vI 1, vI 0, vI 0, vI 0, vI 0, vI 0, vI 0, .slice none 0 0, vI 0, .slice none 0 0, vI 0, .slice none 0 0, .slice none 0 0, vI 0, vI 0, vI 0, vI 0, vI 0, vI 4, vI 2, vI 3, vI 1, vI 0, vI 0, vI 0, vI 0, vI 0, vI 0, .slice none 0 0, vI 0, vU 740 0 1, vI 0, .slice none 0 0, .slice none 0 0, vI 0, vI 0, vI 0, vI 0, vI 0, vI 3, vI 2, vI 1, vI 1, vI 0, vI 0, vI 0, vI 0, vI 0, vI 0, .slice none 0 0, vI 0, vS 755 0 1 1, vI 0, .slice none 0 0, .slice none 0 0, vI 0, vI 0, vI 0, vI 0, vI 0] 55
def We68 : Ent := ⟨17, [vP 81 0, vI 12], 728, [(77, Wq22), (80, Wq16), (81, Wq27), (149, Wq11), (176, Wq18), (299, Wq88)], vU 758 0 3, [(80, some Wq16), (740, some Wq18), (755, some Wq90), (758, some Wq103)], 759, [80], true⟩
-- COST 1207
theorem We68_k : chk smW [] We68 = true := by kernel_rfl
theorem We68_c : EO We68 := eo (l := []) smW_ok trivial We68_k
def Wq104 : AO := oR [vI 1, vI 2, vI 0, vI 1, vI 0, vI 0, vI 0, vI 0, vI 0, vI 0, .slice none 0 0, vI 0, .slice none 0 0, vI 0, .slice none 0 0, .slice none 0 0, vI 0, vI 0, vI 0, vI 0, vI 0, vI 4, vI 2, vI 3, vI 1, vI 0, vI 0, vI 0, vI 0, vI 0, vI 0, .slice none 0 0, vI 0, vU 774 0 1, vI 0, .slice none 0 0, .slice none 0 0, vI 0, vI 0, vI 0, vI 0, vI 0, vI 3, vI 2, vI 1, vI 1, vI 0, vI 0, vI 0, vI 0, vI 0, vI 0, .slice none 0 0, vI 0, vS 789 0 1 1, vI 0, .slice none 0 0, .slice none 0 0, vI 0, vI 0, vI 0, vI 0, vI 0] 55
def We69 : Ent := ⟨17, [vP 81 0, vI 13], 762, [(77, Wq22), (80, Wq16), (81, Wq27), (149, Wq11), (176, Wq18), (299, Wq88)], vU 792 0 3, [(80, some Wq16), (774, some Wq18), (789, some Wq90), (792, some Wq104)], 793, [80], true⟩
-- COST 1207
theorem We69_k : chk smW [] We69 = true := by kernel_rfl
theorem We69_c : EO We69 := eo (l := []) smW_ok trivial We69_k
def Wq105 : AO := oR [vI 1, vI 2, vI 0, vI 1, vI 0, vI 0, vI 0, vI 0, vI 0, vI 0, .slice none 0 0, vI 0, .slice none 0 0, vI 0, .slice none 0 0, .slice none 0 0, vI 0, vI 0, vI 0, vI 0, vI 0, vI 4, vI 2, vI 3, vI 1, vI 0, vI 0, vI 0, vI 0, vI 0, vI 0, .slice none 0 0, vI 0, vU 808 0 1, vI 0, .slice none 0 0, .slice none 0 0, vI 0, vI 0, vI 0, vI 0, vI 0, vI 3, vI 2, vI 1, vI 1, vI 0, vI 0, vI 0, vI 0, vI 0, vI 0, .slice none 0 0, vI 0, vS 823 0 1 1, vI 0, .slice none 0 0, .slice none 0 0, vI 0, vI 0, vI 0, vI 0, vI 0] 55
def We70 : Ent := ⟨17, [vP 81 0, vI 14], 796, [(77, Wq22), (80, Wq16), (81, Wq27), (149, Wq11), (176, Wq18), (299, Wq88)], vU 826 0 3, [(80, some Wq16), (808, some Wq18), (823, some Wq90), (826, some Wq105)], 827, [80], true⟩
-- COST 1207
theorem We70_k : chk smW [] We70 = true := by kernel_rfl
theorem We70_c : EO We70 := eo (l := []) smW_ok trivial We70_k
def Wq106 : AO := oR [vI 1, vI 2, vI 0, vI 1, vI 0, vI 0, vI 0, vI 0, vI 0, vI 0, .slice none 0 0, vI 0, .slice none 0 0, vI 0, .slice none 0 0, .slice none 0 0, vI 0, vI 0, vI 0, vI 0, vI 0, vI 4, vI 2, vI 3, vI 1, vI 0, vI 0, vI 0, vI 0, vI 0, vI 0, .slice none 0 0, vI 0, vU 842 0 1, vI 0, .slice none 0 0, .slice none 0 0, vI 0, vI 0, vI 0, vI 0, vI 0, vI 3, vI 2, vI 1, vI 1, vI 0, vI 0, vI 0, vI 0, vI 0, vI 0, .slice none 0 0, vI 0, vS 857 0 1 1, vI 0, .slice none 0 0, .slice none 0 0, vI 0, vI 0, vI 0, vI 0, vI 0] 55
def We71 : Ent := ⟨17, [vP 81 0, vI 15], 830, [(77, Wq22), (80, Wq16), (81, Wq27), (149, Wq11), (176, Wq18), (299, Wq88)], vU 860 0 3, [(80, some Wq16), (842, some Wq18), (857, some Wq90), (860, some Wq106)], 861, [80], true⟩
-- COST 1207
theorem We71_k : chk smW [] We71 = true := by kernel_rfl
theorem We71_c : EO We71 := eo (l := []) smW_ok trivial We71_k
def Wq107 : AO := oR [vI 1, vI 2, vI 0, vI 1, vI 0, vI 0, vI 0, vI 0, vI 0, vI 0, .slice none 0 0, vI 0, .slice none 0 0, vI 0, .slice none 0 0, .slice none 0 0, vI 0, vI 0, vI 0, vI 0, vI 0, vI 4, vI 2, vI 3, vI 1, vI 0, vI 0, vI 0, vI 0, vI 0, vI 0, .slice none 0 0, vI 0, vU 876 0 1, vI 0, .slice none 0 0, .slice none 0 0, vI 0, vI 0, vI 0, vI 0, vI 0, vI 3, vI 2, vI 1, vI 1, vI 0, vI 0, vI 0, vI 0, vI 0, vI 0, .slice none 0 0, vI 0, vS 891 0 1 1, vI 0, .slice none 0 0, .slice none 0 0, vI 0, vI 0, vI 0, vI 0, vI 0] 55
def We72 : Ent := ⟨17, [vP 81 0, vI 16], 864, [(77, Wq22), (80, Wq16), (81, Wq27), (149, Wq11), (176, Wq18), (299, Wq88)], vU 894 0 3, [(80, some Wq16), (876, some Wq18), (891, some Wq90), (894, some Wq107)], 895, [80], true⟩
-- COST 1207
theorem We72_k : chk smW [] We72 = true := by kernel_rfl
theorem We72_c : EO We72 := eo (l := []) smW_ok trivial We72_k
def Wq108 : AO := oR [vI 1, vI 2, vI 0, vI 1, vI 0, vI 0, vI 0, vI 0, vI 0, vI 0, .slice none 0 0, vI 0, .slice none 0 0, vI 0, .slice none 0 0, .slice none 0 0, vI 0, vI 0, vI 0, vI 0, vI 0, vI 4, vI 2, vI 3, vI 1, vI 0, vI 0, vI 0, vI 0, vI 0, vI 0, .slice none 0 0, vI 0, vU 910 0 1, vI 0, .slice none 0 0, .slice none 0 0, vI 0, vI 0, vI 0, vI 0, vI 0, vI 3, vI 2, vI 1, vI 1, vI 0, vI 0, vI 0, vI 0, vI 0, vI 0, .slice none 0 0, vI 0, vS 925 0 1 1, vI 0, .slice none 0 0, .slice none 0 0, vI 0, vI 0, vI 0, vI 0, vI 0] 55
def We73 : Ent := ⟨17, [vP 81 0, vI 17], 898, [(77, Wq22), (80, Wq16), (81, Wq27), (149, Wq11), (176, Wq18), (299, Wq88)], vU 928 0 3, [(80, some Wq16), (910, some Wq18), (925, some Wq90), (928, some Wq108)], 929, [80], true⟩
-- COST 1207
theorem We73_k : chk smW [] We73 = true := by kernel_rfl
theorem We73_c : EO We73 := eo (l := []) smW_ok trivial We73_k
def Wq109 : AO := oR [vI 1, vI 2, vI 0, vI 1, vI 0, vI 0, vI 0, vI 0, vI 0, vI 0, .slice none 0 0, vI 0, .slice none 0 0, vI 0, .slice none 0 0, .slice none 0 0, vI 0, vI 0, vI 0, vI 0, vI 0, vI 4, vI 2, vI 3, vI 1, vI 0, vI 0, vI 0, vI 0, vI 0, vI 0, .slice none 0 0, vI 0, vU 944 0 1, vI 0, .slice none 0 0, .slice none 0 0, vI 0, vI 0, vI 0, vI 0, vI 0, vI 3, vI 2, vI 1, vI 1, vI 0, vI 0, vI 0, vI 0, vI 0, vI 0, .slice none 0 0, vI 0, vS 959 0 1 1, vI 0, .slice none 0 0, .slice none 0 0, vI 0, vI 0, vI 0, vI 0, vI 0] 55
def We74 : Ent := ⟨17, [vP 81 0, vI 18], 932, [(77, Wq22), (80, Wq16), (81, Wq27), (149, Wq11), (176, Wq18), (299, Wq88)], vU 962 0 3, [(80, some Wq16), (944, some Wq18), (959, some Wq90), (962, some Wq109)], 963, [80], true⟩
-- COST 1207
theorem We74_k : chk smW [] We74 = true := by kernel_rfl
theorem We74_c : EO We74 := eo (l := []) smW_ok trivial We74_k
def Wq110 : AO := oR [vI 1, vI 2, vI 0, vI 1, vI 0, vI 0, vI 0, vI 0, vI 0, vI 0, .slice none 0 0, vI 0, .slice none 0 0, vI 0, .slice none 0 0, .slice none 0 0, vI 0, vI 0, vI 0, vI 0, vI 0, vI 4, vI 2, vI 3, vI 1, vI 0, vI 0, vI 0, vI 0, vI 0, vI 0, .slice none 0 0, vI 0, vU 978 0 1, vI 0, .slice none 0 0, .slice none 0 0, vI 0, vI 0, vI 0, vI 0, vI 0, vI 3, vI 2, vI 1, vI 1, vI 0, vI 0, vI 0, vI 0, vI 0, vI 0, .slice none 0 0, vI 0, vS 993 0 1 1, vI 0, .slice none 0 0, .slice none 0 0, vI 0, vI 0, vI 0, vI 0, vI 0] 55
def We75 : Ent := ⟨17, [vP 81 0, vI 19], 966, [(77, Wq22), (80, Wq16), (81, Wq27), (149, Wq11), (176, Wq18), (299, Wq88)], vU 996 0 3, [(80, some Wq16), (978, some Wq18), (993, some Wq90), (996, some Wq110)], 997, [80], true⟩
-- COST 1207
theorem We75_k : chk smW [] We75 = true := by kernel_rfl
theorem We75_c : EO We75 := eo (l := []) smW_ok trivial We75_k
def Wq111 : AO := oR [vI 1, vI 2, vI 0, vI 1, vI 0, vI 0, vI 0, vI 0, vI 0, vI 0, .slice none 0 0, vI 0, .slice none 0 0, vI 0, .slice none 0 0, .slice none 0 0, vI 0, vI 0, vI 0, vI 0, vI 0, vI 4, vI 2, vI 3, vI 1, vI 0, vI 0, vI 0, vI 0, vI 0, vI 0, .slice none 0 0, vI 0, vU 1012 0 1, vI 0, .slice none 0 0, .slice none 0 0, vI 0, vI 0, vI 0, vI 0, vI 0, vI 3, vI 2, vI 1, vI 1, vI 0, vI 0, vI 0, vI 0, vI 0, vI 0, .slice none 0 0, vI 0, vS 1027 0 1 1, vI 0, .slice none 0 0, .slice none 0 0, vI 0, vI 0, vI 0, vI 0, vI 0] 55
def We76 : Ent := ⟨17, [vP 81 0, vI 20], 1000, [(77, Wq22), (80, Wq16), (81, Wq27), (149, Wq11), (176, Wq18), (299, Wq88)], vU 1030 0 3, [(80, some Wq16), (1012, some Wq18), (1027, some Wq90), (1030, some Wq111)], 1031, [80], true⟩
-- COST 1207
theorem We76_k : chk smW [] We76 = true := by kernel_rfl
theorem We76_c : EO We76 := eo (l := []) smW_ok trivial We76_k
def Wq112 : AO := oR [vI 1, vI 2, vI 0, vI 1, vI 0, vI 0, vI 0, vI 0, vI 0, vI 0, .slice none 0 0, vI 0, .slice none 0 0, vI 0, .slice none 0 0, .slice none 0 0, vI 0, vI 0, vI 0, vI 0, vI 0, vI 4, vI 2, vI 3, vI 1, vI 0, vI 0, vI 0, vI 0, vI 0, vI 0, .slice none 0 0, vI 0, vU 1046 0 1, vI 0, .slice none 0 0, .slice none 0 0, vI 0, vI 0, vI 0, vI 0, vI 0, vI 3, vI 2, vI 1, vI 1, vI 0, vI 0, vI 0, vI 0, vI 0, vI 0, .slice none 0 0, vI 0, vS 1061 0 1 1, vI 0, .slice none 0 0, .slice none 0 0, vI 0, vI 0, vI 0, vI 0, vI 0] 55
def We77 : Ent := ⟨17, [vP 81 0, vI 21], 1034, [(77, Wq22), (80, Wq16), (81, Wq27), (149, Wq11), (176, Wq18), (299, Wq88)], vU 1064 0 3, [(80, some Wq16), (1046, some Wq18), (1061, some Wq90), (1064, some Wq112)], 1065, [80], true⟩
-- COST 1207
theorem We77_k : chk smW [] We77 = true := by kernel_rfl
theorem We77_c : EO We77 := eo (l := []) smW_ok trivial We77_k
def Wq113 : AO := oR [vI 1, vI 2, vI 0, vI 1, vI 0, vI 0, vI 0, vI 0, vI 0, vI 0, .slice none 0 0, vI 0, .slice none 0 0, vI 0, .slice none 0 0, .slice none 0 0, vI 0, vI 0, vI 0, vI 0, vI 0, vI 4, vI 2, vI 3, vI 1, vI 0, vI 0, vI 0, vI 0, vI 0, vI 0, .slice none 0 0, vI 0, vU 1080 0 1, vI 0, .slice none 0 0, .slice none 0 0, vI 0, vI 0, vI 0, vI 0, vI 0, vI 3, vI 2, vI 1, vI 1, vI 0, vI 0, vI 0, vI 0, vI 0, vI 0, .slice none 0 0, vI 0, vS 1095 0 1 1, vI 0, .slice none 0 0, .slice none 0 0, vI 0, vI 0, vI 0, vI 0, vI 0] 55
def We78 : Ent := ⟨17, [vP 81 0, vI 22], 1068, [(77, Wq22), (80, Wq16), (81, Wq27), (149, Wq11), (176, Wq18), (299, Wq88)], vU 1098 0 3, [(80, some Wq16), (1080, some Wq18), (1095, some Wq90), (1098, some Wq113)], 1099, [80], true⟩
-- COST 1207
theorem We78_k : chk smW [] We78 = true := by kernel_rfl
theorem We78_c : EO We78 := eo (l := []) smW_ok trivial We78_k
def Wq114 : AO := oR [vI 1, vI 2, vI 0, vI 1, vI 0, vI 0, vI 0, vI 0, vI 0, vI 0, .slice none 0 0, vI 0, .slice none 0 0, vI 0, .slice none 0 0, .slice none 0 0, vI 0, vI 0, vI 0, vI 0, vI 0, vI 4, vI 2, vI 3, vI 1, vI 0, vI 0, vI 0, vI 0, vI 0, vI 0, .slice none 0 0, vI 0, vU 1114 0 1, vI 0, .slice none 0 0, .slice none 0 0, vI 0, vI 0, vI 0, vI 0, vI 0, vI 3, vI 2, vI 1, vI 1, vI 0, vI 0, vI 0, vI 0, vI 0, vI 0, .slice none 0 0, vI 0, vS 1129 0 1 1, vI 0, .slice none 0 0, .slice none 0 0, vI 0, vI 0, vI 0, vI 0, vI 0] 55
def We79 : Ent := ⟨17, [vP 81 0, vI 23], 1102, [(77, Wq22), (80, Wq16), (81, Wq27), (149, Wq11), (176, Wq18), (299, Wq88)], vU 1132 0 3, [(80, some Wq16), (1114, some Wq18), (1129, some Wq90), (1132, some Wq114)], 1133, [80], true⟩
-- COST 1207
theorem We79_k : chk smW [] We79 = true := by kernel_rfl
theorem We79_c : EO We79 := eo (l := []) smW_ok trivial We79_k
def Wq115 : AO := oR [vI 1, vI 2, vI 0, vI 1, vI 0, vI 0, vI 0, vI 0, vI 0, vI 0, .slice none 0 0, vI 0, .slice none 0 0, vI 0, .slice none 0 0, .slice none 0 0, vI 0, vI 0, vI 0, vI 0, vI 0, vI 4, vI 2, vI 3, vI 1, vI 0, vI 0, vI 0, vI 0, vI 0, vI 0, .slice none 0 0, vI 0, vU 1148 0 1, vI 0, .slice none 0 0, .slice none 0 0, vI 0, vI 0, vI 0, vI 0, vI 0, vI 3, vI 2, vI 1, vI 1, vI 0, vI 0, vI 0, vI 0, vI 0, vI 0, .slice none 0 0, vI 0, vS 1163 0 1 1, vI 0, .slice none 0 0, .slice none 0 0, vI 0, vI 0, vI 0, vI 0, vI 0] 55
def We80 : Ent := ⟨17, [vP 81 0, vI 24], 1136, [(77, Wq22), (80, Wq16), (81, Wq27), (149, Wq11), (176, Wq18), (299, Wq88)], vU 1166 0 3, [(80, some Wq16), (1148, some Wq18), (1163, some Wq90), (1166, some Wq115)], 1167, [80], true⟩
-- COST 1207
theorem We80_k : chk smW [] We80 = true := by kernel_rfl
theorem We80_c : EO We80 := eo (l := []) smW_ok trivial We80_k
def Wq116 : AO := oR [vI 1, vI 2, vI 0, vI 1, vI 0, vI 0, vI 0, vI 0, vI 0, vI 0, .slice none 0 0, vI 0, .slice none 0 0, vI 0, .slice none 0 0, .slice none 0 0, vI 0, vI 0, vI 0, vI 0, vI 0, vI 4, vI 2, vI 3, vI 1, vI 0, vI 0, vI 0, vI 0, vI 0, vI 0, .slice none 0 0, vI 0, vU 1182 0 1, vI 0, .slice none 0 0, .slice none 0 0, vI 0, vI 0, vI 0, vI 0, vI 0, vI 3, vI 2, vI 1, vI 1, vI 0, vI 0, vI 0, vI 0, vI 0, vI 0, .slice none 0 0, vI 0, vS 1197 0 1 1, vI 0, .slice none 0 0, .slice none 0 0, vI 0, vI 0, vI 0, vI 0, vI 0] 55
def We81 : Ent := ⟨17, [vP 81 0, vI 25], 1170, [(77, Wq22), (80, Wq16), (81, Wq27), (149, Wq11), (176, Wq18), (299, Wq88)], vU 1200 0 3, [(80, some Wq16), (1182, some Wq18), (1197, some Wq90), (1200, some Wq116)], 1201, [80], true⟩
-- COST 1207
theorem We81_k : chk smW [] We81 = true := by kernel_rfl
theorem We81_c : EO We81 := eo (l := []) smW_ok trivial We81_k
def Wq117 : AO := oR [vI 1, vI 2, vI 0, vI 1, vI 0, vI 0, vI 0, vI 0, vI 0, vI 0, .slice none 0 0, vI 0, .slice none 0 0, vI 0, .slice none 0 0, .slice none 0 0, vI 0, vI 0, vI 0, vI 0, vI 0, vI 4, vI 2, vI 3, vI 1, vI 0, vI 0, vI 0, vI 0, vI 0, vI 0, .slice none 0 0, vI 0, vU 1216 0 1, vI 0, .slice none 0 0, .slice none 0 0, vI 0, vI 0, vI 0, vI 0, vI 0, vI 3, vI 2, vI 1, vI 1, vI 0, vI 0, vI 0, vI 0, vI 0, vI 0, .slice none 0 0, vI 0, vS 1231 0 1 1, vI 0, .slice none 0 0, .slice none 0 0, vI 0, vI 0, vI 0, vI 0, vI 0] 55
def We82 : Ent := ⟨17, [vP 81 0, vI 26], 1204, [(77, Wq22), (80, Wq16), (81, Wq27), (149, Wq11), (176, Wq18), (299, Wq88)], vU 1234 0 3, [(80, some Wq16), (1216, some Wq18), (1231, some Wq90), (1234, some Wq117)], 1235, [80], true⟩
-- COST 1207
theorem We82_k : chk smW [] We82 = true := by kernel_rfl
theorem We82_c : EO We82 := eo (l := []) smW_ok trivial We82_k
def Wq118 : AO := oR [vI 1, vI 2, vI 0, vI 1, vI 0, vI 0, vI 0, vI 0, vI 0, vI 0, .slice none 0 0, vI 0, .slice none 0 0, vI 0, .slice none 0 0, .slice none 0 0, vI 0, vI 0, vI 0, vI 0, vI 0, vI 4, vI 2, vI 3, vI 1, vI 0, vI 0, vI 0, vI 0, vI 0, vI 0, .slice none 0 0, vI 0, vU 1250 0 1, vI 0, .slice none 0 0, .slice none 0 0, vI 0, vI 0, vI 0, vI 0, vI 0, vI 3, vI 2, vI 1, vI 1, vI 0, vI 0, vI 0, vI 0, vI 0, vI 0, .slice none 0 0, vI 0, vS 1265 0 1 1, vI 0, .slice none 0 0, .slice none 0 0, vI 0, vI 0, vI 0, vI 0, vI 0] 55
def We83 : Ent := ⟨17, [vP 81 0, vI 27], 1238, [(77, Wq22), (80, Wq16), (81, Wq27), (149, Wq11), (176, Wq18), (299, Wq88)], vU 1268 0 3, [(80, some Wq16), (1250, some Wq18), (1265, some Wq90), (1268, some Wq118)], 1269, [80], true⟩
-- COST 1207
theorem We83_k : chk smW [] We83 = true := by kernel_rfl
theorem We83_c : EO We83 := eo (l := []) smW_ok trivial We83_k
def Wq119 : AO := oR [vI 1, vI 2, vI 0, vI 1, vI 0, vI 0, vI 0, vI 0, vI 0, vI 0, .slice none 0 0, vI 0, .slice none 0 0, vI 0, .slice none 0 0, .slice none 0 0, vI 0, vI 0, vI 0, vI 0, vI 0, vI 4, vI 2, vI 3, vI 1, vI 0, vI 0, vI 0, vI 0, vI 0, vI 0, .slice none 0 0, vI 0, vU 1284 0 1, vI 0, .slice none 0 0, .slice none 0 0, vI 0, vI 0, vI 0, vI 0, vI 0, vI 3, vI 2, vI 1, vI 1, vI 0, vI 0, vI 0, vI 0, vI 0, vI 0, .slice none 0 0, vI 0, vS 1299 0 1 1, vI 0, .slice none 0 0, .slice none 0 0, vI 0, vI 0, vI 0, vI 0, vI 0] 55
def We84 : Ent := ⟨17, [vP 81 0, vI 28], 1272, [(77, Wq22), (80, Wq16), (81, Wq27), (149, Wq11), (176, Wq18), (299, Wq88)], vU 1302 0 3, [(80, some Wq16), (1284, some Wq18), (1299, some Wq90), (1302, some Wq119)], 1303, [80], true⟩
-- COST 1207
theorem We84_k : chk smW [] We84 = true := by kernel_rfl
theorem We84_c : EO We84 := eo (l := []) smW_ok trivial We84_k
def Wq120 : AO := oR [vI 1, vI 2, vI 0, vI 1, vI 0, vI 0, vI 0, vI 0, vI 0, vI 0, .slice none 0 0, vI 0, .slice none 0 0, vI 0, .slice none 0 0, .slice none 0 0, vI 0, vI 0, vI 0, vI 0, vI 0, vI 4, vI 2, vI 3, vI 1, vI 0, vI 0, vI 0, vI 0, vI 0, vI 0, .slice none 0 0, vI 0, vU 1318 0 1, vI 0, .slice none 0 0, .slice none 0 0, vI 0, vI 0, vI 0, vI 0, vI 0, vI 3, vI 2, vI 1, vI 1, vI 0, vI 0, vI 0, vI 0, vI 0, vI 0, .slice none 0 0, vI 0, vS 1333 0 1 1, vI 0, .slice none 0 0, .slice none 0 0, vI 0, vI 0, vI 0, vI 0, vI 0] 55
def We85 : Ent := ⟨17, [vP 81 0, vI 29], 1306, [(77, Wq22), (80, Wq16), (81, Wq27), (149, Wq11), (176, Wq18), (299, Wq88)], vU 1336 0 3, [(80, some Wq16), (1318, some Wq18), (1333, some Wq90), (1336, some Wq120)], 1337, [80], true⟩
-- COST 1207
theorem We85_k : chk smW [] We85 = true := by kernel_rfl
theorem We85_c : EO We85 := eo (l := []) smW_ok trivial We85_k
def Wq121 : AO := oR [vP 298 0, vI 0, vI 0, v0, v0, vI 0, vI 0, v0, vI 0, vI 0, .bool true, vI 0] 79
def Wq122 : AO := oR [vI 1, vI 2, vI 0, vI 1, vI 0, vI 0, vI 0, vI 0, vI 0, vI 0, .slice none 0 0, vI 0, .slice none 0 0, vI 0, .slice none 0 0, .slice none 0 0, vI 0, vI 0, vI 0, vI 0, vI 0, vI 4, vI 2, vI 3, vI 1, vI 0, vI 0, vI 0, vI 0, vI 0, vI 0, .slice none 0 0, vI 0, vU 1352 0 1, vI 0, .slice none 0 0, .slice none 0 0, vI 0, vI 0, vI 0, vI 0, vI 0] 55
def We86 : Ent := ⟨17, [vP 81 0, vI 30], 1340, [(0, Wq0), (77, Wq22), (80, Wq16), (81, Wq27), (149, Wq11), (176, Wq18), (297, Wq28), (298, Wq87), (299, Wq88)], vU 1360 0 2, [(80, some Wq16), (298, some Wq62), (299, some Wq121), (1352, some Wq18), (1360, some Wq122)], 1371, [80, 298, 299], true⟩
-- COST 1467
theorem We86_k : chk smW [] We86 = true := by kernel_rfl
theorem We86_c : EO We86 := eo (l := []) smW_ok trivial We86_k
def Wq123 : AO := oR [vI 1, vI 2, vI 0, vI 1, vI 0, vI 0, vI 0, vI 0, vI 0, vI 0, .slice none 0 0, vI 0, .slice none 0 0, vI 0, .slice none 0 0, .slice none 0 0, vI 0, vI 0, vI 0, vI 0, vI 0, vI 4, vI 2, vI 3, vI 1, vI 0, vI 0, vI 0, vI 0, vI 0, vI 0, .slice none 0 0, vI 0, vU 1385 0 1, vI 0, .slice none 0 0, .slice none 0 0, vI 0, vI 0, vI 0, vI 0, vI 0] 55
def We87 : Ent := ⟨17, [vP 81 0, vI 31], 1373, [(77, Wq22), (80, Wq16), (81, Wq27), (149, Wq11), (176, Wq18), (298, Wq62), (299, Wq121)], vU 1393 0 2, [(80, some Wq16), (1385, some Wq18), (1393, some Wq123)], 1398, [80], true⟩
-- COST 991
theorem We87_k : chk smW [] We87 = true := by kernel_rfl
theorem We87_c : EO We87 := eo (l := []) smW_ok trivial We87_k
def Wq124 : AO := oR [vI 1, vI 2, vI 0, vI 1, vI 0, vI 0, vI 0, vI 0, vI 0, vI 0, .slice none 0 0, vI 0, .slice none 0 0, vI 0, .slice none 0 0, .slice none 0 0, vI 0, vI 0, vI 0, vI 0, vI 0, vI 4, vI 2, vI 3, vI 1, vI 0, vI 0, vI 0, vI 0, vI 0, vI 0, .slice none 0 0, vI 0, vU 1412 0 1, vI 0, .slice none 0 0, .slice none 0 0, vI 0, vI 0, vI 0, vI 0, vI 0] 55
def We88 : Ent := ⟨17, [vP 81 0, vI 32], 1400, [(77, Wq22), (80, Wq16), (81, Wq27), (149, Wq11), (176, Wq18), (298, Wq62), (299, Wq121)], vU 1420 0 2, [(80, some Wq16), (1412, some Wq18), (1420, some Wq124)], 1425, [80], true⟩
-- COST 991
theorem We88_k : chk smW [] We88 = true := by kernel_rfl
theorem We88_c : EO We88 := eo (l := []) smW_ok trivial We88_k
def Wq125 : AO := oR [vI 1, vI 2, vI 0, vI 1, vI 0, vI 0, vI 0, vI 0, vI 0, vI 0, .slice none 0 0, vI 0, .slice none 0 0, vI 0, .slice none 0 0, .slice none 0 0, vI 0, vI 0, vI 0, vI 0, vI 0, vI 4, vI 2, vI 3, vI 1, vI 0, vI 0, vI 0, vI 0, vI 0, vI 0, .slice none 0 0, vI 0, vU 1439 0 1, vI 0, .slice none 0 0, .slice none 0 0, vI 0, vI 0, vI 0, vI 0, vI 0] 55
def We89 : Ent := ⟨17, [vP 81 0, vI 33], 1427, [(77, Wq22), (80, Wq16), (81, Wq27), (149, Wq11), (176, Wq18), (298, Wq62), (299, Wq121)], vU 1447 0 2, [(80, some Wq16), (1439, some Wq18), (1447, some Wq125)], 1452, [80], true⟩
-- COST 991
theorem We89_k : chk smW [] We89 = true := by kernel_rfl
theorem We89_c : EO We89 := eo (l := []) smW_ok trivial We89_k
def Wq126 : AO := oR [vI 1, vI 2, vI 0, vI 1, vI 0, vI 0, vI 0, vI 0, vI 0, vI 0, .slice none 0 0, vI 0, .slice none 0 0, vI 0, .slice none 0 0, .slice none 0 0, vI 0, vI 0, vI 0, vI 0, vI 0, vI 4, vI 2, vI 3, vI 1, vI 0, vI 0, vI 0, vI 0, vI 0, vI 0, .slice none 0 0, vI 0, vU 1466 0 1, vI 0, .slice none 0 0, .slice none 0 0, vI 0, vI 0, vI 0, vI 0, vI 0] 55
def We90 : Ent := ⟨17, [vP 81 0, vI 34], 1454, [(77, Wq22), (80, Wq16), (81, Wq27), (149, Wq11), (176, Wq18), (298, Wq62), (299, Wq121)], vU 1474 0 2, [(80, some Wq16), (1466, some Wq18), (1474, some Wq126)], 1479, [80], true⟩
-- COST 991
theorem We90_k : chk smW [] We90 = true := by kernel_rfl
theorem We90_c : EO We90 := eo (l := []) smW_ok trivial We90_k
end
end Go.Proofs.YtdegbhgoldglaaaGreatDoor
