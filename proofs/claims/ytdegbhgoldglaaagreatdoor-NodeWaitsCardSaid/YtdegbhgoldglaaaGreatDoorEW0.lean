/-
  armariumlaw21.NodeWaits: a closed run, cut into calls that are run by themselves. No condition.
-/
import Derived.Test.YtdegbhgoldglaaaGreatDoorEN
namespace Go.Proofs.YtdegbhgoldglaaaGreatDoor
noncomputable section
open Go Go.Eng
set_option maxRecDepth 1000000
noncomputable def smW := (sumT 7 (sumT 44 (sumT 36 (sumT 158 (sumT 335 (sumT 315 (sumT 444 (sumT 314 (sumT 443 (sumT 477 (sumI sum0)))))))))))
theorem smW_ok : SumOK smW := (env_more (env_more (env_more (env_more (env_more (env_more (env_more (env_more (env_more (env_more (env_idx env0) A_run) C_run) D_run) B_run) G_run) K_run) L_run) J_run) M_run) N_run)
def Wq0 : AO := .row [.int .u64 1, .int .u64 10, .int .u64 100, .int .u64 1000, .int .u64 10000, .int .u64 100000, .int .u64 1000000, .int .u64 10000000, .int .u64 100000000, .int .u64 1000000000, .int .u64 10000000000, .int .u64 100000000000, .int .u64 1000000000000, .int .u64 10000000000000, .int .u64 100000000000000, .int .u64 1000000000000000, .int .u64 10000000000000000, .int .u64 100000000000000000, .int .u64 1000000000000000000, .int .u64 10000000000000000000] 0 true
def Wq1 : AO := .row [.tuple #[.chan (some 3), .bool false]] 0 true
def Wq2 : AO := .row [.tuple #[.chan (some 4), vI 0]] 0 true
def Wq3 : AO := .mp [] (some ([], 0))
def Wq4 : AO := oR [vI 1048576, .map (some 10)] 71
def Wq5 : AO := .mp [(vB 3 0x4c4f47, .agg #[vB 11 0x3030303030303031303a2c, vI 11, .bool true])] (some ([0], 1))
def Wq6 : AO := oR [vI 1048565, .map (some 10)] 71
def Wq7 : AO := oR [vP 11 0, v0, .slice (some ⟨76, 1, some 0⟩) 0 9223372036854775808, .bool false] 163
def Wq8 : AO := oR [vP 16 0, vI 0, .slice none 0 0, .slice none 0 0, vI 0, vI 0, vI 0, vI 0, vI 0, .slice none 0 0, vI 0, vI 0, .bool false] 102
def Wq9 : AO := oR [vI 2, vP 77 0, vI 0, .slice none 0 0, vI 0, vI 0, .slice none 0 0] 97
def Wq10 : AO := oR [vI 2, vP 11 0, vP 80 0, vN, vN, vN, vN, vN, vN, vN, vN, vI 1] 75
def We0 : Ent := ⟨14, [vI 2, vP 11 0, vI 0], 12, [(0, Wq0), (1, Wq1), (2, Wq1), (5, Wq2), (10, Wq3), (11, Wq4)], .tuple #[vP 81 0, vI 0], [(10, some Wq5), (11, some Wq6), (16, some Wq7), (76, some (oR [v0] 9)), (77, some Wq8), (80, some Wq9), (81, some Wq10)], 85, [10, 11], true⟩
-- COST 1961
theorem We0_k : chk smW [] We0 = true := by kernel_rfl
theorem We0_c : EO We0 := eo (l := []) smW_ok trivial We0_k
def Wq11 : AO := oR [vI 1, vI 2, vI 3] 3
def Wq12 : AO := .mp [(vB 3 0x4c4f47, .agg #[vB 34 0x3030303030303031303a2c303933316233306631313a383a313a3323313a31235d2c, vI 34, .bool true])] (some ([0], 1))
def Wq13 : AO := oR [vI 1048542, .map (some 10)] 71
def Wq14 : AO := oR [vP 11 0, v0, vU 144 0 1, .bool false] 163
def Wq15 : AO := oR [vP 16 0, vI 0, .slice none 0 0, .slice none 0 0, vI 0, vI 0, vI 0, vI 0, vI 0, .slice none 0 0, vI 1, vI 0, .bool false] 102
def Wq16 : AO := oR [vI 2, vP 77 0, vI 1, vU 149 0 3, vI 0, vI 1048576, .slice none 0 0] 97
def Wq17 : AO := oR [vB 11 0x383a313a3323313a31235d] 9
def We1 : Ent := ⟨15, [vP 81 0, .agg #[vI 2, vI 0, vI 2, vI 0, vI 0, vI 0, vI 1048576, vI 0, vI 0, vI 1, vS 85 0 3 3, vI 0, .slice none 0 0, vI 0, .slice none 0 0, .slice none 0 0, vI 0, vI 0, vI 0, vI 0, vI 0], vI 0], 86, [(0, Wq0), (1, Wq1), (2, Wq1), (5, Wq2), (10, Wq5), (11, Wq6), (16, Wq7), (76, (oR [v0] 9)), (77, Wq8), (80, Wq9), (81, Wq10), (85, Wq11)], .slice none 0 0, [(10, some Wq12), (11, some Wq13), (16, some Wq14), (76, none), (77, some Wq15), (80, some Wq16), (144, some Wq17), (149, some Wq11)], 153, [10, 11, 16, 76, 77, 80], true⟩
-- COST 2231
theorem We1_k : chk smW [] We1 = true := by kernel_rfl
theorem We1_c : EO We1 := eo (l := []) smW_ok trivial We1_k
def Wq18 : AO := oR [vI 2, vB 1 0x6b, v0, vI 0, vI 0, v0, vI 4294967297, vI 0] 57
def Wq19 : AO := .mp [(vB 3 0x4c4f47, .agg #[vB 98 0x3030303030303031303a2c303933316233306631313a383a313a3323313a31235d2c613132383261333235323a34383a313a312334303a313a3223313a6b2c303a2c313a3023313a3023303a2c31303a3432393439363732393723313a30235d5d2c, vI 98, .bool true])] (some ([0], 1))
def Wq20 : AO := oR [vI 1048478, .map (some 10)] 71
def Wq21 : AO := oR [vP 11 0, v0, vU 275 0 2, .bool false] 163
def Wq22 : AO := oR [vP 16 0, vI 0, .slice none 0 0, .slice none 0 0, vI 0, vI 0, vI 0, vI 0, vI 0, vU 176 0 1, vI 1, vI 0, .bool false] 102
def Wq23 : AO := oR [vB 11 0x383a313a3323313a31235d, vB 52 0x34383a313a312334303a313a3223313a6b2c303a2c313a3023313a3023303a2c31303a3432393439363732393723313a30235d5d] 9
def Wq24 : AO := oR [vI 4, vI 2, vI 3, vI 1, vI 0, vI 0, vI 0, vI 0, vI 0, vI 0, .slice none 0 0, vI 0, vU 283 0 1, vI 0, .slice none 0 0, .slice none 0 0, vI 0, vI 0, vI 0, vI 0, vI 0] 55
def We2 : Ent := ⟨15, [vP 81 0, .agg #[vI 4, vI 1, vI 2, vI 1, vI 0, vI 0, vI 0, vI 0, vI 0, vI 0, .slice none 0 0, vI 0, vS 153 0 1 1, vI 0, .slice none 0 0, .slice none 0 0, vI 0, vI 0, vI 0, vI 0, vI 0], vI 0], 154, [(0, Wq0), (1, Wq1), (2, Wq1), (5, Wq2), (10, Wq12), (11, Wq13), (16, Wq14), (77, Wq15), (80, Wq16), (81, Wq10), (144, Wq17), (149, Wq11), (153, Wq18)], vS 290 0 1 1, [(10, some Wq19), (11, some Wq20), (16, some Wq21), (77, some Wq22), (80, some Wq16), (144, none), (176, some Wq18), (275, some Wq23), (283, some Wq18), (290, some Wq24)], 297, [10, 11, 16, 77, 80, 144], true⟩
-- COST 4410
theorem We2_k : chk smW [] We2 = true := by kernel_rfl
theorem We2_c : EO We2 := eo (l := []) smW_ok trivial We2_k
def Wq25 : AO := .mp [(vB 3 0x4c4f47, .agg #[vB 98 0x3030303030303031303a2c303933316233306631313a383a313a3323313a31235d2c613132383261333235323a34383a313a312334303a313a3223313a6b2c303a2c313a3023313a3023303a2c31303a3432393439363732393723313a30235d5d2c, vI 98, .bool true]), (vB 3 0x524551, .agg #[vB 1 0x2e, vI 1, .bool true])] (some ([0, 1], 2))
def Wq26 : AO := oR [vI 1048477, .map (some 10)] 71
def Wq27 : AO := oR [vI 2, vP 11 0, vP 80 0, vP 299 0, vN, vN, vN, vN, vN, vN, vN, vI 2] 75
def Wq28 : AO := oR [vI 0, vI 0, vI 0, vI 0, .slice none 0 0, v0, v0, v0, .slice none 0 0, v0, vI 0, .slice none 0 0] 150
def Wq29 : AO := oR [vP 297 0, .slice (some ⟨319, 5, some 0⟩) 0 9223372036854775808, vI 1, vB 1 0x6b, vI 0, v0, vI 0, v0, v0, v0, vI 0, .bool false, .bool true, v0, .bool false] 109
def Wq30 : AO := oR [vP 298 0, vI 8589934593, vI 0, v0, v0, vI 0, vI 0, v0, vI 0, vI 0, .bool false, vI 0] 79
def Wq31 : AO := oR [vB 3 0x474554, vB 4 0x2f6f2f6b, v0, .slice none 0 0, v0] 148
def Wq32 : AO := oR [vI 8, vI 2, vI 3, vI 1, vI 0, vI 8589934593, vI 0, vI 0, vI 0, vI 0, .slice none 0 0, vI 0, .slice none 0 0, vI 0, .slice none 0 0, .slice none 0 0, vI 0, vI 0, vI 0, vI 0, vI 0] 55
def We3 : Ent := ⟨10, [vP 81 0, vI 0, vB 21 0x474554202f6f2f6b20485454502f312e310d0a0d0a, vI 0], 297, [(1, Wq1), (10, Wq19), (11, Wq20), (77, Wq22), (80, Wq16), (81, Wq10), (149, Wq11), (176, Wq18)], vU 351 0 1, [(10, some Wq25), (11, some Wq26), (80, some Wq16), (81, some Wq27), (297, some Wq28), (298, some Wq29), (299, some Wq30), (319, some Wq31), (351, some Wq32)], 352, [10, 11, 80, 81], true⟩
-- COST 4462
theorem We3_k : chk smW [] We3 = true := by kernel_rfl
theorem We3_c : EO We3 := eo (l := []) smW_ok trivial We3_k
def Wq33 : AO := oR [vI 1, vI 2, vI 0, vI 1, vI 0, vI 0, vI 0, vI 0, vI 0, vI 0, .slice none 0 0, vI 0, .slice none 0 0, vI 0, .slice none 0 0, .slice none 0 0, vI 0, vI 0, vI 0, vI 0, vI 0, vI 4, vI 2, vI 3, vI 1, vI 0, vI 0, vI 0, vI 0, vI 0, vI 0, .slice none 0 0, vI 0, vU 364 0 1, vI 0, .slice none 0 0, .slice none 0 0, vI 0, vI 0, vI 0, vI 0, vI 0, vI 8, vI 2, vI 3, vI 1, vI 0, vI 8589934593, vI 0, vI 0, vI 0, vI 0, .slice none 0 0, vI 0, .slice none 0 0, vI 0, .slice none 0 0, .slice none 0 0, vI 0, vI 0, vI 0, vI 0, vI 0] 55
def We4 : Ent := ⟨17, [vP 81 0, vI 1], 352, [(77, Wq22), (80, Wq16), (81, Wq27), (149, Wq11), (176, Wq18), (299, Wq30)], vU 381 0 3, [(80, some Wq16), (364, some Wq18), (381, some Wq33)], 382, [80], true⟩
-- COST 1109
theorem We4_k : chk smW [] We4 = true := by kernel_rfl
theorem We4_c : EO We4 := eo (l := []) smW_ok trivial We4_k
def Wq34 : AO := oR [vI 1, vI 2, vI 0, vI 1, vI 0, vI 0, vI 0, vI 0, vI 0, vI 0, .slice none 0 0, vI 0, .slice none 0 0, vI 0, .slice none 0 0, .slice none 0 0, vI 0, vI 0, vI 0, vI 0, vI 0, vI 4, vI 2, vI 3, vI 1, vI 0, vI 0, vI 0, vI 0, vI 0, vI 0, .slice none 0 0, vI 0, vU 397 0 1, vI 0, .slice none 0 0, .slice none 0 0, vI 0, vI 0, vI 0, vI 0, vI 0, vI 8, vI 2, vI 3, vI 1, vI 0, vI 8589934593, vI 0, vI 0, vI 0, vI 0, .slice none 0 0, vI 0, .slice none 0 0, vI 0, .slice none 0 0, .slice none 0 0, vI 0, vI 0, vI 0, vI 0, vI 0] 55
def We5 : Ent := ⟨17, [vP 81 0, vI 2], 385, [(77, Wq22), (80, Wq16), (81, Wq27), (149, Wq11), (176, Wq18), (299, Wq30)], vU 414 0 3, [(80, some Wq16), (397, some Wq18), (414, some Wq34)], 415, [80], true⟩
-- COST 1109
theorem We5_k : chk smW [] We5 = true := by kernel_rfl
theorem We5_c : EO We5 := eo (l := []) smW_ok trivial We5_k
def Wq35 : AO := oR [vI 1, vI 2, vI 0, vI 1, vI 0, vI 0, vI 0, vI 0, vI 0, vI 0, .slice none 0 0, vI 0, .slice none 0 0, vI 0, .slice none 0 0, .slice none 0 0, vI 0, vI 0, vI 0, vI 0, vI 0, vI 4, vI 2, vI 3, vI 1, vI 0, vI 0, vI 0, vI 0, vI 0, vI 0, .slice none 0 0, vI 0, vU 430 0 1, vI 0, .slice none 0 0, .slice none 0 0, vI 0, vI 0, vI 0, vI 0, vI 0, vI 8, vI 2, vI 3, vI 1, vI 0, vI 8589934593, vI 0, vI 0, vI 0, vI 0, .slice none 0 0, vI 0, .slice none 0 0, vI 0, .slice none 0 0, .slice none 0 0, vI 0, vI 0, vI 0, vI 0, vI 0] 55
def We6 : Ent := ⟨17, [vP 81 0, vI 3], 418, [(77, Wq22), (80, Wq16), (81, Wq27), (149, Wq11), (176, Wq18), (299, Wq30)], vU 447 0 3, [(80, some Wq16), (430, some Wq18), (447, some Wq35)], 448, [80], true⟩
-- COST 1109
theorem We6_k : chk smW [] We6 = true := by kernel_rfl
theorem We6_c : EO We6 := eo (l := []) smW_ok trivial We6_k
def Wq36 : AO := oR [vI 1, vI 2, vI 0, vI 1, vI 0, vI 0, vI 0, vI 0, vI 0, vI 0, .slice none 0 0, vI 0, .slice none 0 0, vI 0, .slice none 0 0, .slice none 0 0, vI 0, vI 0, vI 0, vI 0, vI 0, vI 4, vI 2, vI 3, vI 1, vI 0, vI 0, vI 0, vI 0, vI 0, vI 0, .slice none 0 0, vI 0, vU 463 0 1, vI 0, .slice none 0 0, .slice none 0 0, vI 0, vI 0, vI 0, vI 0, vI 0, vI 8, vI 2, vI 3, vI 1, vI 0, vI 8589934593, vI 0, vI 0, vI 0, vI 0, .slice none 0 0, vI 0, .slice none 0 0, vI 0, .slice none 0 0, .slice none 0 0, vI 0, vI 0, vI 0, vI 0, vI 0] 55
def We7 : Ent := ⟨17, [vP 81 0, vI 4], 451, [(77, Wq22), (80, Wq16), (81, Wq27), (149, Wq11), (176, Wq18), (299, Wq30)], vU 480 0 3, [(80, some Wq16), (463, some Wq18), (480, some Wq36)], 481, [80], true⟩
-- COST 1109
theorem We7_k : chk smW [] We7 = true := by kernel_rfl
theorem We7_c : EO We7 := eo (l := []) smW_ok trivial We7_k
def Wq37 : AO := oR [vI 1, vI 2, vI 0, vI 1, vI 0, vI 0, vI 0, vI 0, vI 0, vI 0, .slice none 0 0, vI 0, .slice none 0 0, vI 0, .slice none 0 0, .slice none 0 0, vI 0, vI 0, vI 0, vI 0, vI 0, vI 4, vI 2, vI 3, vI 1, vI 0, vI 0, vI 0, vI 0, vI 0, vI 0, .slice none 0 0, vI 0, vU 496 0 1, vI 0, .slice none 0 0, .slice none 0 0, vI 0, vI 0, vI 0, vI 0, vI 0, vI 8, vI 2, vI 3, vI 1, vI 0, vI 8589934593, vI 0, vI 0, vI 0, vI 0, .slice none 0 0, vI 0, .slice none 0 0, vI 0, .slice none 0 0, .slice none 0 0, vI 0, vI 0, vI 0, vI 0, vI 0] 55
def We8 : Ent := ⟨17, [vP 81 0, vI 5], 484, [(77, Wq22), (80, Wq16), (81, Wq27), (149, Wq11), (176, Wq18), (299, Wq30)], vU 513 0 3, [(80, some Wq16), (496, some Wq18), (513, some Wq37)], 514, [80], true⟩
-- COST 1109
theorem We8_k : chk smW [] We8 = true := by kernel_rfl
theorem We8_c : EO We8 := eo (l := []) smW_ok trivial We8_k
def Wq38 : AO := oR [vI 1, vI 2, vI 0, vI 1, vI 0, vI 0, vI 0, vI 0, vI 0, vI 0, .slice none 0 0, vI 0, .slice none 0 0, vI 0, .slice none 0 0, .slice none 0 0, vI 0, vI 0, vI 0, vI 0, vI 0, vI 4, vI 2, vI 3, vI 1, vI 0, vI 0, vI 0, vI 0, vI 0, vI 0, .slice none 0 0, vI 0, vU 529 0 1, vI 0, .slice none 0 0, .slice none 0 0, vI 0, vI 0, vI 0, vI 0, vI 0, vI 8, vI 2, vI 3, vI 1, vI 0, vI 8589934593, vI 0, vI 0, vI 0, vI 0, .slice none 0 0, vI 0, .slice none 0 0, vI 0, .slice none 0 0, .slice none 0 0, vI 0, vI 0, vI 0, vI 0, vI 0] 55
def We9 : Ent := ⟨17, [vP 81 0, vI 6], 517, [(77, Wq22), (80, Wq16), (81, Wq27), (149, Wq11), (176, Wq18), (299, Wq30)], vU 546 0 3, [(80, some Wq16), (529, some Wq18), (546, some Wq38)], 547, [80], true⟩
-- COST 1109
theorem We9_k : chk smW [] We9 = true := by kernel_rfl
theorem We9_c : EO We9 := eo (l := []) smW_ok trivial We9_k
def Wq39 : AO := oR [vI 1, vI 2, vI 0, vI 1, vI 0, vI 0, vI 0, vI 0, vI 0, vI 0, .slice none 0 0, vI 0, .slice none 0 0, vI 0, .slice none 0 0, .slice none 0 0, vI 0, vI 0, vI 0, vI 0, vI 0, vI 4, vI 2, vI 3, vI 1, vI 0, vI 0, vI 0, vI 0, vI 0, vI 0, .slice none 0 0, vI 0, vU 562 0 1, vI 0, .slice none 0 0, .slice none 0 0, vI 0, vI 0, vI 0, vI 0, vI 0, vI 8, vI 2, vI 3, vI 1, vI 0, vI 8589934593, vI 0, vI 0, vI 0, vI 0, .slice none 0 0, vI 0, .slice none 0 0, vI 0, .slice none 0 0, .slice none 0 0, vI 0, vI 0, vI 0, vI 0, vI 0] 55
def We10 : Ent := ⟨17, [vP 81 0, vI 7], 550, [(77, Wq22), (80, Wq16), (81, Wq27), (149, Wq11), (176, Wq18), (299, Wq30)], vU 579 0 3, [(80, some Wq16), (562, some Wq18), (579, some Wq39)], 580, [80], true⟩
-- COST 1109
theorem We10_k : chk smW [] We10 = true := by kernel_rfl
theorem We10_c : EO We10 := eo (l := []) smW_ok trivial We10_k
def Wq40 : AO := oR [vI 1, vI 2, vI 0, vI 1, vI 0, vI 0, vI 0, vI 0, vI 0, vI 0, .slice none 0 0, vI 0, .slice none 0 0, vI 0, .slice none 0 0, .slice none 0 0, vI 0, vI 0, vI 0, vI 0, vI 0, vI 4, vI 2, vI 3, vI 1, vI 0, vI 0, vI 0, vI 0, vI 0, vI 0, .slice none 0 0, vI 0, vU 595 0 1, vI 0, .slice none 0 0, .slice none 0 0, vI 0, vI 0, vI 0, vI 0, vI 0, vI 8, vI 2, vI 3, vI 1, vI 0, vI 8589934593, vI 0, vI 0, vI 0, vI 0, .slice none 0 0, vI 0, .slice none 0 0, vI 0, .slice none 0 0, .slice none 0 0, vI 0, vI 0, vI 0, vI 0, vI 0] 55
def We11 : Ent := ⟨17, [vP 81 0, vI 8], 583, [(77, Wq22), (80, Wq16), (81, Wq27), (149, Wq11), (176, Wq18), (299, Wq30)], vU 612 0 3, [(80, some Wq16), (595, some Wq18), (612, some Wq40)], 613, [80], true⟩
-- COST 1109
theorem We11_k : chk smW [] We11 = true := by kernel_rfl
theorem We11_c : EO We11 := eo (l := []) smW_ok trivial We11_k
def Wq41 : AO := oR [vI 1, vI 2, vI 0, vI 1, vI 0, vI 0, vI 0, vI 0, vI 0, vI 0, .slice none 0 0, vI 0, .slice none 0 0, vI 0, .slice none 0 0, .slice none 0 0, vI 0, vI 0, vI 0, vI 0, vI 0, vI 4, vI 2, vI 3, vI 1, vI 0, vI 0, vI 0, vI 0, vI 0, vI 0, .slice none 0 0, vI 0, vU 628 0 1, vI 0, .slice none 0 0, .slice none 0 0, vI 0, vI 0, vI 0, vI 0, vI 0, vI 8, vI 2, vI 3, vI 1, vI 0, vI 8589934593, vI 0, vI 0, vI 0, vI 0, .slice none 0 0, vI 0, .slice none 0 0, vI 0, .slice none 0 0, .slice none 0 0, vI 0, vI 0, vI 0, vI 0, vI 0] 55
def We12 : Ent := ⟨17, [vP 81 0, vI 9], 616, [(77, Wq22), (80, Wq16), (81, Wq27), (149, Wq11), (176, Wq18), (299, Wq30)], vU 645 0 3, [(80, some Wq16), (628, some Wq18), (645, some Wq41)], 646, [80], true⟩
-- COST 1109
theorem We12_k : chk smW [] We12 = true := by kernel_rfl
theorem We12_c : EO We12 := eo (l := []) smW_ok trivial We12_k
def Wq42 : AO := oR [vI 1, vI 2, vI 0, vI 1, vI 0, vI 0, vI 0, vI 0, vI 0, vI 0, .slice none 0 0, vI 0, .slice none 0 0, vI 0, .slice none 0 0, .slice none 0 0, vI 0, vI 0, vI 0, vI 0, vI 0, vI 4, vI 2, vI 3, vI 1, vI 0, vI 0, vI 0, vI 0, vI 0, vI 0, .slice none 0 0, vI 0, vU 661 0 1, vI 0, .slice none 0 0, .slice none 0 0, vI 0, vI 0, vI 0, vI 0, vI 0, vI 8, vI 2, vI 3, vI 1, vI 0, vI 8589934593, vI 0, vI 0, vI 0, vI 0, .slice none 0 0, vI 0, .slice none 0 0, vI 0, .slice none 0 0, .slice none 0 0, vI 0, vI 0, vI 0, vI 0, vI 0] 55
def We13 : Ent := ⟨17, [vP 81 0, vI 10], 649, [(77, Wq22), (80, Wq16), (81, Wq27), (149, Wq11), (176, Wq18), (299, Wq30)], vU 678 0 3, [(80, some Wq16), (661, some Wq18), (678, some Wq42)], 679, [80], true⟩
-- COST 1109
theorem We13_k : chk smW [] We13 = true := by kernel_rfl
theorem We13_c : EO We13 := eo (l := []) smW_ok trivial We13_k
def Wq43 : AO := oR [vI 1, vI 2, vI 0, vI 1, vI 0, vI 0, vI 0, vI 0, vI 0, vI 0, .slice none 0 0, vI 0, .slice none 0 0, vI 0, .slice none 0 0, .slice none 0 0, vI 0, vI 0, vI 0, vI 0, vI 0, vI 4, vI 2, vI 3, vI 1, vI 0, vI 0, vI 0, vI 0, vI 0, vI 0, .slice none 0 0, vI 0, vU 694 0 1, vI 0, .slice none 0 0, .slice none 0 0, vI 0, vI 0, vI 0, vI 0, vI 0, vI 8, vI 2, vI 3, vI 1, vI 0, vI 8589934593, vI 0, vI 0, vI 0, vI 0, .slice none 0 0, vI 0, .slice none 0 0, vI 0, .slice none 0 0, .slice none 0 0, vI 0, vI 0, vI 0, vI 0, vI 0] 55
def We14 : Ent := ⟨17, [vP 81 0, vI 11], 682, [(77, Wq22), (80, Wq16), (81, Wq27), (149, Wq11), (176, Wq18), (299, Wq30)], vU 711 0 3, [(80, some Wq16), (694, some Wq18), (711, some Wq43)], 712, [80], true⟩
-- COST 1109
theorem We14_k : chk smW [] We14 = true := by kernel_rfl
theorem We14_c : EO We14 := eo (l := []) smW_ok trivial We14_k
def Wq44 : AO := oR [vI 1, vI 2, vI 0, vI 1, vI 0, vI 0, vI 0, vI 0, vI 0, vI 0, .slice none 0 0, vI 0, .slice none 0 0, vI 0, .slice none 0 0, .slice none 0 0, vI 0, vI 0, vI 0, vI 0, vI 0, vI 4, vI 2, vI 3, vI 1, vI 0, vI 0, vI 0, vI 0, vI 0, vI 0, .slice none 0 0, vI 0, vU 727 0 1, vI 0, .slice none 0 0, .slice none 0 0, vI 0, vI 0, vI 0, vI 0, vI 0, vI 8, vI 2, vI 3, vI 1, vI 0, vI 8589934593, vI 0, vI 0, vI 0, vI 0, .slice none 0 0, vI 0, .slice none 0 0, vI 0, .slice none 0 0, .slice none 0 0, vI 0, vI 0, vI 0, vI 0, vI 0] 55
def We15 : Ent := ⟨17, [vP 81 0, vI 12], 715, [(77, Wq22), (80, Wq16), (81, Wq27), (149, Wq11), (176, Wq18), (299, Wq30)], vU 744 0 3, [(80, some Wq16), (727, some Wq18), (744, some Wq44)], 745, [80], true⟩
-- COST 1109
theorem We15_k : chk smW [] We15 = true := by kernel_rfl
theorem We15_c : EO We15 := eo (l := []) smW_ok trivial We15_k
def Wq45 : AO := oR [vI 1, vI 2, vI 0, vI 1, vI 0, vI 0, vI 0, vI 0, vI 0, vI 0, .slice none 0 0, vI 0, .slice none 0 0, vI 0, .slice none 0 0, .slice none 0 0, vI 0, vI 0, vI 0, vI 0, vI 0, vI 4, vI 2, vI 3, vI 1, vI 0, vI 0, vI 0, vI 0, vI 0, vI 0, .slice none 0 0, vI 0, vU 760 0 1, vI 0, .slice none 0 0, .slice none 0 0, vI 0, vI 0, vI 0, vI 0, vI 0, vI 8, vI 2, vI 3, vI 1, vI 0, vI 8589934593, vI 0, vI 0, vI 0, vI 0, .slice none 0 0, vI 0, .slice none 0 0, vI 0, .slice none 0 0, .slice none 0 0, vI 0, vI 0, vI 0, vI 0, vI 0] 55
def We16 : Ent := ⟨17, [vP 81 0, vI 13], 748, [(77, Wq22), (80, Wq16), (81, Wq27), (149, Wq11), (176, Wq18), (299, Wq30)], vU 777 0 3, [(80, some Wq16), (760, some Wq18), (777, some Wq45)], 778, [80], true⟩
-- COST 1109
theorem We16_k : chk smW [] We16 = true := by kernel_rfl
theorem We16_c : EO We16 := eo (l := []) smW_ok trivial We16_k
def Wq46 : AO := oR [vI 1, vI 2, vI 0, vI 1, vI 0, vI 0, vI 0, vI 0, vI 0, vI 0, .slice none 0 0, vI 0, .slice none 0 0, vI 0, .slice none 0 0, .slice none 0 0, vI 0, vI 0, vI 0, vI 0, vI 0, vI 4, vI 2, vI 3, vI 1, vI 0, vI 0, vI 0, vI 0, vI 0, vI 0, .slice none 0 0, vI 0, vU 793 0 1, vI 0, .slice none 0 0, .slice none 0 0, vI 0, vI 0, vI 0, vI 0, vI 0, vI 8, vI 2, vI 3, vI 1, vI 0, vI 8589934593, vI 0, vI 0, vI 0, vI 0, .slice none 0 0, vI 0, .slice none 0 0, vI 0, .slice none 0 0, .slice none 0 0, vI 0, vI 0, vI 0, vI 0, vI 0] 55
def We17 : Ent := ⟨17, [vP 81 0, vI 14], 781, [(77, Wq22), (80, Wq16), (81, Wq27), (149, Wq11), (176, Wq18), (299, Wq30)], vU 810 0 3, [(80, some Wq16), (793, some Wq18), (810, some Wq46)], 811, [80], true⟩
-- COST 1109
theorem We17_k : chk smW [] We17 = true := by kernel_rfl
theorem We17_c : EO We17 := eo (l := []) smW_ok trivial We17_k
def Wq47 : AO := oR [vI 1, vI 2, vI 0, vI 1, vI 0, vI 0, vI 0, vI 0, vI 0, vI 0, .slice none 0 0, vI 0, .slice none 0 0, vI 0, .slice none 0 0, .slice none 0 0, vI 0, vI 0, vI 0, vI 0, vI 0, vI 4, vI 2, vI 3, vI 1, vI 0, vI 0, vI 0, vI 0, vI 0, vI 0, .slice none 0 0, vI 0, vU 826 0 1, vI 0, .slice none 0 0, .slice none 0 0, vI 0, vI 0, vI 0, vI 0, vI 0, vI 8, vI 2, vI 3, vI 1, vI 0, vI 8589934593, vI 0, vI 0, vI 0, vI 0, .slice none 0 0, vI 0, .slice none 0 0, vI 0, .slice none 0 0, .slice none 0 0, vI 0, vI 0, vI 0, vI 0, vI 0] 55
def We18 : Ent := ⟨17, [vP 81 0, vI 15], 814, [(77, Wq22), (80, Wq16), (81, Wq27), (149, Wq11), (176, Wq18), (299, Wq30)], vU 843 0 3, [(80, some Wq16), (826, some Wq18), (843, some Wq47)], 844, [80], true⟩
-- COST 1109
theorem We18_k : chk smW [] We18 = true := by kernel_rfl
theorem We18_c : EO We18 := eo (l := []) smW_ok trivial We18_k
def Wq48 : AO := oR [vI 1, vI 2, vI 0, vI 1, vI 0, vI 0, vI 0, vI 0, vI 0, vI 0, .slice none 0 0, vI 0, .slice none 0 0, vI 0, .slice none 0 0, .slice none 0 0, vI 0, vI 0, vI 0, vI 0, vI 0, vI 4, vI 2, vI 3, vI 1, vI 0, vI 0, vI 0, vI 0, vI 0, vI 0, .slice none 0 0, vI 0, vU 859 0 1, vI 0, .slice none 0 0, .slice none 0 0, vI 0, vI 0, vI 0, vI 0, vI 0, vI 8, vI 2, vI 3, vI 1, vI 0, vI 8589934593, vI 0, vI 0, vI 0, vI 0, .slice none 0 0, vI 0, .slice none 0 0, vI 0, .slice none 0 0, .slice none 0 0, vI 0, vI 0, vI 0, vI 0, vI 0] 55
def We19 : Ent := ⟨17, [vP 81 0, vI 16], 847, [(77, Wq22), (80, Wq16), (81, Wq27), (149, Wq11), (176, Wq18), (299, Wq30)], vU 876 0 3, [(80, some Wq16), (859, some Wq18), (876, some Wq48)], 877, [80], true⟩
-- COST 1109
theorem We19_k : chk smW [] We19 = true := by kernel_rfl
theorem We19_c : EO We19 := eo (l := []) smW_ok trivial We19_k
def Wq49 : AO := oR [vI 1, vI 2, vI 0, vI 1, vI 0, vI 0, vI 0, vI 0, vI 0, vI 0, .slice none 0 0, vI 0, .slice none 0 0, vI 0, .slice none 0 0, .slice none 0 0, vI 0, vI 0, vI 0, vI 0, vI 0, vI 4, vI 2, vI 3, vI 1, vI 0, vI 0, vI 0, vI 0, vI 0, vI 0, .slice none 0 0, vI 0, vU 892 0 1, vI 0, .slice none 0 0, .slice none 0 0, vI 0, vI 0, vI 0, vI 0, vI 0, vI 8, vI 2, vI 3, vI 1, vI 0, vI 8589934593, vI 0, vI 0, vI 0, vI 0, .slice none 0 0, vI 0, .slice none 0 0, vI 0, .slice none 0 0, .slice none 0 0, vI 0, vI 0, vI 0, vI 0, vI 0] 55
def We20 : Ent := ⟨17, [vP 81 0, vI 17], 880, [(77, Wq22), (80, Wq16), (81, Wq27), (149, Wq11), (176, Wq18), (299, Wq30)], vU 909 0 3, [(80, some Wq16), (892, some Wq18), (909, some Wq49)], 910, [80], true⟩
-- COST 1109
theorem We20_k : chk smW [] We20 = true := by kernel_rfl
theorem We20_c : EO We20 := eo (l := []) smW_ok trivial We20_k
def Wq50 : AO := oR [vI 1, vI 2, vI 0, vI 1, vI 0, vI 0, vI 0, vI 0, vI 0, vI 0, .slice none 0 0, vI 0, .slice none 0 0, vI 0, .slice none 0 0, .slice none 0 0, vI 0, vI 0, vI 0, vI 0, vI 0, vI 4, vI 2, vI 3, vI 1, vI 0, vI 0, vI 0, vI 0, vI 0, vI 0, .slice none 0 0, vI 0, vU 925 0 1, vI 0, .slice none 0 0, .slice none 0 0, vI 0, vI 0, vI 0, vI 0, vI 0, vI 8, vI 2, vI 3, vI 1, vI 0, vI 8589934593, vI 0, vI 0, vI 0, vI 0, .slice none 0 0, vI 0, .slice none 0 0, vI 0, .slice none 0 0, .slice none 0 0, vI 0, vI 0, vI 0, vI 0, vI 0] 55
def We21 : Ent := ⟨17, [vP 81 0, vI 18], 913, [(77, Wq22), (80, Wq16), (81, Wq27), (149, Wq11), (176, Wq18), (299, Wq30)], vU 942 0 3, [(80, some Wq16), (925, some Wq18), (942, some Wq50)], 943, [80], true⟩
-- COST 1109
theorem We21_k : chk smW [] We21 = true := by kernel_rfl
theorem We21_c : EO We21 := eo (l := []) smW_ok trivial We21_k
def Wq51 : AO := oR [vI 1, vI 2, vI 0, vI 1, vI 0, vI 0, vI 0, vI 0, vI 0, vI 0, .slice none 0 0, vI 0, .slice none 0 0, vI 0, .slice none 0 0, .slice none 0 0, vI 0, vI 0, vI 0, vI 0, vI 0, vI 4, vI 2, vI 3, vI 1, vI 0, vI 0, vI 0, vI 0, vI 0, vI 0, .slice none 0 0, vI 0, vU 958 0 1, vI 0, .slice none 0 0, .slice none 0 0, vI 0, vI 0, vI 0, vI 0, vI 0, vI 8, vI 2, vI 3, vI 1, vI 0, vI 8589934593, vI 0, vI 0, vI 0, vI 0, .slice none 0 0, vI 0, .slice none 0 0, vI 0, .slice none 0 0, .slice none 0 0, vI 0, vI 0, vI 0, vI 0, vI 0] 55
def We22 : Ent := ⟨17, [vP 81 0, vI 19], 946, [(77, Wq22), (80, Wq16), (81, Wq27), (149, Wq11), (176, Wq18), (299, Wq30)], vU 975 0 3, [(80, some Wq16), (958, some Wq18), (975, some Wq51)], 976, [80], true⟩
-- COST 1109
theorem We22_k : chk smW [] We22 = true := by kernel_rfl
theorem We22_c : EO We22 := eo (l := []) smW_ok trivial We22_k
def Wq52 : AO := oR [vI 1, vI 2, vI 0, vI 1, vI 0, vI 0, vI 0, vI 0, vI 0, vI 0, .slice none 0 0, vI 0, .slice none 0 0, vI 0, .slice none 0 0, .slice none 0 0, vI 0, vI 0, vI 0, vI 0, vI 0, vI 4, vI 2, vI 3, vI 1, vI 0, vI 0, vI 0, vI 0, vI 0, vI 0, .slice none 0 0, vI 0, vU 991 0 1, vI 0, .slice none 0 0, .slice none 0 0, vI 0, vI 0, vI 0, vI 0, vI 0, vI 8, vI 2, vI 3, vI 1, vI 0, vI 8589934593, vI 0, vI 0, vI 0, vI 0, .slice none 0 0, vI 0, .slice none 0 0, vI 0, .slice none 0 0, .slice none 0 0, vI 0, vI 0, vI 0, vI 0, vI 0] 55
def We23 : Ent := ⟨17, [vP 81 0, vI 20], 979, [(77, Wq22), (80, Wq16), (81, Wq27), (149, Wq11), (176, Wq18), (299, Wq30)], vU 1008 0 3, [(80, some Wq16), (991, some Wq18), (1008, some Wq52)], 1009, [80], true⟩
-- COST 1109
theorem We23_k : chk smW [] We23 = true := by kernel_rfl
theorem We23_c : EO We23 := eo (l := []) smW_ok trivial We23_k
def Wq53 : AO := oR [vI 1, vI 2, vI 0, vI 1, vI 0, vI 0, vI 0, vI 0, vI 0, vI 0, .slice none 0 0, vI 0, .slice none 0 0, vI 0, .slice none 0 0, .slice none 0 0, vI 0, vI 0, vI 0, vI 0, vI 0, vI 4, vI 2, vI 3, vI 1, vI 0, vI 0, vI 0, vI 0, vI 0, vI 0, .slice none 0 0, vI 0, vU 1024 0 1, vI 0, .slice none 0 0, .slice none 0 0, vI 0, vI 0, vI 0, vI 0, vI 0, vI 8, vI 2, vI 3, vI 1, vI 0, vI 8589934593, vI 0, vI 0, vI 0, vI 0, .slice none 0 0, vI 0, .slice none 0 0, vI 0, .slice none 0 0, .slice none 0 0, vI 0, vI 0, vI 0, vI 0, vI 0] 55
def We24 : Ent := ⟨17, [vP 81 0, vI 21], 1012, [(77, Wq22), (80, Wq16), (81, Wq27), (149, Wq11), (176, Wq18), (299, Wq30)], vU 1041 0 3, [(80, some Wq16), (1024, some Wq18), (1041, some Wq53)], 1042, [80], true⟩
-- COST 1109
theorem We24_k : chk smW [] We24 = true := by kernel_rfl
theorem We24_c : EO We24 := eo (l := []) smW_ok trivial We24_k
def Wq54 : AO := oR [vI 1, vI 2, vI 0, vI 1, vI 0, vI 0, vI 0, vI 0, vI 0, vI 0, .slice none 0 0, vI 0, .slice none 0 0, vI 0, .slice none 0 0, .slice none 0 0, vI 0, vI 0, vI 0, vI 0, vI 0, vI 4, vI 2, vI 3, vI 1, vI 0, vI 0, vI 0, vI 0, vI 0, vI 0, .slice none 0 0, vI 0, vU 1057 0 1, vI 0, .slice none 0 0, .slice none 0 0, vI 0, vI 0, vI 0, vI 0, vI 0, vI 8, vI 2, vI 3, vI 1, vI 0, vI 8589934593, vI 0, vI 0, vI 0, vI 0, .slice none 0 0, vI 0, .slice none 0 0, vI 0, .slice none 0 0, .slice none 0 0, vI 0, vI 0, vI 0, vI 0, vI 0] 55
def We25 : Ent := ⟨17, [vP 81 0, vI 22], 1045, [(77, Wq22), (80, Wq16), (81, Wq27), (149, Wq11), (176, Wq18), (299, Wq30)], vU 1074 0 3, [(80, some Wq16), (1057, some Wq18), (1074, some Wq54)], 1075, [80], true⟩
-- COST 1109
theorem We25_k : chk smW [] We25 = true := by kernel_rfl
theorem We25_c : EO We25 := eo (l := []) smW_ok trivial We25_k
def Wq55 : AO := oR [vI 1, vI 2, vI 0, vI 1, vI 0, vI 0, vI 0, vI 0, vI 0, vI 0, .slice none 0 0, vI 0, .slice none 0 0, vI 0, .slice none 0 0, .slice none 0 0, vI 0, vI 0, vI 0, vI 0, vI 0, vI 4, vI 2, vI 3, vI 1, vI 0, vI 0, vI 0, vI 0, vI 0, vI 0, .slice none 0 0, vI 0, vU 1090 0 1, vI 0, .slice none 0 0, .slice none 0 0, vI 0, vI 0, vI 0, vI 0, vI 0, vI 8, vI 2, vI 3, vI 1, vI 0, vI 8589934593, vI 0, vI 0, vI 0, vI 0, .slice none 0 0, vI 0, .slice none 0 0, vI 0, .slice none 0 0, .slice none 0 0, vI 0, vI 0, vI 0, vI 0, vI 0] 55
def We26 : Ent := ⟨17, [vP 81 0, vI 23], 1078, [(77, Wq22), (80, Wq16), (81, Wq27), (149, Wq11), (176, Wq18), (299, Wq30)], vU 1107 0 3, [(80, some Wq16), (1090, some Wq18), (1107, some Wq55)], 1108, [80], true⟩
-- COST 1109
theorem We26_k : chk smW [] We26 = true := by kernel_rfl
theorem We26_c : EO We26 := eo (l := []) smW_ok trivial We26_k
def Wq56 : AO := oR [vI 1, vI 2, vI 0, vI 1, vI 0, vI 0, vI 0, vI 0, vI 0, vI 0, .slice none 0 0, vI 0, .slice none 0 0, vI 0, .slice none 0 0, .slice none 0 0, vI 0, vI 0, vI 0, vI 0, vI 0, vI 4, vI 2, vI 3, vI 1, vI 0, vI 0, vI 0, vI 0, vI 0, vI 0, .slice none 0 0, vI 0, vU 1123 0 1, vI 0, .slice none 0 0, .slice none 0 0, vI 0, vI 0, vI 0, vI 0, vI 0, vI 8, vI 2, vI 3, vI 1, vI 0, vI 8589934593, vI 0, vI 0, vI 0, vI 0, .slice none 0 0, vI 0, .slice none 0 0, vI 0, .slice none 0 0, .slice none 0 0, vI 0, vI 0, vI 0, vI 0, vI 0] 55
def We27 : Ent := ⟨17, [vP 81 0, vI 24], 1111, [(77, Wq22), (80, Wq16), (81, Wq27), (149, Wq11), (176, Wq18), (299, Wq30)], vU 1140 0 3, [(80, some Wq16), (1123, some Wq18), (1140, some Wq56)], 1141, [80], true⟩
-- COST 1109
theorem We27_k : chk smW [] We27 = true := by kernel_rfl
theorem We27_c : EO We27 := eo (l := []) smW_ok trivial We27_k
def Wq57 : AO := oR [vI 1, vI 2, vI 0, vI 1, vI 0, vI 0, vI 0, vI 0, vI 0, vI 0, .slice none 0 0, vI 0, .slice none 0 0, vI 0, .slice none 0 0, .slice none 0 0, vI 0, vI 0, vI 0, vI 0, vI 0, vI 4, vI 2, vI 3, vI 1, vI 0, vI 0, vI 0, vI 0, vI 0, vI 0, .slice none 0 0, vI 0, vU 1156 0 1, vI 0, .slice none 0 0, .slice none 0 0, vI 0, vI 0, vI 0, vI 0, vI 0, vI 8, vI 2, vI 3, vI 1, vI 0, vI 8589934593, vI 0, vI 0, vI 0, vI 0, .slice none 0 0, vI 0, .slice none 0 0, vI 0, .slice none 0 0, .slice none 0 0, vI 0, vI 0, vI 0, vI 0, vI 0] 55
def We28 : Ent := ⟨17, [vP 81 0, vI 25], 1144, [(77, Wq22), (80, Wq16), (81, Wq27), (149, Wq11), (176, Wq18), (299, Wq30)], vU 1173 0 3, [(80, some Wq16), (1156, some Wq18), (1173, some Wq57)], 1174, [80], true⟩
-- COST 1109
theorem We28_k : chk smW [] We28 = true := by kernel_rfl
theorem We28_c : EO We28 := eo (l := []) smW_ok trivial We28_k
end
end Go.Proofs.YtdegbhgoldglaaaGreatDoor
