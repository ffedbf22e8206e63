/-
  A closed run, cut into calls that are run by themselves. No condition.
-/
import Derived.Test.YtikedhemjoljpaaGreatDoorEA
import Derived.Test.YtikedhemjoljpaaGreatDoorEB
import Derived.Test.YtikedhemjoljpaaGreatDoorEC
import Derived.Test.YtikedhemjoljpaaGreatDoorED
import Derived.Test.YtikedhemjoljpaaGreatDoorEG
import Derived.Test.YtikedhemjoljpaaGreatDoorEJ
import Derived.Test.YtikedhemjoljpaaGreatDoorEK
import Derived.Test.YtikedhemjoljpaaGreatDoorEL
import Derived.Test.YtikedhemjoljpaaGreatDoorEM
import Derived.Test.YtikedhemjoljpaaGreatDoorEM0
import Derived.Test.YtikedhemjoljpaaGreatDoorEM1
import Derived.Test.YtikedhemjoljpaaGreatDoorEN
namespace Go.Proofs.YtikedhemjoljpaaGreatDoor
noncomputable section
open Go Go.Eng
set_option maxRecDepth 1000000
noncomputable def smO := (sumT 69 (sumT 186 (sumT 185 (sumT 344 (sumT 454 (sumT 445 (sumT 507 (sumT 444 (sumT 506 (sumT 519 (sumI sum0)))))))))))
theorem smO_ok : SumOK smO := (env_more (env_more (env_more (env_more (env_more (env_more (env_more (env_more (env_more (env_more (env_idx env0) A_truer) C_truer) D_truer) B_truer) G_truer) K_truer) L_truer) J_truer) M_truer) N_truer)
def Oq0 : AO := .row [.int .u64 1, .int .u64 10, .int .u64 100, .int .u64 1000, .int .u64 10000, .int .u64 100000, .int .u64 1000000, .int .u64 10000000, .int .u64 100000000, .int .u64 1000000000, .int .u64 10000000000, .int .u64 100000000000, .int .u64 1000000000000, .int .u64 10000000000000, .int .u64 100000000000000, .int .u64 1000000000000000, .int .u64 10000000000000000, .int .u64 100000000000000000, .int .u64 1000000000000000000, .int .u64 10000000000000000000] 0 true
def Oq1 : AO := .row [.tuple #[.chan (some 4), vI 0]] 0 true
def Oq2 : AO := .row [.tuple #[.chan (some 3), .bool false]] 0 true
def Oq3 : AO := oR [vU 1353 0 1] 89
def Oq4 : AO := .mp [(vI 1, vP 140 0), (vI 2, vP 161 0), (vI 3, vP 182 0)] (some ([0, 1, 2], 3))
def Oq5 : AO := oR [vP 10 0, vU 32 0 4, vI 1, vU 34 0 3, vI 0, vP 49 0, .map (some 11), vI 1] 93
def Oq6 : AO := .mp [(vB 3 0x4c4f47, .agg #[vB 11 0x3030303030303031303a2c, vI 11, .bool true])] (some ([0], 1))
def Oq7 : AO := oR [vI 1048565, .map (some 29)] 157
def Oq8 : AO := oR [vP 30 0, v0, .slice (some ⟨177, 1, some 0⟩) 0 9223372036854775808, .bool false] 223
def Oq9 : AO := oR [vP 168 0, vI 0, .slice none 0 0, .slice none 0 0, vI 0, vI 0, vI 0, vI 0, vI 0, .slice none 0 0, vI 0, vI 0, .bool false] 174
def Oq10 : AO := oR [vI 3, vP 178 0, vI 0, .slice none 0 0, vI 0, vI 0, .slice none 0 0] 170
def Oq11 : AO := oR [vI 3, vP 30 0, vP 181 0, vN, vN, vN, vN, vN, vN, vN, vN, vI 1] 134
def Oq12 : AO := oR [vB 118 0x65386562643637633130353a313a3223313a3023313a3323313a3023313a3023313a3023313a3723313a3023313a3023313a3123313a302331323a313a3123313a3223313a33235d303a5d33383a33343a313a3023303a5d303a5d32303a313a3023313a3023313a3023313a3023313a30235d5d2c5d, v0] 9
def Oq13 : AO := oR [vU 1638 0 0] 89
def Oq14 : AO := .mp [(vB 3 0x4c4f47, .agg #[vB 34 0x3030303030303031303a2c303933316233306631313a383a313a3323313a31235d2c, vI 34, .bool true])] (some ([0], 1))
def Oq15 : AO := oR [vI 1048542, .map (some 29)] 157
def Oq16 : AO := oR [vP 30 0, v0, vU 1673 0 1, .bool false] 223
def Oq17 : AO := oR [vP 168 0, vI 0, .slice none 0 0, .slice none 0 0, vI 0, vI 0, vI 0, vI 0, vI 0, .slice none 0 0, vI 1, vI 0, .bool false] 174
def Oq18 : AO := oR [vI 3, vP 178 0, vI 1, vU 1678 0 3, vI 0, vI 7, .slice none 0 0] 170
def Oq19 : AO := oR [vB 11 0x383a313a3323313a31235d] 9
def Oq20 : AO := oR [vI 1, vI 2, vI 3] 3
def Oe119 : Ent := ⟨18, [vP 12 0, vI 0, .bool false], 1397, [(1, Oq0), (2, Oq1), (5, Oq2), (6, Oq2), (10, Oq3), (11, Oq4), (12, Oq5), (29, Oq6), (30, Oq7), (168, Oq8), (177, (oR [v0] 9)), (178, Oq9), (181, Oq10), (182, Oq11), (1353, Oq12)], vI 0, [(10, some Oq13), (29, some Oq14), (30, some Oq15), (168, some Oq16), (177, none), (178, some Oq17), (181, some Oq18), (1638, some (oR [v0] 9)), (1673, some Oq19), (1678, some Oq20)], 1685, [10, 29, 30, 168, 177, 178, 181], true⟩
-- COST 6379
theorem Oe119_k : chk smO [Me55, Me68, Me114, Me113, Me112, Me111, Me110, Me109, Me108, Me107, Me17, Me8, Me39, Me115, Me118, Me117, Me116, Me46, Me56, Me106, Me13, Me48, Me104, Me50, Me47, Me1, Me103, Me31, Me4, Me15, Me71, Me24] Oe119 = true := by kernel_rfl
theorem Oe119_c : EO Oe119 := eo (l := [Me55, Me68, Me114, Me113, Me112, Me111, Me110, Me109, Me108, Me107, Me17, Me8, Me39, Me115, Me118, Me117, Me116, Me46, Me56, Me106, Me13, Me48, Me104, Me50, Me47, Me1, Me103, Me31, Me4, Me15, Me71, Me24]) smO_ok ⟨Me55_c, Me68_c, Me114_c, Me113_c, Me112_c, Me111_c, Me110_c, Me109_c, Me108_c, Me107_c, Me17_c, Me8_c, Me39_c, Me115_c, Me118_c, Me117_c, Me116_c, Me46_c, Me56_c, Me106_c, Me13_c, Me48_c, Me104_c, Me50_c, Me47_c, Me1_c, Me103_c, Me31_c, Me4_c, Me15_c, Me71_c, Me24_c, trivial⟩ Oe119_k
def Oq21 : AO := oR [vU 213 0 3] 89
def Oq22 : AO := oR [vI 1048565, .map (some 17)] 157
def Oq23 : AO := oR [vI 1048565, .map (some 23)] 157
def Oq24 : AO := oR [vP 39 0, vI 1, vU 121 0 3, vI 0, vI 0, .slice none 0 0, vI 0, vI 0, .map (some 122), vI 0, .bool false, .bool false] 121
def Oq25 : AO := .mp [(vI 1, vI 0), (vI 2, vI 0), (vI 3, vI 0)] (some ([0, 1, 2], 3))
def Oq26 : AO := oR [vP 18 0, v0, .slice (some ⟨135, 1, some 0⟩) 0 9223372036854775808, .bool false] 223
def Oq27 : AO := oR [vP 126 0, vI 0, .slice none 0 0, .slice none 0 0, vI 0, vI 0, vI 0, vI 0, vI 0, .slice none 0 0, vI 0, vI 0, .bool false] 174
def Oq28 : AO := oR [vI 1, vP 136 0, vI 0, .slice none 0 0, vI 0, vI 0, .slice none 0 0] 170
def Oq29 : AO := oR [vI 1, vP 18 0, vP 139 0, vN, vN, vN, vN, vN, vN, vN, vN, vI 1] 134
def Oq30 : AO := oR [vP 24 0, v0, .slice (some ⟨156, 1, some 0⟩) 0 9223372036854775808, .bool false] 223
def Oq31 : AO := oR [vP 147 0, vI 0, .slice none 0 0, .slice none 0 0, vI 0, vI 0, vI 0, vI 0, vI 0, .slice none 0 0, vI 0, vI 0, .bool false] 174
def Oq32 : AO := oR [vI 2, vP 157 0, vI 0, .slice none 0 0, vI 0, vI 0, .slice none 0 0] 170
def Oq33 : AO := oR [vI 2, vP 24 0, vP 160 0, vN, vN, vN, vN, vN, vN, vN, vN, vI 1] 134
def Oq34 : AO := oR [vB 104 0x626538366139346239323a313a3123313a3123313a3023313a3023313a3023313a3023313a3023313a3023313a3023313a3023313a3023303a5d303a5d33383a33343a313a3023303a5d303a5d32303a313a3023313a3023313a3023313a3023313a30235d5d2c5d, vB 104 0x323063376638333139323a313a3123313a3223313a3023313a3023313a3023313a3023313a3023313a3023313a3023313a3023313a3023303a5d303a5d33383a33343a313a3023303a5d303a5d32303a313a3023313a3023313a3023313a3023313a30235d5d2c5d, vB 104 0x383266393437323639323a313a3123313a3323313a3023313a3023313a3023313a3023313a3023313a3023313a3023313a3023313a3023303a5d303a5d33383a33343a313a3023303a5d303a5d32303a313a3023313a3023313a3023313a3023313a30235d5d2c5d] 9
def Oq35 : AO := oR [vI 1048542, .map (some 17)] 157
def Oq36 : AO := oR [vI 1048542, .map (some 23)] 157
def Oq37 : AO := oR [vP 39 0, vI 1, vU 121 0 3, vI 0, vI 0, .slice none 0 0, vI 0, vI 7, .map (some 122), vI 0, .bool false, .bool false] 121
def Oq38 : AO := .mp [(vI 1, vI 1), (vI 2, vI 1), (vI 3, vI 1)] (some ([0, 1, 2], 3))
def Oq39 : AO := oR [vP 18 0, v0, vU 1087 0 1, .bool false] 223
def Oq40 : AO := oR [vP 126 0, vI 0, .slice none 0 0, .slice none 0 0, vI 0, vI 0, vI 0, vI 0, vI 0, .slice none 0 0, vI 1, vI 0, .bool false] 174
def Oq41 : AO := oR [vI 1, vP 136 0, vI 1, vU 1092 0 3, vI 0, vI 7, .slice none 0 0] 170
def Oq42 : AO := oR [vP 24 0, v0, vU 1388 0 1, .bool false] 223
def Oq43 : AO := oR [vP 147 0, vI 0, .slice none 0 0, .slice none 0 0, vI 0, vI 0, vI 0, vI 0, vI 0, .slice none 0 0, vI 1, vI 0, .bool false] 174
def Oq44 : AO := oR [vI 2, vP 157 0, vI 1, vU 1393 0 3, vI 0, vI 7, .slice none 0 0] 170
def Oe120 : Ent := ⟨22, [vP 12 0, vI 1500], 214, [(1, Oq0), (2, Oq1), (5, Oq2), (6, Oq2), (10, Oq21), (11, Oq4), (12, Oq5), (17, Oq6), (18, Oq22), (23, Oq6), (24, Oq23), (29, Oq6), (30, Oq7), (49, Oq24), (121, Oq20), (122, Oq25), (126, Oq26), (135, (oR [v0] 9)), (136, Oq27), (139, Oq28), (140, Oq29), (147, Oq30), (156, (oR [v0] 9)), (157, Oq31), (160, Oq32), (161, Oq33), (168, Oq8), (177, (oR [v0] 9)), (178, Oq9), (181, Oq10), (182, Oq11), (213, Oq34)], .bool true, [(10, some Oq13), (17, some Oq14), (18, some Oq35), (23, some Oq14), (24, some Oq36), (29, some Oq14), (30, some Oq15), (49, some Oq37), (122, some Oq38), (126, some Oq39), (135, none), (136, some Oq40), (139, some Oq41), (147, some Oq42), (156, none), (157, some Oq43), (160, some Oq44), (168, some Oq16), (177, none), (178, some Oq17), (181, some Oq18), (1087, some Oq19), (1092, some Oq20), (1388, some Oq19), (1393, some Oq20), (1638, some (oR [v0] 9)), (1673, some Oq19), (1678, some Oq20)], 1685, [10, 17, 18, 23, 24, 29, 30, 49, 122, 126, 135, 136, 139, 147, 156, 157, 160, 168, 177, 178, 181], true⟩
-- COST 24417
theorem Oe120_k : chk smO [Oe119, Me101, Me55, Me68, Me67, Me66, Me65, Me64, Me63, Me62, Me61, Me60, Me59, Me58, Me7, Me46, Me56, Me105, Me13, Me48, Me104, Me50, Me47, Me103, Me1, Me4, Me15, Me31, Me69, Me102, Me39, Me106, Me114, Me113, Me112, Me111, Me110, Me109, Me108, Me107, Me17, Me8, Me115, Me118, Me117, Me116, Me71, Me24] Oe120 = true := by kernel_rfl
theorem Oe120_c : EO Oe120 := eo (l := [Oe119, Me101, Me55, Me68, Me67, Me66, Me65, Me64, Me63, Me62, Me61, Me60, Me59, Me58, Me7, Me46, Me56, Me105, Me13, Me48, Me104, Me50, Me47, Me103, Me1, Me4, Me15, Me31, Me69, Me102, Me39, Me106, Me114, Me113, Me112, Me111, Me110, Me109, Me108, Me107, Me17, Me8, Me115, Me118, Me117, Me116, Me71, Me24]) smO_ok ⟨Oe119_c, Me101_c, Me55_c, Me68_c, Me67_c, Me66_c, Me65_c, Me64_c, Me63_c, Me62_c, Me61_c, Me60_c, Me59_c, Me58_c, Me7_c, Me46_c, Me56_c, Me105_c, Me13_c, Me48_c, Me104_c, Me50_c, Me47_c, Me103_c, Me1_c, Me4_c, Me15_c, Me31_c, Me69_c, Me102_c, Me39_c, Me106_c, Me114_c, Me113_c, Me112_c, Me111_c, Me110_c, Me109_c, Me108_c, Me107_c, Me17_c, Me8_c, Me115_c, Me118_c, Me117_c, Me116_c, Me71_c, Me24_c, trivial⟩ Oe120_k
def Oq45 : AO := .mp [] (some ([], 0))
def Oq46 : AO := oR [vP 12 0, .map (some 186)] 115
def Oq47 : AO := oR [vU 2016 0 1] 89
def Oq48 : AO := .mp [(vB 3 0x4c4f47, .agg #[vB 34 0x3030303030303031303a2c303933316233306631313a383a313a3323313a31235d2c, vI 34, .bool true]), (vB 3 0x524551, .agg #[vB 1 0x2e, vI 1, .bool true])] (some ([0, 1], 2))
def Oq49 : AO := oR [vI 1048541, .map (some 29)] 157
def Oq50 : AO := oR [vI 3, vP 30 0, vP 181 0, vP 1754 0, vN, vN, vN, vN, vN, vN, vN, vI 2] 134
def Oq51 : AO := .mp [(.agg #[vI 1, vI 0], v0), (.agg #[vI 1, vI 1], v0), (.agg #[vI 1, vI 2], v0), (.agg #[vI 1, vI 3], v0), (.agg #[vI 1, vI 4], v0), (.agg #[vI 1, vI 5], v0), (.agg #[vI 1, vI 6], v0), (.agg #[vI 1, vI 7], v0), (.agg #[vI 2, vI 0], v0), (.agg #[vI 2, vI 1], v0), (.agg #[vI 2, vI 2], v0), (.agg #[vI 2, vI 3], v0), (.agg #[vI 2, vI 4], v0), (.agg #[vI 2, vI 5], v0), (.agg #[vI 2, vI 6], v0), (.agg #[vI 2, vI 7], v0), (.agg #[vI 3, vI 0], v0), (.agg #[vI 3, vI 1], v0), (.agg #[vI 3, vI 2], v0), (.agg #[vI 3, vI 3], v0), (.agg #[vI 3, vI 4], v0), (.agg #[vI 3, vI 5], v0), (.agg #[vI 3, vI 6], v0), (.agg #[vI 3, vI 7], v0), (.agg #[vI 4, vI 0], v0), (.agg #[vI 4, vI 1], v0), (.agg #[vI 4, vI 2], v0), (.agg #[vI 4, vI 3], v0), (.agg #[vI 4, vI 4], v0), (.agg #[vI 4, vI 5], v0), (.agg #[vI 4, vI 6], v0), (.agg #[vI 4, vI 7], v0), (.agg #[vI 5, vI 0], v0), (.agg #[vI 5, vI 1], v0), (.agg #[vI 5, vI 2], v0), (.agg #[vI 5, vI 3], v0), (.agg #[vI 5, vI 4], v0), (.agg #[vI 5, vI 5], v0), (.agg #[vI 5, vI 6], v0), (.agg #[vI 5, vI 7], v0)] (some ([0, 1, 2, 3, 4, 5, 6, 7, 8, 9, 10, 11, 12, 13, 14, 15, 16, 17, 18, 19, 20, 21, 22, 23, 24, 25, 26, 27, 28, 29, 30, 31, 32, 33, 34, 35, 36, 37, 38, 39], 40))
def Oq52 : AO := oR [vI 0, vI 0, vI 0, vI 0, .slice none 0 0, v0, v0, v0, .slice none 0 0, v0, vI 0, .slice none 0 0] 267
def Oq53 : AO := oR [vP 1752 0, .slice (some ⟨1811, 5, some 0⟩) 0 9223372036854775808, vI 2, vB 1 0x6b, vI 0, vB 1 0x76, vI 0, v0, v0, v0, vI 0, .bool false, .bool true, v0, .bool false] 207
def Oq54 : AO := oR [vP 1753 0, vI 12884901889, vI 1, vB 1 0x6b, vB 1 0x76, vI 0, vI 0, v0, vI 12884901889, vI 12884901889, .bool true, vI 1] 140
def Oq55 : AO := oR [vB 14 0x436f6e74656e742d4c656e677468, vB 1 0x31] 202
def Oq56 : AO := oR [vB 3 0x505554, vB 4 0x2f6f2f6b, v0, vU 1798 0 1, vB 1 0x76] 191
def Oq57 : AO := oR [vB 163 0x34393664353963363135303a313a3323313a3323313a3123313a3123313a3023313a3023313a3023313a3023313a3023313a3023313a3023303a5d35373a35333a313a3123313a6b2c313a762c313a3023313a3023303a2c31313a31323838343930313838392331313a3132383834393031383839235d5d33383a33343a313a3023303a5d303a5d32303a313a3023313a3023313a3023313a3023313a30235d5d2c5d] 9
def Oe124 : Ent := ⟨26, [vP 187 0, .agg #[vI 1, vI 3, vI 0, vI 0, vB 40 0x505554202f6f2f6b20485454502f312e310d0a436f6e74656e742d4c656e6774683a310d0a0d0a76]], 1750, [(1, Oq0), (2, Oq1), (5, Oq2), (6, Oq2), (10, Oq13), (11, Oq4), (12, Oq5), (29, Oq14), (30, Oq15), (140, Oq29), (161, Oq33), (181, Oq18), (182, Oq11), (186, Oq45), (187, Oq46), (1638, (oR [v0] 9)), (1678, Oq20)], vI 0, [(10, some Oq47), (29, some Oq48), (30, some Oq49), (181, some Oq18), (182, some Oq50), (186, some Oq51), (1638, none), (1752, some Oq52), (1753, some Oq53), (1754, some Oq54), (1798, some Oq55), (1811, some Oq56), (2016, some Oq57)], 2017, [10, 29, 30, 181, 182, 186, 1638], true⟩
-- COST 16573
theorem Oe124_k : chk smO [Me87, Me78, Me76, Me75, Me77, Me121, Me13, Me48, Me46, Me123, Me50, Me47, Me4, Me1, Me31, Me122, Me5, Me3, Me2] Oe124 = true := by kernel_rfl
theorem Oe124_c : EO Oe124 := eo (l := [Me87, Me78, Me76, Me75, Me77, Me121, Me13, Me48, Me46, Me123, Me50, Me47, Me4, Me1, Me31, Me122, Me5, Me3, Me2]) smO_ok ⟨Me87_c, Me78_c, Me76_c, Me75_c, Me77_c, Me121_c, Me13_c, Me48_c, Me46_c, Me123_c, Me50_c, Me47_c, Me4_c, Me1_c, Me31_c, Me122_c, Me5_c, Me3_c, Me2_c, trivial⟩ Oe124_k
def Oq58 : AO := oR [vP 187 0, vU 1749 0 1, vU 2035 0 1, vI 1, vI 0, .bool false, vI 0, vI 0, vI 0, vI 0, vI 0, vI 0, vI 0, vI 0, vI 0, vI 0, vI 0, vI 0, vI 0, vI 0, vI 0, vI 0, vI 0, vI 0, vI 0, vI 0, vI 0, vI 0, vI 0, vI 0, vI 0, vI 0, vI 0, vI 0, vI 0, vI 0, vI 0, vI 0, vI 0, vI 0, vI 0, vI 0, vI 0, vI 0, vI 0, vI 0, vI 0, vI 0, vI 0, vI 0, vI 0, vI 0, vI 0, vI 0] 76
def Oe125 : Ent := ⟨118, [vP 188 0, vI 2, vI 1], 2051, [(11, Oq4), (12, Oq5), (140, Oq29), (161, Oq33), (182, Oq50), (186, Oq51), (187, Oq46), (188, Oq58), (1753, Oq53), (1754, Oq54)], .tuple #[], [(186, some Oq51), (1753, some Oq53)], 2051, [186, 1753], false⟩
-- COST 2575
theorem Oe125_k : chk smO [] Oe125 = true := by kernel_rfl
theorem Oe125_c : EO Oe125 := eo (l := []) smO_ok trivial Oe125_k
def Oe126 : Ent := ⟨118, [vP 188 0, vI 2, vI 2], 2051, [(11, Oq4), (12, Oq5), (140, Oq29), (161, Oq33), (182, Oq50), (186, Oq51), (187, Oq46), (188, Oq58), (1753, Oq53), (1754, Oq54)], .tuple #[], [(186, some Oq51), (1753, some Oq53)], 2051, [186, 1753], false⟩
-- COST 2575
theorem Oe126_k : chk smO [] Oe126 = true := by kernel_rfl
theorem Oe126_c : EO Oe126 := eo (l := []) smO_ok trivial Oe126_k
def Oe127 : Ent := ⟨118, [vP 188 0, vI 2, vI 3], 2051, [(11, Oq4), (12, Oq5), (140, Oq29), (161, Oq33), (182, Oq50), (186, Oq51), (187, Oq46), (188, Oq58), (1753, Oq53), (1754, Oq54)], .tuple #[], [(186, some Oq51), (1753, some Oq53)], 2051, [186, 1753], false⟩
-- COST 2575
theorem Oe127_k : chk smO [] Oe127 = true := by kernel_rfl
theorem Oe127_c : EO Oe127 := eo (l := []) smO_ok trivial Oe127_k
def Oe128 : Ent := ⟨118, [vP 188 0, vI 2, vI 4], 2051, [(11, Oq4), (12, Oq5), (140, Oq29), (161, Oq33), (182, Oq50), (186, Oq51), (187, Oq46), (188, Oq58), (1753, Oq53), (1754, Oq54)], .tuple #[], [(186, some Oq51), (1753, some Oq53)], 2051, [186, 1753], false⟩
-- COST 2575
theorem Oe128_k : chk smO [] Oe128 = true := by kernel_rfl
theorem Oe128_c : EO Oe128 := eo (l := []) smO_ok trivial Oe128_k
def Oe129 : Ent := ⟨118, [vP 188 0, vI 2, vI 5], 2051, [(11, Oq4), (12, Oq5), (140, Oq29), (161, Oq33), (182, Oq50), (186, Oq51), (187, Oq46), (188, Oq58), (1753, Oq53), (1754, Oq54)], .tuple #[], [(186, some Oq51), (1753, some Oq53)], 2051, [186, 1753], false⟩
-- COST 2575
theorem Oe129_k : chk smO [] Oe129 = true := by kernel_rfl
theorem Oe129_c : EO Oe129 := eo (l := []) smO_ok trivial Oe129_k
def Oe130 : Ent := ⟨118, [vP 188 0, vI 2, vI 6], 2051, [(11, Oq4), (12, Oq5), (140, Oq29), (161, Oq33), (182, Oq50), (186, Oq51), (187, Oq46), (188, Oq58), (1753, Oq53), (1754, Oq54)], .tuple #[], [(186, some Oq51), (1753, some Oq53)], 2051, [186, 1753], false⟩
-- COST 2575
theorem Oe130_k : chk smO [] Oe130 = true := by kernel_rfl
theorem Oe130_c : EO Oe130 := eo (l := []) smO_ok trivial Oe130_k
def Oe131 : Ent := ⟨118, [vP 188 0, vI 2, vI 7], 2051, [(11, Oq4), (12, Oq5), (140, Oq29), (161, Oq33), (182, Oq50), (186, Oq51), (187, Oq46), (188, Oq58), (1753, Oq53), (1754, Oq54)], .tuple #[], [(186, some Oq51), (1753, some Oq53)], 2051, [186, 1753], false⟩
-- COST 2575
theorem Oe131_k : chk smO [] Oe131 = true := by kernel_rfl
theorem Oe131_c : EO Oe131 := eo (l := []) smO_ok trivial Oe131_k
def Oe132 : Ent := ⟨118, [vP 188 0, vI 3, vI 0], 2066, [(11, Oq4), (12, Oq5), (140, Oq29), (161, Oq33), (182, Oq50), (186, Oq51), (187, Oq46), (188, Oq58), (1753, Oq53), (1754, Oq54)], .tuple #[], [(186, some Oq51), (1753, some Oq53)], 2066, [186, 1753], false⟩
-- COST 2575
theorem Oe132_k : chk smO [] Oe132 = true := by kernel_rfl
theorem Oe132_c : EO Oe132 := eo (l := []) smO_ok trivial Oe132_k
def Oe133 : Ent := ⟨118, [vP 188 0, vI 3, vI 1], 2066, [(11, Oq4), (12, Oq5), (140, Oq29), (161, Oq33), (182, Oq50), (186, Oq51), (187, Oq46), (188, Oq58), (1753, Oq53), (1754, Oq54)], .tuple #[], [(186, some Oq51), (1753, some Oq53)], 2066, [186, 1753], false⟩
-- COST 2575
theorem Oe133_k : chk smO [] Oe133 = true := by kernel_rfl
theorem Oe133_c : EO Oe133 := eo (l := []) smO_ok trivial Oe133_k
def Oe134 : Ent := ⟨118, [vP 188 0, vI 3, vI 2], 2066, [(11, Oq4), (12, Oq5), (140, Oq29), (161, Oq33), (182, Oq50), (186, Oq51), (187, Oq46), (188, Oq58), (1753, Oq53), (1754, Oq54)], .tuple #[], [(186, some Oq51), (1753, some Oq53)], 2066, [186, 1753], false⟩
-- COST 2575
theorem Oe134_k : chk smO [] Oe134 = true := by kernel_rfl
theorem Oe134_c : EO Oe134 := eo (l := []) smO_ok trivial Oe134_k
def Oe135 : Ent := ⟨118, [vP 188 0, vI 3, vI 3], 2066, [(11, Oq4), (12, Oq5), (140, Oq29), (161, Oq33), (182, Oq50), (186, Oq51), (187, Oq46), (188, Oq58), (1753, Oq53), (1754, Oq54)], .tuple #[], [(186, some Oq51), (1753, some Oq53)], 2066, [186, 1753], false⟩
-- COST 2575
theorem Oe135_k : chk smO [] Oe135 = true := by kernel_rfl
theorem Oe135_c : EO Oe135 := eo (l := []) smO_ok trivial Oe135_k
def Oe136 : Ent := ⟨118, [vP 188 0, vI 3, vI 4], 2066, [(11, Oq4), (12, Oq5), (140, Oq29), (161, Oq33), (182, Oq50), (186, Oq51), (187, Oq46), (188, Oq58), (1753, Oq53), (1754, Oq54)], .tuple #[], [(186, some Oq51), (1753, some Oq53)], 2066, [186, 1753], false⟩
-- COST 2575
theorem Oe136_k : chk smO [] Oe136 = true := by kernel_rfl
theorem Oe136_c : EO Oe136 := eo (l := []) smO_ok trivial Oe136_k
def Oe137 : Ent := ⟨118, [vP 188 0, vI 3, vI 5], 2066, [(11, Oq4), (12, Oq5), (140, Oq29), (161, Oq33), (182, Oq50), (186, Oq51), (187, Oq46), (188, Oq58), (1753, Oq53), (1754, Oq54)], .tuple #[], [(186, some Oq51), (1753, some Oq53)], 2066, [186, 1753], false⟩
-- COST 2575
theorem Oe137_k : chk smO [] Oe137 = true := by kernel_rfl
theorem Oe137_c : EO Oe137 := eo (l := []) smO_ok trivial Oe137_k
def Oe138 : Ent := ⟨118, [vP 188 0, vI 3, vI 6], 2066, [(11, Oq4), (12, Oq5), (140, Oq29), (161, Oq33), (182, Oq50), (186, Oq51), (187, Oq46), (188, Oq58), (1753, Oq53), (1754, Oq54)], .tuple #[], [(186, some Oq51), (1753, some Oq53)], 2066, [186, 1753], false⟩
-- COST 2575
theorem Oe138_k : chk smO [] Oe138 = true := by kernel_rfl
theorem Oe138_c : EO Oe138 := eo (l := []) smO_ok trivial Oe138_k
def Oe139 : Ent := ⟨118, [vP 188 0, vI 3, vI 7], 2066, [(11, Oq4), (12, Oq5), (140, Oq29), (161, Oq33), (182, Oq50), (186, Oq51), (187, Oq46), (188, Oq58), (1753, Oq53), (1754, Oq54)], .tuple #[], [(186, some Oq51), (1753, some Oq53)], 2066, [186, 1753], false⟩
-- COST 2575
theorem Oe139_k : chk smO [] Oe139 = true := by kernel_rfl
theorem Oe139_c : EO Oe139 := eo (l := []) smO_ok trivial Oe139_k
def Oq59 : AO := oR [vP 187 0, vU 1749 0 1, .slice none 0 0, vI 0, vI 0, .bool false, vI 0, vI 0, vI 0, vI 0, vI 0, vI 0, vI 0, vI 0, vI 0, vI 0, vI 0, vI 0, vI 0, vI 0, vI 0, vI 0, vI 0, vI 0, vI 0, vI 0, vI 0, vI 0, vI 0, vI 0, vI 0, vI 0, vI 0, vI 0, vI 0, vI 0, vI 0, vI 0, vI 0, vI 0, vI 0, vI 0, vI 0, vI 0, vI 0, vI 0, vI 0, vI 0, vI 0, vI 0, vI 0, vI 0, vI 0, vI 0] 76
def Oq60 : AO := oR [vI 0, .slice none 0 0, .slice none 0 0, vI 0, vI 0, vI 0, vI 0, vI 0] 60
def Oe140 : Ent := ⟨68, [vP 188 0], 2017, [(11, Oq4), (12, Oq5), (49, Oq37), (121, Oq20), (136, Oq40), (139, Oq41), (140, Oq29), (157, Oq43), (160, Oq44), (161, Oq33), (178, Oq17), (181, Oq18), (182, Oq50), (186, Oq51), (187, Oq46), (188, Oq59), (1092, Oq20), (1393, Oq20), (1678, Oq20), (1753, Oq53), (1754, Oq54)], .tuple #[], [(186, some Oq51), (188, some Oq58), (1753, some Oq53), (2035, some Oq60)], 2066, [186, 188, 1753], true⟩
-- COST 24685
theorem Oe140_k : chk smO [Oe139, Oe138, Oe137, Oe136, Oe135, Oe134, Oe133, Oe132, Oe131, Oe130, Oe129, Oe128, Oe127, Oe126, Oe125] Oe140 = true := by kernel_rfl
theorem Oe140_c : EO Oe140 := eo (l := [Oe139, Oe138, Oe137, Oe136, Oe135, Oe134, Oe133, Oe132, Oe131, Oe130, Oe129, Oe128, Oe127, Oe126, Oe125]) smO_ok ⟨Oe139_c, Oe138_c, Oe137_c, Oe136_c, Oe135_c, Oe134_c, Oe133_c, Oe132_c, Oe131_c, Oe130_c, Oe129_c, Oe128_c, Oe127_c, Oe126_c, Oe125_c, trivial⟩ Oe140_k
def Oq61 : AO := oR [vU 2709 0 1] 89
def Oq62 : AO := .mp [(vB 3 0x4c4f47, .agg #[vB 111 0x3030303030303031303a2c303933316233306631313a383a313a3323313a31235d2c346435363638333036353a36313a313a312335333a313a3123313a6b2c313a762c313a3023313a3023303a2c31313a31323838343930313838392331313a3132383834393031383839235d5d2c, vI 111, .bool true])] (some ([0], 1))
def Oq63 : AO := oR [vI 1048465, .map (some 17)] 157
def Oq64 : AO := oR [vP 18 0, v0, vU 2525 0 2, .bool false] 223
def Oq65 : AO := oR [vP 126 0, vI 0, .slice none 0 0, .slice none 0 0, vI 0, vI 0, vI 0, vI 0, vI 0, vU 2459 0 1, vI 1, vI 0, .bool false] 174
def Oq66 : AO := oR [vI 1, vB 1 0x6b, vB 1 0x76, vI 0, vI 0, v0, vI 12884901889, vI 12884901889] 138
def Oq67 : AO := oR [vB 11 0x383a313a3323313a31235d, vB 65 0x36313a313a312335333a313a3123313a6b2c313a762c313a3023313a3023303a2c31313a31323838343930313838392331313a3132383834393031383839235d5d] 9
def Oq68 : AO := oR [vB 163 0x36313436356137623135303a313a3423313a3123313a3223313a3123313a3023313a3023313a3023313a3023313a3023313a3023313a3023303a5d35373a35333a313a3123313a6b2c313a762c313a3023313a3023303a2c31313a31323838343930313838392331313a3132383834393031383839235d5d33383a33343a313a3023303a5d303a5d32303a313a3023313a3023313a3023313a3023313a30235d5d2c5d] 9
def Oe157 : Ent := ⟨18, [vP 12 0, vI 0, .bool false], 2066, [(1, Oq0), (2, Oq1), (5, Oq2), (6, Oq2), (10, Oq47), (11, Oq4), (12, Oq5), (17, Oq14), (18, Oq35), (126, Oq39), (136, Oq40), (139, Oq41), (140, Oq29), (1087, Oq19), (1092, Oq20), (2016, Oq57)], vI 0, [(10, some Oq61), (17, some Oq62), (18, some Oq63), (126, some Oq64), (136, some Oq65), (139, some Oq41), (1087, none), (2459, some Oq66), (2525, some Oq67), (2709, some Oq68)], 2710, [10, 17, 18, 126, 136, 139, 1087], true⟩
-- COST 13017
theorem Oe157_k : chk smO [Me55, Me149, Me148, Me147, Me146, Me145, Me144, Me143, Me142, Me141, Me39, Me7, Me155, Me154, Me152, Me151, Me150, Me46, Me56, Me121, Me12, Me11, Me10, Me13, Me48, Me123, Me50, Me47, Me4, Me1, Me31, Me122, Me5, Me3, Me2, Me156, Me24, Me15, Me49] Oe157 = true := by kernel_rfl
theorem Oe157_c : EO Oe157 := eo (l := [Me55, Me149, Me148, Me147, Me146, Me145, Me144, Me143, Me142, Me141, Me39, Me7, Me155, Me154, Me152, Me151, Me150, Me46, Me56, Me121, Me12, Me11, Me10, Me13, Me48, Me123, Me50, Me47, Me4, Me1, Me31, Me122, Me5, Me3, Me2, Me156, Me24, Me15, Me49]) smO_ok ⟨Me55_c, Me149_c, Me148_c, Me147_c, Me146_c, Me145_c, Me144_c, Me143_c, Me142_c, Me141_c, Me39_c, Me7_c, Me155_c, Me154_c, Me152_c, Me151_c, Me150_c, Me46_c, Me56_c, Me121_c, Me12_c, Me11_c, Me10_c, Me13_c, Me48_c, Me123_c, Me50_c, Me47_c, Me4_c, Me1_c, Me31_c, Me122_c, Me5_c, Me3_c, Me2_c, Me156_c, Me24_c, Me15_c, Me49_c, trivial⟩ Oe157_k
def Oq69 : AO := oR [vU 3337 0 1] 89
def Oq70 : AO := oR [vI 1048465, .map (some 23)] 157
def Oq71 : AO := oR [vP 24 0, v0, vU 3162 0 2, .bool false] 223
def Oq72 : AO := oR [vP 147 0, vI 0, .slice none 0 0, .slice none 0 0, vI 0, vI 0, vI 0, vI 0, vI 0, vU 3096 0 1, vI 1, vI 0, .bool false] 174
def Oq73 : AO := oR [vB 163 0x36643831376436633135303a313a3423313a3223313a3323313a3123313a3023313a3023313a3023313a3023313a3023313a3023313a3023303a5d35373a35333a313a3123313a6b2c313a762c313a3023313a3023303a2c31313a31323838343930313838392331313a3132383834393031383839235d5d33383a33343a313a3023303a5d303a5d32303a313a3023313a3023313a3023313a3023313a30235d5d2c5d] 9
def Oe159 : Ent := ⟨18, [vP 12 0, vI 0, .bool false], 2710, [(1, Oq0), (2, Oq1), (5, Oq2), (6, Oq2), (10, Oq61), (11, Oq4), (12, Oq5), (23, Oq14), (24, Oq36), (147, Oq42), (157, Oq43), (160, Oq44), (161, Oq33), (1388, Oq19), (1393, Oq20), (2709, Oq68)], vI 0, [(10, some Oq69), (23, some Oq62), (24, some Oq70), (147, some Oq71), (157, some Oq72), (160, some Oq44), (1388, none), (3096, some Oq66), (3162, some Oq67), (3337, some Oq73)], 3338, [10, 23, 24, 147, 157, 160, 1388], true⟩
-- COST 12868
theorem Oe159_k : chk smO [Me55, Me149, Me148, Me147, Me146, Me145, Me144, Me143, Me142, Me141, Me53, Me7, Me17, Me155, Me154, Me152, Me151, Me150, Me46, Me56, Me121, Me12, Me11, Me10, Me13, Me48, Me123, Me50, Me47, Me4, Me15, Me1, Me49, Me122, Me5, Me3, Me2, Me156, Me24, Me158, Me31] Oe159 = true := by kernel_rfl
theorem Oe159_c : EO Oe159 := eo (l := [Me55, Me149, Me148, Me147, Me146, Me145, Me144, Me143, Me142, Me141, Me53, Me7, Me17, Me155, Me154, Me152, Me151, Me150, Me46, Me56, Me121, Me12, Me11, Me10, Me13, Me48, Me123, Me50, Me47, Me4, Me15, Me1, Me49, Me122, Me5, Me3, Me2, Me156, Me24, Me158, Me31]) smO_ok ⟨Me55_c, Me149_c, Me148_c, Me147_c, Me146_c, Me145_c, Me144_c, Me143_c, Me142_c, Me141_c, Me53_c, Me7_c, Me17_c, Me155_c, Me154_c, Me152_c, Me151_c, Me150_c, Me46_c, Me56_c, Me121_c, Me12_c, Me11_c, Me10_c, Me13_c, Me48_c, Me123_c, Me50_c, Me47_c, Me4_c, Me15_c, Me1_c, Me49_c, Me122_c, Me5_c, Me3_c, Me2_c, Me156_c, Me24_c, Me158_c, Me31_c, trivial⟩ Oe159_k
def Oq74 : AO := oR [vU 4100 0 0] 89
def Oq75 : AO := .mp [(vB 3 0x4c4f47, .agg #[vB 134 0x3030303030303031303a2c303933316233306631313a383a313a3323313a31235d2c346435363638333036353a36313a313a312335333a313a3123313a6b2c313a762c313a3023313a3023303a2c31313a31323838343930313838392331313a3132383834393031383839235d5d2c373036326332383731313a383a313a3223313a31235d2c, vI 111, .bool true])] (some ([0], 1))
def Oq76 : AO := oR [vI 1048442, .map (some 17)] 157
def Oq77 : AO := oR [vI 1048442, .map (some 23)] 157
def Oq78 : AO := .mp [(vB 3 0x4c4f47, .agg #[vB 134 0x3030303030303031303a2c303933316233306631313a383a313a3323313a31235d2c346435363638333036353a36313a313a312335333a313a3123313a6b2c313a762c313a3023313a3023303a2c31313a31323838343930313838392331313a3132383834393031383839235d5d2c373036326332383731313a383a313a3223313a31235d2c, vI 111, .bool true]), (vB 3 0x524551, .agg #[vB 1 0x2e, vI 1, .bool true])] (some ([0, 1], 2))
def Oq79 : AO := oR [vI 1048441, .map (some 29)] 157
def Oq80 : AO := oR [vP 18 0, v0, vU 4172 0 3, .bool false] 223
def Oq81 : AO := oR [vP 126 0, vI 1, vU 4141 0 1, vU 4144 0 1, vI 0, vI 0, vI 12884901889, vI 0, vI 0, .slice (some ⟨2459, 8, some 0⟩) 0 9223372036854775808, vI 1, vI 0, .bool false] 174
def Oq82 : AO := oR [vP 24 0, v0, vU 3980 0 3, .bool false] 223
def Oq83 : AO := oR [vP 147 0, vI 1, vU 3949 0 1, vU 3952 0 1, vI 0, vI 0, vI 12884901889, vI 0, vI 0, .slice (some ⟨3096, 8, some 0⟩) 0 9223372036854775808, vI 1, vI 0, .bool false] 174
def Oq84 : AO := oR [vP 30 0, v0, vU 3843 0 3, .bool false] 223
def Oq85 : AO := oR [vP 168 0, vI 1, vU 3812 0 1, vU 3815 0 1, vI 0, vI 0, vI 12884901889, vI 0, vI 0, .slice (some ⟨3708, 8, some 0⟩) 0 9223372036854775808, vI 1, vI 0, .bool false] 174
def Oq86 : AO := oR [vP 1752 0, .slice (some ⟨1811, 5, some 0⟩) 0 9223372036854775808, vI 0, v0, vI 0, v0, vI 0, v0, v0, v0, vI 0, .bool false, .bool false, vB 68 0x485454502f312e3120323030204f4b0d0a56657273696f6e3a20310d0a455461673a20223030373230303033220d0a436f6e74656e742d4c656e6774683a20300d0a0d0a, .bool false] 207
def Oq87 : AO := oR [vP 1753 0, vI 0, vI 0, v0, v0, vI 0, vI 0, v0, vI 0, vI 0, .bool true, vI 1] 140
def Oq88 : AO := oR [vI 1, .bool false, vB 1 0x76] 277
def Oq89 : AO := oR [vB 1 0x6b, vU 3810 0 1] 304
def Oq90 : AO := oR [vI 12884901889, vI 0, vI 1] 309
def Oq91 : AO := oR [vB 11 0x383a313a3323313a31235d, vB 65 0x36313a313a312335333a313a3123313a6b2c313a762c313a3023313a3023303a2c31313a31323838343930313838392331313a3132383834393031383839235d5d, vB 11 0x383a313a3223313a31235d] 9
def Oq92 : AO := oR [vB 1 0x6b, vU 3947 0 1] 304
def Oq93 : AO := oR [vB 1 0x6b, vU 4139 0 1] 304
def Oe165 : Ent := ⟨22, [vP 12 0, vI 100], 2066, [(1, Oq0), (2, Oq1), (5, Oq2), (6, Oq2), (10, Oq47), (11, Oq4), (12, Oq5), (17, Oq14), (18, Oq35), (23, Oq14), (24, Oq36), (29, Oq48), (30, Oq49), (126, Oq39), (136, Oq40), (139, Oq41), (140, Oq29), (147, Oq42), (157, Oq43), (160, Oq44), (161, Oq33), (168, Oq16), (178, Oq17), (181, Oq18), (182, Oq50), (1087, Oq19), (1092, Oq20), (1388, Oq19), (1393, Oq20), (1673, Oq19), (1678, Oq20), (1752, Oq52), (1753, Oq53), (1754, Oq54), (2016, Oq57)], .bool true, [(10, some Oq74), (17, some Oq75), (18, some Oq76), (23, some Oq75), (24, some Oq77), (29, some Oq78), (30, some Oq79), (126, some Oq80), (136, some Oq81), (139, some Oq41), (147, some Oq82), (157, some Oq83), (160, some Oq44), (168, some Oq84), (178, some Oq85), (181, some Oq18), (1087, none), (1388, none), (1673, none), (1753, some Oq86), (1754, some Oq87), (2459, some Oq66), (3096, some Oq66), (3708, some Oq66), (3810, some Oq88), (3812, some Oq89), (3815, some Oq90), (3843, some Oq91), (3947, some Oq88), (3949, some Oq92), (3952, some Oq90), (3980, some Oq91), (4100, some (oR [v0] 9)), (4139, some Oq88), (4141, some Oq93), (4144, some Oq90), (4172, some Oq91)], 4185, [10, 17, 18, 23, 24, 29, 30, 126, 136, 139, 147, 157, 160, 168, 178, 181, 1087, 1388, 1673, 1753, 1754], true⟩
-- COST 18230
theorem Oe165_k : chk smO [Oe159, Oe157, Me55, Me149, Me148, Me147, Me146, Me145, Me144, Me143, Me142, Me141, Me53, Me17, Me39, Me155, Me154, Me152, Me151, Me150, Me46, Me56, Me121, Me12, Me11, Me10, Me158, Me13, Me48, Me123, Me50, Me47, Me4, Me1, Me31, Me15, Me49, Me122, Me5, Me3, Me2, Me156, Me24, Me35, Me90, Me94, Me92, Me82, Me161, Me162, Me160, Me164, Me68, Me67, Me66, Me65, Me64, Me63, Me62, Me61, Me7, Me163] Oe165 = true := by kernel_rfl
theorem Oe165_c : EO Oe165 := eo (l := [Oe159, Oe157, Me55, Me149, Me148, Me147, Me146, Me145, Me144, Me143, Me142, Me141, Me53, Me17, Me39, Me155, Me154, Me152, Me151, Me150, Me46, Me56, Me121, Me12, Me11, Me10, Me158, Me13, Me48, Me123, Me50, Me47, Me4, Me1, Me31, Me15, Me49, Me122, Me5, Me3, Me2, Me156, Me24, Me35, Me90, Me94, Me92, Me82, Me161, Me162, Me160, Me164, Me68, Me67, Me66, Me65, Me64, Me63, Me62, Me61, Me7, Me163]) smO_ok ⟨Oe159_c, Oe157_c, Me55_c, Me149_c, Me148_c, Me147_c, Me146_c, Me145_c, Me144_c, Me143_c, Me142_c, Me141_c, Me53_c, Me17_c, Me39_c, Me155_c, Me154_c, Me152_c, Me151_c, Me150_c, Me46_c, Me56_c, Me121_c, Me12_c, Me11_c, Me10_c, Me158_c, Me13_c, Me48_c, Me123_c, Me50_c, Me47_c, Me4_c, Me1_c, Me31_c, Me15_c, Me49_c, Me122_c, Me5_c, Me3_c, Me2_c, Me156_c, Me24_c, Me35_c, Me90_c, Me94_c, Me92_c, Me82_c, Me161_c, Me162_c, Me160_c, Me164_c, Me68_c, Me67_c, Me66_c, Me65_c, Me64_c, Me63_c, Me62_c, Me61_c, Me7_c, Me163_c, trivial⟩ Oe165_k
def Oq94 : AO := oR [vP 10 0, vU 32 0 4, vI 1, vU 34 0 3, vI 0, vP 49 0, .map (some 11), vI 2] 93
def Oq95 : AO := .mp [(.agg #[vI 1, vI 0], v0), (.agg #[vI 1, vI 1], v0), (.agg #[vI 1, vI 2], v0), (.agg #[vI 1, vI 3], v0), (.agg #[vI 1, vI 4], v0), (.agg #[vI 1, vI 5], v0), (.agg #[vI 1, vI 6], v0), (.agg #[vI 1, vI 7], v0), (.agg #[vI 2, vI 0], v0), (.agg #[vI 2, vI 1], v0), (.agg #[vI 2, vI 2], v0), (.agg #[vI 2, vI 3], v0), (.agg #[vI 2, vI 4], v0), (.agg #[vI 2, vI 5], v0), (.agg #[vI 2, vI 6], v0), (.agg #[vI 2, vI 7], v0), (.agg #[vI 3, vI 0], vB 68 0x485454502f312e3120323030204f4b0d0a56657273696f6e3a20310d0a455461673a20223030373230303033220d0a436f6e74656e742d4c656e6774683a20300d0a0d0a), (.agg #[vI 3, vI 1], v0), (.agg #[vI 3, vI 2], v0), (.agg #[vI 3, vI 3], v0), (.agg #[vI 3, vI 4], v0), (.agg #[vI 3, vI 5], v0), (.agg #[vI 3, vI 6], v0), (.agg #[vI 3, vI 7], v0), (.agg #[vI 4, vI 0], v0), (.agg #[vI 4, vI 1], v0), (.agg #[vI 4, vI 2], v0), (.agg #[vI 4, vI 3], v0), (.agg #[vI 4, vI 4], v0), (.agg #[vI 4, vI 5], v0), (.agg #[vI 4, vI 6], v0), (.agg #[vI 4, vI 7], v0), (.agg #[vI 5, vI 0], v0), (.agg #[vI 5, vI 1], v0), (.agg #[vI 5, vI 2], v0), (.agg #[vI 5, vI 3], v0), (.agg #[vI 5, vI 4], v0), (.agg #[vI 5, vI 5], v0), (.agg #[vI 5, vI 6], v0), (.agg #[vI 5, vI 7], v0)] (some ([0, 1, 2, 3, 4, 5, 6, 7, 8, 9, 10, 11, 12, 13, 14, 15, 16, 17, 18, 19, 20, 21, 22, 23, 24, 25, 26, 27, 28, 29, 30, 31, 32, 33, 34, 35, 36, 37, 38, 39], 40))
def Oq96 : AO := oR [vP 187 0, vU 1749 0 1, vU 4265 0 2, vI 1, vI 1, .bool false, vI 0, vI 0, vI 0, vI 0, vI 0, vI 0, vI 0, vI 0, vI 0, vI 0, vI 0, vI 0, vI 0, vI 0, vI 0, vI 0, vI 0, vI 0, vI 0, vI 0, vI 0, vI 0, vI 0, vI 0, vI 0, vI 0, vI 0, vI 0, vI 0, vI 0, vI 0, vI 0, vI 0, vI 0, vI 0, vI 0, vI 0, vI 0, vI 0, vI 0, vI 0, vI 0, vI 0, vI 0, vI 0, vI 0, vI 0, vI 0] 76
def Oq97 : AO := oR [vP 1752 0, .slice (some ⟨1811, 5, some 0⟩) 0 9223372036854775808, vI 0, v0, vI 0, v0, vI 0, v0, v0, v0, vI 0, .bool false, .bool false, v0, .bool false] 207
def Oe169 : Ent := ⟨118, [vP 188 0, vI 2, vI 1], 4289, [(11, Oq4), (12, Oq94), (140, Oq29), (161, Oq33), (182, Oq50), (186, Oq95), (187, Oq46), (188, Oq96), (1753, Oq97), (1754, Oq87)], .tuple #[], [(186, some Oq95), (1753, some Oq97)], 4289, [186, 1753], false⟩
-- COST 2575
theorem Oe169_k : chk smO [] Oe169 = true := by kernel_rfl
theorem Oe169_c : EO Oe169 := eo (l := []) smO_ok trivial Oe169_k
def Oe170 : Ent := ⟨118, [vP 188 0, vI 2, vI 2], 4289, [(11, Oq4), (12, Oq94), (140, Oq29), (161, Oq33), (182, Oq50), (186, Oq95), (187, Oq46), (188, Oq96), (1753, Oq97), (1754, Oq87)], .tuple #[], [(186, some Oq95), (1753, some Oq97)], 4289, [186, 1753], false⟩
-- COST 2575
theorem Oe170_k : chk smO [] Oe170 = true := by kernel_rfl
theorem Oe170_c : EO Oe170 := eo (l := []) smO_ok trivial Oe170_k
def Oe171 : Ent := ⟨118, [vP 188 0, vI 2, vI 3], 4289, [(11, Oq4), (12, Oq94), (140, Oq29), (161, Oq33), (182, Oq50), (186, Oq95), (187, Oq46), (188, Oq96), (1753, Oq97), (1754, Oq87)], .tuple #[], [(186, some Oq95), (1753, some Oq97)], 4289, [186, 1753], false⟩
-- COST 2575
theorem Oe171_k : chk smO [] Oe171 = true := by kernel_rfl
theorem Oe171_c : EO Oe171 := eo (l := []) smO_ok trivial Oe171_k
def Oe172 : Ent := ⟨118, [vP 188 0, vI 2, vI 4], 4289, [(11, Oq4), (12, Oq94), (140, Oq29), (161, Oq33), (182, Oq50), (186, Oq95), (187, Oq46), (188, Oq96), (1753, Oq97), (1754, Oq87)], .tuple #[], [(186, some Oq95), (1753, some Oq97)], 4289, [186, 1753], false⟩
-- COST 2575
theorem Oe172_k : chk smO [] Oe172 = true := by kernel_rfl
theorem Oe172_c : EO Oe172 := eo (l := []) smO_ok trivial Oe172_k
def Oe173 : Ent := ⟨118, [vP 188 0, vI 2, vI 5], 4289, [(11, Oq4), (12, Oq94), (140, Oq29), (161, Oq33), (182, Oq50), (186, Oq95), (187, Oq46), (188, Oq96), (1753, Oq97), (1754, Oq87)], .tuple #[], [(186, some Oq95), (1753, some Oq97)], 4289, [186, 1753], false⟩
-- COST 2575
theorem Oe173_k : chk smO [] Oe173 = true := by kernel_rfl
theorem Oe173_c : EO Oe173 := eo (l := []) smO_ok trivial Oe173_k
def Oe174 : Ent := ⟨118, [vP 188 0, vI 2, vI 6], 4289, [(11, Oq4), (12, Oq94), (140, Oq29), (161, Oq33), (182, Oq50), (186, Oq95), (187, Oq46), (188, Oq96), (1753, Oq97), (1754, Oq87)], .tuple #[], [(186, some Oq95), (1753, some Oq97)], 4289, [186, 1753], false⟩
-- COST 2575
theorem Oe174_k : chk smO [] Oe174 = true := by kernel_rfl
theorem Oe174_c : EO Oe174 := eo (l := []) smO_ok trivial Oe174_k
def Oe175 : Ent := ⟨118, [vP 188 0, vI 2, vI 7], 4289, [(11, Oq4), (12, Oq94), (140, Oq29), (161, Oq33), (182, Oq50), (186, Oq95), (187, Oq46), (188, Oq96), (1753, Oq97), (1754, Oq87)], .tuple #[], [(186, some Oq95), (1753, some Oq97)], 4289, [186, 1753], false⟩
-- COST 2575
theorem Oe175_k : chk smO [] Oe175 = true := by kernel_rfl
theorem Oe175_c : EO Oe175 := eo (l := []) smO_ok trivial Oe175_k
def Oq98 : AO := oR [vI 3, vI 0, vI 2, vB 1 0x6b, vI 0, vB 1 0x76, vI 0, v0, v0, v0, vI 0, .bool false, vI 0, vI (-1), vI 0, .slice none 0 0, v0] 86
def Oq99 : AO := oR [vP 187 0, vU 1749 0 1, vU 4265 0 2, vI 1, vI 1, .bool false, vI 0, vI 0, vI 0, vI 0, vI 0, vI 0, vI 0, vI 0, vI 0, vI 0, vI 0, vI 0, vI 0, vI 0, vI 0, vI 0, vI 0, vI 0, vI 0, vI 0, vI 0, vI 0, vI 0, vI 0, vI 68, vI 0, vI 0, vI 0, vI 0, vI 0, vI 0, vI 0, vI 0, vI 0, vI 0, vI 0, vI 0, vI 0, vI 0, vI 0, vI 0, vI 0, vI 0, vI 0, vI 0, vI 0, vI 0, vI 0] 76
def Oq100 : AO := oR [vI 3, vI 0, vI 2, vB 1 0x6b, vI 0, vB 1 0x76, vI 0, v0, v0, v0, vI 0, .bool false, vI 0, vI 1, vI 200, vU 4317 0 2, v0] 86
def Oq101 : AO := oR [vB 7 0x56657273696f6e, vB 1 0x31, vB 4 0x45546167, vB 10 0x22303037323030303322] 202
def Oe176 : Ent := ⟨118, [vP 188 0, vI 3, vI 0], 4312, [(1, Oq0), (11, Oq4), (12, Oq94), (140, Oq29), (161, Oq33), (182, Oq50), (186, Oq95), (187, Oq46), (188, Oq96), (1749, Oq98), (1753, Oq97), (1754, Oq87)], .tuple #[], [(186, some Oq95), (188, some Oq99), (1749, some Oq100), (1753, some Oq97), (4317, some Oq101)], 4320, [186, 188, 1749, 1753], true⟩
-- COST 4447
theorem Oe176_k : chk smO [Me82, Me91, Me96, Me93, Me97] Oe176 = true := by kernel_rfl
theorem Oe176_c : EO Oe176 := eo (l := [Me82, Me91, Me96, Me93, Me97]) smO_ok ⟨Me82_c, Me91_c, Me96_c, Me93_c, Me97_c, trivial⟩ Oe176_k
def Oe177 : Ent := ⟨118, [vP 188 0, vI 3, vI 1], 4320, [(11, Oq4), (12, Oq94), (140, Oq29), (161, Oq33), (182, Oq50), (186, Oq95), (187, Oq46), (188, Oq99), (1753, Oq97), (1754, Oq87)], .tuple #[], [(186, some Oq95), (1753, some Oq97)], 4320, [186, 1753], false⟩
-- COST 2575
theorem Oe177_k : chk smO [] Oe177 = true := by kernel_rfl
theorem Oe177_c : EO Oe177 := eo (l := []) smO_ok trivial Oe177_k
def Oe178 : Ent := ⟨118, [vP 188 0, vI 3, vI 2], 4320, [(11, Oq4), (12, Oq94), (140, Oq29), (161, Oq33), (182, Oq50), (186, Oq95), (187, Oq46), (188, Oq99), (1753, Oq97), (1754, Oq87)], .tuple #[], [(186, some Oq95), (1753, some Oq97)], 4320, [186, 1753], false⟩
-- COST 2575
theorem Oe178_k : chk smO [] Oe178 = true := by kernel_rfl
theorem Oe178_c : EO Oe178 := eo (l := []) smO_ok trivial Oe178_k
def Oe179 : Ent := ⟨118, [vP 188 0, vI 3, vI 3], 4320, [(11, Oq4), (12, Oq94), (140, Oq29), (161, Oq33), (182, Oq50), (186, Oq95), (187, Oq46), (188, Oq99), (1753, Oq97), (1754, Oq87)], .tuple #[], [(186, some Oq95), (1753, some Oq97)], 4320, [186, 1753], false⟩
-- COST 2575
theorem Oe179_k : chk smO [] Oe179 = true := by kernel_rfl
theorem Oe179_c : EO Oe179 := eo (l := []) smO_ok trivial Oe179_k
def Oe180 : Ent := ⟨118, [vP 188 0, vI 3, vI 4], 4320, [(11, Oq4), (12, Oq94), (140, Oq29), (161, Oq33), (182, Oq50), (186, Oq95), (187, Oq46), (188, Oq99), (1753, Oq97), (1754, Oq87)], .tuple #[], [(186, some Oq95), (1753, some Oq97)], 4320, [186, 1753], false⟩
-- COST 2575
theorem Oe180_k : chk smO [] Oe180 = true := by kernel_rfl
theorem Oe180_c : EO Oe180 := eo (l := []) smO_ok trivial Oe180_k
def Oe181 : Ent := ⟨118, [vP 188 0, vI 3, vI 5], 4320, [(11, Oq4), (12, Oq94), (140, Oq29), (161, Oq33), (182, Oq50), (186, Oq95), (187, Oq46), (188, Oq99), (1753, Oq97), (1754, Oq87)], .tuple #[], [(186, some Oq95), (1753, some Oq97)], 4320, [186, 1753], false⟩
-- COST 2575
theorem Oe181_k : chk smO [] Oe181 = true := by kernel_rfl
theorem Oe181_c : EO Oe181 := eo (l := []) smO_ok trivial Oe181_k
def Oe182 : Ent := ⟨118, [vP 188 0, vI 3, vI 6], 4320, [(11, Oq4), (12, Oq94), (140, Oq29), (161, Oq33), (182, Oq50), (186, Oq95), (187, Oq46), (188, Oq99), (1753, Oq97), (1754, Oq87)], .tuple #[], [(186, some Oq95), (1753, some Oq97)], 4320, [186, 1753], false⟩
-- COST 2575
theorem Oe182_k : chk smO [] Oe182 = true := by kernel_rfl
theorem Oe182_c : EO Oe182 := eo (l := []) smO_ok trivial Oe182_k
def Oe183 : Ent := ⟨118, [vP 188 0, vI 3, vI 7], 4320, [(11, Oq4), (12, Oq94), (140, Oq29), (161, Oq33), (182, Oq50), (186, Oq95), (187, Oq46), (188, Oq99), (1753, Oq97), (1754, Oq87)], .tuple #[], [(186, some Oq95), (1753, some Oq97)], 4320, [186, 1753], false⟩
-- COST 2575
theorem Oe183_k : chk smO [] Oe183 = true := by kernel_rfl
theorem Oe183_c : EO Oe183 := eo (l := []) smO_ok trivial Oe183_k
def Oq102 : AO := oR [vP 187 0, vU 1749 0 1, vU 2035 0 1, vI 1, vI 1, .bool false, vI 0, vI 0, vI 0, vI 0, vI 0, vI 0, vI 0, vI 0, vI 0, vI 0, vI 0, vI 0, vI 0, vI 0, vI 0, vI 0, vI 0, vI 0, vI 0, vI 0, vI 0, vI 0, vI 0, vI 0, vI 0, vI 0, vI 0, vI 0, vI 0, vI 0, vI 0, vI 0, vI 0, vI 0, vI 0, vI 0, vI 0, vI 0, vI 0, vI 0, vI 0, vI 0, vI 0, vI 0, vI 0, vI 0, vI 0, vI 0] 76
def Oq103 : AO := oR [vB 1 0x6b, vU 4262 0 1] 304
end
end Go.Proofs.YtikedhemjoljpaaGreatDoor
