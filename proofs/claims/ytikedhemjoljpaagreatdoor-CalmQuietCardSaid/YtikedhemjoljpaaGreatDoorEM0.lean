/-
  A closed run, cut into calls that are run by themselves. No condition.
-/
import Derived.Test.YtikedhemjoljpaaGreatDoorG2
namespace Go.Proofs.YtikedhemjoljpaaGreatDoor
noncomputable section
open Go Go.Eng
set_option maxRecDepth 1000000
noncomputable def smZ := (sumI sum0)
theorem smZ_ok : SumOK smZ := env_idx env0
def Me0 : Ent := ⟨143, [.agg #[vI 1, vB 1 0x6b, vB 1 0x76, vI 0, vI 0, v0, vI 4294967297, vI 0]], 10, [], .bool true, [], 11, [], false⟩
-- COST 140
theorem Me0_k : chk smZ [] Me0 = true := by kernel_rfl
theorem Me0_c : EO Me0 := eo (l := []) smZ_ok trivial Me0_k
def Me1 : Ent := ⟨252, [.agg #[vI 1, vI 1, v0, .slice none 0 0]], 10, [], vB 4 0x313a3123, [], 11, [], false⟩
-- COST 77
theorem Me1_k : chk smZ [] Me1 = true := by kernel_rfl
theorem Me1_c : EO Me1 := eo (l := []) smZ_ok trivial Me1_k
def Me2 : Ent := ⟨252, [.agg #[vI 2, vI 0, vB 1 0x6b, .slice none 0 0]], 10, [], vB 4 0x313a6b2c, [], 11, [], false⟩
-- COST 49
theorem Me2_k : chk smZ [] Me2 = true := by kernel_rfl
theorem Me2_c : EO Me2 := eo (l := []) smZ_ok trivial Me2_k
def Me3 : Ent := ⟨252, [.agg #[vI 2, vI 0, vB 1 0x76, .slice none 0 0]], 10, [], vB 4 0x313a762c, [], 11, [], false⟩
-- COST 49
theorem Me3_k : chk smZ [] Me3 = true := by kernel_rfl
theorem Me3_c : EO Me3 := eo (l := []) smZ_ok trivial Me3_k
def Me4 : Ent := ⟨252, [.agg #[vI 1, vI 0, v0, .slice none 0 0]], 10, [], vB 4 0x313a3023, [], 11, [], false⟩
-- COST 77
theorem Me4_k : chk smZ [] Me4 = true := by kernel_rfl
theorem Me4_c : EO Me4 := eo (l := []) smZ_ok trivial Me4_k
def Me5 : Ent := ⟨252, [.agg #[vI 2, vI 0, v0, .slice none 0 0]], 10, [], vB 3 0x303a2c, [], 11, [], false⟩
-- COST 49
theorem Me5_k : chk smZ [] Me5 = true := by kernel_rfl
theorem Me5_c : EO Me5 := eo (l := []) smZ_ok trivial Me5_k
def Mq0 : AO := .row [.int .u64 1, .int .u64 10, .int .u64 100, .int .u64 1000, .int .u64 10000, .int .u64 100000, .int .u64 1000000, .int .u64 10000000, .int .u64 100000000, .int .u64 1000000000, .int .u64 10000000000, .int .u64 100000000000, .int .u64 1000000000000, .int .u64 10000000000000, .int .u64 100000000000000, .int .u64 1000000000000000, .int .u64 10000000000000000, .int .u64 100000000000000000, .int .u64 1000000000000000000, .int .u64 10000000000000000000] 0 true
def Me6 : Ent := ⟨252, [.agg #[vI 1, vI 4294967297, v0, .slice none 0 0]], 10, [(1, Mq0)], vB 14 0x31303a3432393439363732393723, [], 12, [], false⟩
-- COST 262
theorem Me6_k : chk smZ [] Me6 = true := by kernel_rfl
theorem Me6_c : EO Me6 := eo (l := []) smZ_ok trivial Me6_k
def Me7 : Ent := ⟨313, [vB 1 0x31], 10, [], .tuple #[.agg #[vI 1, vI 1, v0, .slice none 0 0], vI 0], [], 12, [], false⟩
-- COST 217
theorem Me7_k : chk smZ [] Me7 = true := by kernel_rfl
theorem Me7_c : EO Me7 := eo (l := []) smZ_ok trivial Me7_k
def Me8 : Ent := ⟨313, [vB 1 0x30], 10, [], .tuple #[.agg #[vI 1, vI 0, v0, .slice none 0 0], vI 0], [], 12, [], false⟩
-- COST 217
theorem Me8_k : chk smZ [] Me8 = true := by kernel_rfl
theorem Me8_c : EO Me8 := eo (l := []) smZ_ok trivial Me8_k
def Me9 : Ent := ⟨313, [vB 10 0x34323934393637323937], 10, [(1, Mq0)], .tuple #[.agg #[vI 1, vI 4294967297, v0, .slice none 0 0], vI 0], [], 13, [], false⟩
-- COST 850
theorem Me9_k : chk smZ [] Me9 = true := by kernel_rfl
theorem Me9_c : EO Me9 := eo (l := []) smZ_ok trivial Me9_k
def Me10 : Ent := ⟨228, [.agg #[vI 2, vI 0, vB 1 0x6b, .slice none 0 0], .agg #[vI 2, vI 0, vB 1 0x6b, .slice none 0 0]], 10, [], .bool true, [], 12, [], false⟩
-- COST 41
theorem Me10_k : chk smZ [] Me10 = true := by kernel_rfl
theorem Me10_c : EO Me10 := eo (l := []) smZ_ok trivial Me10_k
def Me11 : Ent := ⟨228, [.agg #[vI 1, vI 0, v0, .slice none 0 0], .agg #[vI 1, vI 0, v0, .slice none 0 0]], 10, [], .bool true, [], 12, [], false⟩
-- COST 41
theorem Me11_k : chk smZ [] Me11 = true := by kernel_rfl
theorem Me11_c : EO Me11 := eo (l := []) smZ_ok trivial Me11_k
def Me12 : Ent := ⟨228, [.agg #[vI 2, vI 0, v0, .slice none 0 0], .agg #[vI 2, vI 0, v0, .slice none 0 0]], 10, [], .bool true, [], 12, [], false⟩
-- COST 41
theorem Me12_k : chk smZ [] Me12 = true := by kernel_rfl
theorem Me12_c : EO Me12 := eo (l := []) smZ_ok trivial Me12_k
def Me13 : Ent := ⟨167, [.agg #[vI 0, .slice none 0 0, .slice none 0 0, vI 0, vI 0, vI 0, vI 0, vI 0]], 10, [], .bool true, [], 11, [], false⟩
-- COST 117
theorem Me13_k : chk smZ [] Me13 = true := by kernel_rfl
theorem Me13_c : EO Me13 := eo (l := []) smZ_ok trivial Me13_k
def Me14 : Ent := ⟨143, [.agg #[vI 2, vB 1 0x6b, v0, vI 0, vI 0, v0, vI 4294967298, vI 0]], 10, [], .bool true, [], 11, [], false⟩
-- COST 114
theorem Me14_k : chk smZ [] Me14 = true := by kernel_rfl
theorem Me14_c : EO Me14 := eo (l := []) smZ_ok trivial Me14_k
def Me15 : Ent := ⟨252, [.agg #[vI 1, vI 2, v0, .slice none 0 0]], 10, [], vB 4 0x313a3223, [], 11, [], false⟩
-- COST 77
theorem Me15_k : chk smZ [] Me15 = true := by kernel_rfl
theorem Me15_c : EO Me15 := eo (l := []) smZ_ok trivial Me15_k
def Me16 : Ent := ⟨252, [.agg #[vI 1, vI 4294967298, v0, .slice none 0 0]], 10, [(1, Mq0)], vB 14 0x31303a3432393439363732393823, [], 12, [], false⟩
-- COST 262
theorem Me16_k : chk smZ [] Me16 = true := by kernel_rfl
theorem Me16_c : EO Me16 := eo (l := []) smZ_ok trivial Me16_k
def Me17 : Ent := ⟨313, [vB 1 0x32], 10, [], .tuple #[.agg #[vI 1, vI 2, v0, .slice none 0 0], vI 0], [], 12, [], false⟩
-- COST 217
theorem Me17_k : chk smZ [] Me17 = true := by kernel_rfl
theorem Me17_c : EO Me17 := eo (l := []) smZ_ok trivial Me17_k
def Me18 : Ent := ⟨313, [vB 10 0x34323934393637323938], 10, [(1, Mq0)], .tuple #[.agg #[vI 1, vI 4294967298, v0, .slice none 0 0], vI 0], [], 13, [], false⟩
-- COST 850
theorem Me18_k : chk smZ [] Me18 = true := by kernel_rfl
theorem Me18_c : EO Me18 := eo (l := []) smZ_ok trivial Me18_k
def Me19 : Ent := ⟨226, [vB 4 0x313a3023, vI 3], 10, [], .tuple #[.agg #[vI 1, vI 0, v0, .slice none 0 0], vI 4, vI 0], [], 12, [], false⟩
-- COST 128
theorem Me19_k : chk smZ [Me8] Me19 = true := by kernel_rfl
theorem Me19_c : EO Me19 := eo (l := [Me8]) smZ_ok ⟨Me8_c, trivial⟩ Me19_k
def Me21 : Ent := ⟨217, [vB 3 0x4f4c44], 10, [], .bool true, [], 11, [], false⟩
-- COST 87
theorem Me21_k : chk smZ [] Me21 = true := by kernel_rfl
theorem Me21_c : EO Me21 := eo (l := []) smZ_ok trivial Me21_k
def Me22 : Ent := ⟨227, [.agg #[vI 2, vI 0, v0, .slice none 0 0]], 10, [], .bool true, [], 12, [], false⟩
-- COST 45
theorem Me22_k : chk smZ [] Me22 = true := by kernel_rfl
theorem Me22_c : EO Me22 := eo (l := []) smZ_ok trivial Me22_k
def Mq1 : AO := .row [.tuple #[.chan (some 4), vI 0]] 0 true
def Mq2 : AO := .row [.tuple #[.chan (some 3), .bool false]] 0 true
def Me23 : Ent := ⟨149, [v0], 10, [(1, Mq0), (2, Mq1), (5, Mq2), (6, Mq2)], vB 11 0x3030303030303031303a2c, [], 28, [], false⟩
-- COST 286
theorem Me23_k : chk smZ [Me5, Me22] Me23 = true := by kernel_rfl
theorem Me23_c : EO Me23 := eo (l := [Me5, Me22]) smZ_ok ⟨Me5_c, Me22_c, trivial⟩ Me23_k
def Me24 : Ent := ⟨217, [vB 3 0x4c4f47], 10, [], .bool true, [], 11, [], false⟩
-- COST 87
theorem Me24_k : chk smZ [] Me24 = true := by kernel_rfl
theorem Me24_c : EO Me24 := eo (l := []) smZ_ok trivial Me24_k
def Me25 : Ent := ⟨207, [vB 8 0x3030303030303031], 10, [], .tuple #[.complex .f64 0 4607182418800017408, .bool true], [], 11, [], false⟩
-- COST 322
theorem Me25_k : chk smZ [] Me25 = true := by kernel_rfl
theorem Me25_c : EO Me25 := eo (l := []) smZ_ok trivial Me25_k
def Me26 : Ent := ⟨151, [vB 11 0x3030303030303031303a2c], 10, [(1, Mq0), (2, Mq1), (5, Mq2), (6, Mq2)], .tuple #[v0, vI 11, vI 0], [], 15, [], false⟩
-- COST 219
theorem Me26_k : chk smZ [Me23, Me25, Me22] Me26 = true := by kernel_rfl
theorem Me26_c : EO Me26 := eo (l := [Me23, Me25, Me22]) smZ_ok ⟨Me23_c, Me25_c, Me22_c, trivial⟩ Me26_k
def Me27 : Ent := ⟨149, [vB 3 0x6f6e65], 10, [(1, Mq0), (2, Mq1), (5, Mq2), (6, Mq2)], vB 14 0x6661396130653835333a6f6e652c, [], 31, [], false⟩
-- COST 383
theorem Me27_k : chk smZ [] Me27 = true := by kernel_rfl
theorem Me27_c : EO Me27 := eo (l := []) smZ_ok trivial Me27_k
def Me28 : Ent := ⟨207, [vB 8 0x6661396130653835], 10, [], .tuple #[.complex .f64 4679050072204247040 4660392184514609152, .bool true], [], 11, [], false⟩
-- COST 350
theorem Me28_k : chk smZ [] Me28 = true := by kernel_rfl
theorem Me28_c : EO Me28 := eo (l := []) smZ_ok trivial Me28_k
def Me29 : Ent := ⟨149, [vB 5 0x7374617465], 10, [(1, Mq0), (2, Mq1), (5, Mq2), (6, Mq2)], vB 16 0x3935306436613664353a73746174652c, [], 31, [], false⟩
-- COST 382
theorem Me29_k : chk smZ [] Me29 = true := by kernel_rfl
theorem Me29_c : EO Me29 := eo (l := []) smZ_ok trivial Me29_k
def Me30 : Ent := ⟨149, [vB 2 0x6162], 10, [(1, Mq0), (2, Mq1), (5, Mq2), (6, Mq2)], vB 13 0x3031366230316461323a61622c, [], 31, [], false⟩
-- COST 382
theorem Me30_k : chk smZ [] Me30 = true := by kernel_rfl
theorem Me30_c : EO Me30 := eo (l := []) smZ_ok trivial Me30_k
def Me31 : Ent := ⟨252, [.agg #[vI 1, vI 3, v0, .slice none 0 0]], 10, [], vB 4 0x313a3323, [], 11, [], false⟩
-- COST 77
theorem Me31_k : chk smZ [] Me31 = true := by kernel_rfl
theorem Me31_c : EO Me31 := eo (l := []) smZ_ok trivial Me31_k
def Me32 : Ent := ⟨149, [vB 11 0x383a313a3323313a33235d], 10, [(1, Mq0), (2, Mq1), (5, Mq2), (6, Mq2)], vB 23 0x303931316233346231313a383a313a3323313a33235d2c, [], 31, [], false⟩
-- COST 383
theorem Me32_k : chk smZ [] Me32 = true := by kernel_rfl
theorem Me32_c : EO Me32 := eo (l := []) smZ_ok trivial Me32_k
def Me33 : Ent := ⟨149, [vB 53 0x34393a313a312334313a313a3123313a6b2c313a762c313a3023313a3023303a2c31303a3432393439363732393723313a30235d5d], 10, [(1, Mq0), (2, Mq1), (5, Mq2), (6, Mq2)], vB 65 0x626533356434653235333a34393a313a312334313a313a3123313a6b2c313a762c313a3023313a3023303a2c31303a3432393439363732393723313a30235d5d2c, [], 31, [], false⟩
-- COST 385
theorem Me33_k : chk smZ [] Me33 = true := by kernel_rfl
theorem Me33_c : EO Me33 := eo (l := []) smZ_ok trivial Me33_k
def Me34 : Ent := ⟨149, [vB 52 0x34383a313a312334303a313a3223313a6b2c303a2c313a3023313a3023303a2c31303a3432393439363732393823313a30235d5d], 10, [(1, Mq0), (2, Mq1), (5, Mq2), (6, Mq2)], vB 64 0x623864656637613835323a34383a313a312334303a313a3223313a6b2c303a2c313a3023313a3023303a2c31303a3432393439363732393823313a30235d5d2c, [], 31, [], false⟩
-- COST 386
theorem Me34_k : chk smZ [] Me34 = true := by kernel_rfl
theorem Me34_c : EO Me34 := eo (l := []) smZ_ok trivial Me34_k
def Me35 : Ent := ⟨149, [vB 11 0x383a313a3223313a31235d], 10, [(1, Mq0), (2, Mq1), (5, Mq2), (6, Mq2)], vB 23 0x373036326332383731313a383a313a3223313a31235d2c, [], 31, [], false⟩
-- COST 382
theorem Me35_k : chk smZ [] Me35 = true := by kernel_rfl
theorem Me35_c : EO Me35 := eo (l := []) smZ_ok trivial Me35_k
def Me36 : Ent := ⟨151, [vB 152 0x303931316233346231313a383a313a3323313a33235d2c626533356434653235333a34393a313a312334313a313a3123313a6b2c313a762c313a3023313a3023303a2c31303a3432393439363732393723313a30235d5d2c623864656637613835323a34383a313a312334303a313a3223313a6b2c303a2c313a3023313a3023303a2c31303a3432393439363732393823313a30235d5d2c], 10, [(1, Mq0), (2, Mq1), (5, Mq2), (6, Mq2)], .tuple #[vB 11 0x383a313a3323313a33235d, vI 23, vI 0], [], 18, [], false⟩
-- COST 641
theorem Me36_k : chk smZ [Me32] Me36 = true := by kernel_rfl
theorem Me36_c : EO Me36 := eo (l := [Me32]) smZ_ok ⟨Me32_c, trivial⟩ Me36_k
def Me37 : Ent := ⟨151, [vB 129 0x626533356434653235333a34393a313a312334313a313a3123313a6b2c313a762c313a3023313a3023303a2c31303a3432393439363732393723313a30235d5d2c623864656637613835323a34383a313a312334303a313a3223313a6b2c303a2c313a3023313a3023303a2c31303a3432393439363732393823313a30235d5d2c], 10, [(1, Mq0), (2, Mq1), (5, Mq2), (6, Mq2)], .tuple #[vB 53 0x34393a313a312334313a313a3123313a6b2c313a762c313a3023313a3023303a2c31303a3432393439363732393723313a30235d5d, vI 65, vI 0], [], 18, [], false⟩
-- COST 655
theorem Me37_k : chk smZ [Me33] Me37 = true := by kernel_rfl
theorem Me37_c : EO Me37 := eo (l := [Me33]) smZ_ok ⟨Me33_c, trivial⟩ Me37_k
def Me38 : Ent := ⟨151, [vB 64 0x623864656637613835323a34383a313a312334303a313a3223313a6b2c303a2c313a3023313a3023303a2c31303a3432393439363732393823313a30235d5d2c], 10, [(1, Mq0), (2, Mq1), (5, Mq2), (6, Mq2)], .tuple #[vB 52 0x34383a313a312334303a313a3223313a6b2c303a2c313a3023313a3023303a2c31303a3432393439363732393823313a30235d5d, vI 64, vI 0], [], 18, [], false⟩
-- COST 662
theorem Me38_k : chk smZ [Me34] Me38 = true := by kernel_rfl
theorem Me38_c : EO Me38 := eo (l := [Me34]) smZ_ok ⟨Me34_c, trivial⟩ Me38_k
def Me39 : Ent := ⟨313, [vB 1 0x33], 10, [], .tuple #[.agg #[vI 1, vI 3, v0, .slice none 0 0], vI 0], [], 12, [], false⟩
-- COST 217
theorem Me39_k : chk smZ [] Me39 = true := by kernel_rfl
theorem Me39_c : EO Me39 := eo (l := []) smZ_ok trivial Me39_k
def Me40 : Ent := ⟨226, [vB 8 0x313a3323313a3323, vI 2], 10, [], .tuple #[.agg #[vI 1, vI 3, v0, .slice none 0 0], vI 4, vI 0], [], 12, [], false⟩
-- COST 129
theorem Me40_k : chk smZ [Me39] Me40 = true := by kernel_rfl
theorem Me40_c : EO Me40 := eo (l := [Me39]) smZ_ok ⟨Me39_c, trivial⟩ Me40_k
def Me41 : Ent := ⟨226, [vB 4 0x313a3323, vI 2], 10, [], .tuple #[.agg #[vI 1, vI 3, v0, .slice none 0 0], vI 4, vI 0], [], 12, [], false⟩
-- COST 128
theorem Me41_k : chk smZ [Me39] Me41 = true := by kernel_rfl
theorem Me41_c : EO Me41 := eo (l := [Me39]) smZ_ok ⟨Me39_c, trivial⟩ Me41_k
def Me42 : Ent := ⟨149, [vB 20 0x31363a313a3123313a3023313a3123313a32235d], 10, [(1, Mq0), (2, Mq1), (5, Mq2), (6, Mq2)], vB 32 0x636433653737316432303a31363a313a3123313a3023313a3123313a32235d2c, [], 31, [], false⟩
-- COST 385
theorem Me42_k : chk smZ [] Me42 = true := by kernel_rfl
theorem Me42_c : EO Me42 := eo (l := []) smZ_ok trivial Me42_k
def Me43 : Ent := ⟨149, [vB 24 0x32303a313a3223313a3323313a3123313a3223313a33235d], 10, [(1, Mq0), (2, Mq1), (5, Mq2), (6, Mq2)], vB 36 0x396664363763666232343a32303a313a3223313a3323313a3123313a3223313a33235d2c, [], 31, [], false⟩
-- COST 386
theorem Me43_k : chk smZ [] Me43 = true := by kernel_rfl
theorem Me43_c : EO Me43 := eo (l := []) smZ_ok trivial Me43_k
def Me44 : Ent := ⟨143, [.agg #[vI 2, vB 1 0x6b, v0, vI 0, vI 0, v0, vI 4294967297, vI 0]], 10, [], .bool true, [], 11, [], false⟩
-- COST 114
theorem Me44_k : chk smZ [] Me44 = true := by kernel_rfl
theorem Me44_c : EO Me44 := eo (l := []) smZ_ok trivial Me44_k
def Me45 : Ent := ⟨166, [.agg #[vI 2, vB 1 0x6b, v0, vI 0, vI 0, v0, vI 4294967297, vI 0]], 10, [], .bool false, [], 11, [], false⟩
-- COST 7
theorem Me45_k : chk smZ [Me44] Me45 = true := by kernel_rfl
theorem Me45_c : EO Me45 := eo (l := [Me44]) smZ_ok ⟨Me44_c, trivial⟩ Me45_k
def Me46 : Ent := ⟨315, [.agg #[vI 3, vI 0, v0, .slice none 0 0], vI 2], 10, [], vI 1, [], 11, [], false⟩
-- COST 58
theorem Me46_k : chk smZ [] Me46 = true := by kernel_rfl
theorem Me46_c : EO Me46 := eo (l := []) smZ_ok trivial Me46_k
def Me47 : Ent := ⟨252, [.agg #[vI 3, vI 0, v0, .slice none 0 0]], 10, [], vB 3 0x303a5d, [], 12, [], false⟩
-- COST 71
theorem Me47_k : chk smZ [] Me47 = true := by kernel_rfl
theorem Me47_c : EO Me47 := eo (l := []) smZ_ok trivial Me47_k
def Me48 : Ent := ⟨172, [.agg #[vI 0, .slice none 0 0, .slice none 0 0, vI 0, vI 0, vI 0, vI 0, vI 0]], 10, [], vB 38 0x33343a313a3023303a5d303a5d32303a313a3023313a3023313a3023313a3023313a30235d5d, [], 77, [], false⟩
-- COST 1129
theorem Me48_k : chk smZ [Me13, Me46, Me47, Me4] Me48 = true := by kernel_rfl
theorem Me48_c : EO Me48 := eo (l := [Me13, Me46, Me47, Me4]) smZ_ok ⟨Me13_c, Me46_c, Me47_c, Me4_c, trivial⟩ Me48_k
def Me49 : Ent := ⟨252, [.agg #[vI 1, vI 4, v0, .slice none 0 0]], 10, [], vB 4 0x313a3423, [], 11, [], false⟩
-- COST 77
theorem Me49_k : chk smZ [] Me49 = true := by kernel_rfl
theorem Me49_c : EO Me49 := eo (l := []) smZ_ok trivial Me49_k
def Me50 : Ent := ⟨252, [.agg #[vI 2, vI 0, vB 38 0x33343a313a3023303a5d303a5d32303a313a3023313a3023313a3023313a3023313a30235d5d, .slice none 0 0]], 10, [], vB 42 0x33383a33343a313a3023303a5d303a5d32303a313a3023313a3023313a3023313a3023313a30235d5d2c, [], 11, [], false⟩
-- COST 51
theorem Me50_k : chk smZ [] Me50 = true := by kernel_rfl
theorem Me50_c : EO Me50 := eo (l := []) smZ_ok trivial Me50_k
def Me51 : Ent := ⟨178, [vI 137], 10, [(1, Mq0)], vB 3 0x313337, [], 11, [], false⟩
-- COST 119
theorem Me51_k : chk smZ [] Me51 = true := by kernel_rfl
theorem Me51_c : EO Me51 := eo (l := []) smZ_ok trivial Me51_k
def Me52 : Ent := ⟨110, [.complex .f64 4678747981384515584 4672859821739868160], 10, [], vB 8 0x6632303436353535, [], 26, [], false⟩
-- COST 248
theorem Me52_k : chk smZ [] Me52 = true := by kernel_rfl
theorem Me52_c : EO Me52 := eo (l := []) smZ_ok trivial Me52_k
def Me53 : Ent := ⟨313, [vB 1 0x34], 10, [], .tuple #[.agg #[vI 1, vI 4, v0, .slice none 0 0], vI 0], [], 12, [], false⟩
-- COST 217
theorem Me53_k : chk smZ [] Me53 = true := by kernel_rfl
theorem Me53_c : EO Me53 := eo (l := []) smZ_ok trivial Me53_k
def Me54 : Ent := ⟨226, [vB 137 0x313a3423313a3123313a3223313a3323313a3423313a3023313a3023313a3023313a3023313a3023313a3023303a5d34343a34303a313a3223313a6b2c303a2c313a3023313a3023303a2c31303a3432393439363732393723313a30235d5d33383a33343a313a3023303a5d303a5d32303a313a3023313a3023313a3023313a3023313a30235d5d2c, vI 2], 10, [], .tuple #[.agg #[vI 1, vI 4, v0, .slice none 0 0], vI 4, vI 0], [], 12, [], false⟩
-- COST 129
theorem Me54_k : chk smZ [Me53] Me54 = true := by kernel_rfl
theorem Me54_c : EO Me54 := eo (l := [Me53]) smZ_ok ⟨Me53_c, trivial⟩ Me54_k
def Me55 : Ent := ⟨226, [vB 42 0x33383a33343a313a3023303a5d303a5d32303a313a3023313a3023313a3023313a3023313a30235d5d2c, vI 2], 10, [], .tuple #[.agg #[vI 2, vI 0, vB 38 0x33343a313a3023303a5d303a5d32303a313a3023313a3023313a3023313a3023313a30235d5d, .slice none 0 0], vI 42, vI 0], [], 12, [], false⟩
-- COST 166
theorem Me55_k : chk smZ [] Me55 = true := by kernel_rfl
theorem Me55_c : EO Me55 := eo (l := []) smZ_ok trivial Me55_k
def Me56 : Ent := ⟨161, [vB 38 0x33343a313a3023303a5d303a5d32303a313a3023313a3023313a3023313a3023313a30235d5d], 10, [], .tuple #[.agg #[vI 0, .slice none 0 0, .slice none 0 0, vI 0, vI 0, vI 0, vI 0, vI 0], vI 0], [], 117, [], false⟩
-- COST 2428
theorem Me56_k : chk smZ [Me48, Me8, Me19, Me46] Me56 = true := by kernel_rfl
theorem Me56_c : EO Me56 := eo (l := [Me48, Me8, Me19, Me46]) smZ_ok ⟨Me48_c, Me8_c, Me19_c, Me46_c, trivial⟩ Me56_k
def Me57 : Ent := ⟨64, [.agg #[vI 1, vI 2, vI 0, vI 0, vI 0, vI 0, vI 0, vI 0, vI 0, vI 0, .slice none 0 0, vI 0, .slice none 0 0, vI 0, .slice none 0 0, .slice none 0 0, vI 0, vI 0, vI 0, vI 0, vI 0]], 10, [(1, Mq0), (2, Mq1), (5, Mq2), (6, Mq2)], vB 104 0x323063376638333139323a313a3123313a3223313a3023313a3023313a3023313a3023313a3023313a3023313a3023313a3023313a3023303a5d303a5d33383a33343a313a3023303a5d303a5d32303a313a3023313a3023313a3023313a3023313a30235d5d2c5d, [], 120, [], false⟩
-- COST 2033
theorem Me57_k : chk smZ [Me13, Me48, Me46, Me50, Me47, Me4, Me15, Me1] Me57 = true := by kernel_rfl
theorem Me57_c : EO Me57 := eo (l := [Me13, Me48, Me46, Me50, Me47, Me4, Me15, Me1]) smZ_ok ⟨Me13_c, Me48_c, Me46_c, Me50_c, Me47_c, Me4_c, Me15_c, Me1_c, trivial⟩ Me57_k
def Me58 : Ent := ⟨226, [vB 84 0x313a3023313a3023313a3023313a3023313a3023313a3023313a3023313a3023313a3023303a5d303a5d33383a33343a313a3023303a5d303a5d32303a313a3023313a3023313a3023313a3023313a30235d5d2c, vI 2], 10, [], .tuple #[.agg #[vI 1, vI 0, v0, .slice none 0 0], vI 4, vI 0], [], 12, [], false⟩
-- COST 128
theorem Me58_k : chk smZ [Me8] Me58 = true := by kernel_rfl
theorem Me58_c : EO Me58 := eo (l := [Me8]) smZ_ok ⟨Me8_c, trivial⟩ Me58_k
def Me59 : Ent := ⟨226, [vB 80 0x313a3023313a3023313a3023313a3023313a3023313a3023313a3023313a3023303a5d303a5d33383a33343a313a3023303a5d303a5d32303a313a3023313a3023313a3023313a3023313a30235d5d2c, vI 2], 10, [], .tuple #[.agg #[vI 1, vI 0, v0, .slice none 0 0], vI 4, vI 0], [], 12, [], false⟩
-- COST 128
theorem Me59_k : chk smZ [Me8] Me59 = true := by kernel_rfl
theorem Me59_c : EO Me59 := eo (l := [Me8]) smZ_ok ⟨Me8_c, trivial⟩ Me59_k
def Me60 : Ent := ⟨226, [vB 76 0x313a3023313a3023313a3023313a3023313a3023313a3023313a3023303a5d303a5d33383a33343a313a3023303a5d303a5d32303a313a3023313a3023313a3023313a3023313a30235d5d2c, vI 2], 10, [], .tuple #[.agg #[vI 1, vI 0, v0, .slice none 0 0], vI 4, vI 0], [], 12, [], false⟩
-- COST 128
theorem Me60_k : chk smZ [Me8] Me60 = true := by kernel_rfl
theorem Me60_c : EO Me60 := eo (l := [Me8]) smZ_ok ⟨Me8_c, trivial⟩ Me60_k
def Me61 : Ent := ⟨226, [vB 72 0x313a3023313a3023313a3023313a3023313a3023313a3023303a5d303a5d33383a33343a313a3023303a5d303a5d32303a313a3023313a3023313a3023313a3023313a30235d5d2c, vI 2], 10, [], .tuple #[.agg #[vI 1, vI 0, v0, .slice none 0 0], vI 4, vI 0], [], 12, [], false⟩
-- COST 128
theorem Me61_k : chk smZ [Me8] Me61 = true := by kernel_rfl
theorem Me61_c : EO Me61 := eo (l := [Me8]) smZ_ok ⟨Me8_c, trivial⟩ Me61_k
def Me62 : Ent := ⟨226, [vB 68 0x313a3023313a3023313a3023313a3023313a3023303a5d303a5d33383a33343a313a3023303a5d303a5d32303a313a3023313a3023313a3023313a3023313a30235d5d2c, vI 2], 10, [], .tuple #[.agg #[vI 1, vI 0, v0, .slice none 0 0], vI 4, vI 0], [], 12, [], false⟩
-- COST 128
theorem Me62_k : chk smZ [Me8] Me62 = true := by kernel_rfl
theorem Me62_c : EO Me62 := eo (l := [Me8]) smZ_ok ⟨Me8_c, trivial⟩ Me62_k
def Me63 : Ent := ⟨226, [vB 64 0x313a3023313a3023313a3023313a3023303a5d303a5d33383a33343a313a3023303a5d303a5d32303a313a3023313a3023313a3023313a3023313a30235d5d2c, vI 2], 10, [], .tuple #[.agg #[vI 1, vI 0, v0, .slice none 0 0], vI 4, vI 0], [], 12, [], false⟩
-- COST 128
theorem Me63_k : chk smZ [Me8] Me63 = true := by kernel_rfl
theorem Me63_c : EO Me63 := eo (l := [Me8]) smZ_ok ⟨Me8_c, trivial⟩ Me63_k
def Me64 : Ent := ⟨226, [vB 60 0x313a3023313a3023313a3023303a5d303a5d33383a33343a313a3023303a5d303a5d32303a313a3023313a3023313a3023313a3023313a30235d5d2c, vI 2], 10, [], .tuple #[.agg #[vI 1, vI 0, v0, .slice none 0 0], vI 4, vI 0], [], 12, [], false⟩
-- COST 128
theorem Me64_k : chk smZ [Me8] Me64 = true := by kernel_rfl
theorem Me64_c : EO Me64 := eo (l := [Me8]) smZ_ok ⟨Me8_c, trivial⟩ Me64_k
def Me65 : Ent := ⟨226, [vB 56 0x313a3023313a3023303a5d303a5d33383a33343a313a3023303a5d303a5d32303a313a3023313a3023313a3023313a3023313a30235d5d2c, vI 2], 10, [], .tuple #[.agg #[vI 1, vI 0, v0, .slice none 0 0], vI 4, vI 0], [], 12, [], false⟩
-- COST 128
theorem Me65_k : chk smZ [Me8] Me65 = true := by kernel_rfl
theorem Me65_c : EO Me65 := eo (l := [Me8]) smZ_ok ⟨Me8_c, trivial⟩ Me65_k
def Me66 : Ent := ⟨226, [vB 52 0x313a3023303a5d303a5d33383a33343a313a3023303a5d303a5d32303a313a3023313a3023313a3023313a3023313a30235d5d2c, vI 2], 10, [], .tuple #[.agg #[vI 1, vI 0, v0, .slice none 0 0], vI 4, vI 0], [], 12, [], false⟩
-- COST 128
theorem Me66_k : chk smZ [Me8] Me66 = true := by kernel_rfl
theorem Me66_c : EO Me66 := eo (l := [Me8]) smZ_ok ⟨Me8_c, trivial⟩ Me66_k
def Me67 : Ent := ⟨226, [vB 48 0x303a5d303a5d33383a33343a313a3023303a5d303a5d32303a313a3023313a3023313a3023313a3023313a30235d5d2c, vI 2], 10, [], .tuple #[.agg #[vI 3, vI 0, v0, .slice none 0 0], vI 3, vI 0], [], 14, [], false⟩
-- COST 151
theorem Me67_k : chk smZ [] Me67 = true := by kernel_rfl
theorem Me67_c : EO Me67 := eo (l := []) smZ_ok trivial Me67_k
def Me68 : Ent := ⟨226, [vB 45 0x303a5d33383a33343a313a3023303a5d303a5d32303a313a3023313a3023313a3023313a3023313a30235d5d2c, vI 2], 10, [], .tuple #[.agg #[vI 3, vI 0, v0, .slice none 0 0], vI 3, vI 0], [], 14, [], false⟩
-- COST 151
theorem Me68_k : chk smZ [] Me68 = true := by kernel_rfl
theorem Me68_c : EO Me68 := eo (l := []) smZ_ok trivial Me68_k
def Me69 : Ent := ⟨63, [vB 104 0x323063376638333139323a313a3123313a3223313a3023313a3023313a3023313a3023313a3023313a3023313a3023313a3023313a3023303a5d303a5d33383a33343a313a3023303a5d303a5d32303a313a3023313a3023313a3023313a3023313a30235d5d2c5d], 10, [(1, Mq0), (2, Mq1), (5, Mq2), (6, Mq2)], .tuple #[.agg #[vI 1, vI 2, vI 0, vI 0, vI 0, vI 0, vI 0, vI 0, vI 0, vI 0, .slice none 0 0, vI 0, .slice none 0 0, vI 0, .slice none 0 0, .slice none 0 0, vI 0, vI 0, vI 0, vI 0, vI 0], vI 0], [], 98, [], false⟩
-- COST 1760
theorem Me69_k : chk smZ [Me57, Me55, Me68, Me67, Me66, Me65, Me64, Me63, Me62, Me61, Me60, Me59, Me58, Me7, Me17, Me46, Me56] Me69 = true := by kernel_rfl
theorem Me69_c : EO Me69 := eo (l := [Me57, Me55, Me68, Me67, Me66, Me65, Me64, Me63, Me62, Me61, Me60, Me59, Me58, Me7, Me17, Me46, Me56]) smZ_ok ⟨Me57_c, Me55_c, Me68_c, Me67_c, Me66_c, Me65_c, Me64_c, Me63_c, Me62_c, Me61_c, Me60_c, Me59_c, Me58_c, Me7_c, Me17_c, Me46_c, Me56_c, trivial⟩ Me69_k
def Me71 : Ent := ⟨149, [vB 11 0x383a313a3323313a31235d], 10, [(1, Mq0), (2, Mq1), (5, Mq2), (6, Mq2)], vB 23 0x303933316233306631313a383a313a3323313a31235d2c, [], 31, [], false⟩
-- COST 383
theorem Me71_k : chk smZ [] Me71 = true := by kernel_rfl
theorem Me71_c : EO Me71 := eo (l := []) smZ_ok trivial Me71_k
def Me72 : Ent := ⟨143, [.agg #[vI 1, vB 1 0x6b, vB 1 0x76, vI 0, vI 0, v0, vI 8589934593, vI 0]], 10, [], .bool true, [], 11, [], false⟩
-- COST 140
theorem Me72_k : chk smZ [] Me72 = true := by kernel_rfl
theorem Me72_c : EO Me72 := eo (l := []) smZ_ok trivial Me72_k
def Me73 : Ent := ⟨252, [.agg #[vI 1, vI 8589934593, v0, .slice none 0 0]], 10, [(1, Mq0)], vB 14 0x31303a3835383939333435393323, [], 12, [], false⟩
-- COST 262
theorem Me73_k : chk smZ [] Me73 = true := by kernel_rfl
theorem Me73_c : EO Me73 := eo (l := []) smZ_ok trivial Me73_k
def Me74 : Ent := ⟨408, [vB 14 0x636f6e74656e742d4c454e475448], 10, [], vB 14 0x636f6e74656e742d6c656e677468, [], 11, [], false⟩
-- COST 305
theorem Me74_k : chk smZ [] Me74 = true := by kernel_rfl
theorem Me74_c : EO Me74 := eo (l := []) smZ_ok trivial Me74_k
def Me75 : Ent := ⟨408, [vB 13 0x49662d4e6f6e652d4d61746368], 10, [], vB 13 0x69662d6e6f6e652d6d61746368, [], 11, [], false⟩
-- COST 266
theorem Me75_k : chk smZ [] Me75 = true := by kernel_rfl
theorem Me75_c : EO Me75 := eo (l := []) smZ_ok trivial Me75_k
def Me76 : Ent := ⟨408, [vB 14 0x636f6e74656e742d6c656e677468], 10, [], vB 14 0x636f6e74656e742d6c656e677468, [], 11, [], false⟩
-- COST 263
theorem Me76_k : chk smZ [] Me76 = true := by kernel_rfl
theorem Me76_c : EO Me76 := eo (l := []) smZ_ok trivial Me76_k
def Me77 : Ent := ⟨408, [vB 8 0x49662d4d61746368], 10, [], vB 8 0x69662d6d61746368, [], 11, [], false⟩
-- COST 169
theorem Me77_k : chk smZ [] Me77 = true := by kernel_rfl
theorem Me77_c : EO Me77 := eo (l := []) smZ_ok trivial Me77_k
def Me78 : Ent := ⟨408, [vB 14 0x436f6e74656e742d4c656e677468], 10, [], vB 14 0x636f6e74656e742d6c656e677468, [], 11, [], false⟩
-- COST 277
theorem Me78_k : chk smZ [] Me78 = true := by kernel_rfl
theorem Me78_c : EO Me78 := eo (l := []) smZ_ok trivial Me78_k
def Me79 : Ent := ⟨388, [vB 14 0x436f6e74656e742d4c656e677468], 10, [], vB 14 0x636f6e74656e742d6c656e677468, [], 18, [], false⟩
-- COST 801
theorem Me79_k : chk smZ [] Me79 = true := by kernel_rfl
theorem Me79_c : EO Me79 := eo (l := []) smZ_ok trivial Me79_k
def Me80 : Ent := ⟨339, [vB 1 0x41], 10, [], .bool false, [], 14, [], false⟩
-- COST 184
theorem Me80_k : chk smZ [Me79] Me80 = true := by kernel_rfl
theorem Me80_c : EO Me80 := eo (l := [Me79]) smZ_ok ⟨Me79_c, trivial⟩ Me80_k
def Me81 : Ent := ⟨297, [.agg #[vB 1 0x41, vB 1 0x62]], 10, [], .bool false, [], 12, [], false⟩
-- COST 182
theorem Me81_k : chk smZ [Me80] Me81 = true := by kernel_rfl
theorem Me81_c : EO Me81 := eo (l := [Me80]) smZ_ok ⟨Me80_c, trivial⟩ Me81_k
def Me82 : Ent := ⟨178, [vI 200], 10, [(1, Mq0)], vB 3 0x323030, [], 11, [], false⟩
-- COST 119
theorem Me82_k : chk smZ [] Me82 = true := by kernel_rfl
theorem Me82_c : EO Me82 := eo (l := []) smZ_ok trivial Me82_k
def Me84 : Ent := ⟨409, [v0], 10, [(5, Mq2)], .tuple #[vI 0, .bool false], [], 11, [], false⟩
-- COST 104
theorem Me84_k : chk smZ [] Me84 = true := by kernel_rfl
theorem Me84_c : EO Me84 := eo (l := []) smZ_ok trivial Me84_k
def Me85 : Ent := ⟨189, [.agg #[vI 404, .slice none 0 0, v0], .bool false], 10, [(1, Mq0)], vB 45 0x485454502f312e3120343034204e6f7420466f756e640d0a436f6e74656e742d4c656e6774683a20300d0a0d0a, [], 13, [], false⟩
-- COST 269
theorem Me85_k : chk smZ [] Me85 = true := by kernel_rfl
theorem Me85_c : EO Me85 := eo (l := []) smZ_ok trivial Me85_k
def Me86 : Ent := ⟨179, [.agg #[vB 3 0x474554, vB 4 0x2f6f2f6b, v0, .slice none 0 0, v0]], 10, [], .tuple #[.agg #[vI 1, vB 1 0x6b, vI 0, v0, vI 0, v0, v0, v0, vI 0, .bool false], vI 0], [], 16, [], false⟩
-- COST 158
theorem Me86_k : chk smZ [] Me86 = true := by kernel_rfl
theorem Me86_c : EO Me86 := eo (l := []) smZ_ok trivial Me86_k
def Me87 : Ent := ⟨409, [vB 1 0x31], 10, [], .tuple #[vI 1, .bool true], [], 11, [], false⟩
-- COST 114
theorem Me87_k : chk smZ [] Me87 = true := by kernel_rfl
theorem Me87_c : EO Me87 := eo (l := []) smZ_ok trivial Me87_k
def Me88 : Ent := ⟨143, [.agg #[vI 1, vB 1 0x6b, vB 1 0x76, vI 0, vI 0, v0, vI 8589934593, vI 8589934593]], 10, [], .bool true, [], 11, [], false⟩
-- COST 140
theorem Me88_k : chk smZ [] Me88 = true := by kernel_rfl
theorem Me88_c : EO Me88 := eo (l := []) smZ_ok trivial Me88_k
def Me89 : Ent := ⟨149, [vB 63 0x35393a313a312335313a313a3123313a6b2c313a762c313a3023313a3023303a2c31303a383538393933343539332331303a38353839393334353933235d5d], 10, [(1, Mq0), (2, Mq1), (5, Mq2), (6, Mq2)], vB 75 0x663465353663373436333a35393a313a312335313a313a3123313a6b2c313a762c313a3023313a3023303a2c31303a383538393933343539332331303a38353839393334353933235d5d2c, [], 31, [], false⟩
-- COST 384
theorem Me89_k : chk smZ [] Me89 = true := by kernel_rfl
theorem Me89_c : EO Me89 := eo (l := []) smZ_ok trivial Me89_k
def Me90 : Ent := ⟨200, [vB 1 0x76], 10, [(1, Mq0), (2, Mq1), (5, Mq2), (6, Mq2)], .agg #[vB 4 0x45546167, vB 10 0x22303037323030303322], [], 28, [], false⟩
-- COST 260
theorem Me90_k : chk smZ [] Me90 = true := by kernel_rfl
theorem Me90_c : EO Me90 := eo (l := []) smZ_ok trivial Me90_k
def Me91 : Ent := ⟨339, [vB 7 0x56657273696f6e], 10, [], .bool false, [], 15, [], false⟩
-- COST 456
theorem Me91_k : chk smZ [Me79] Me91 = true := by kernel_rfl
theorem Me91_c : EO Me91 := eo (l := [Me79]) smZ_ok ⟨Me79_c, trivial⟩ Me91_k
def Me92 : Ent := ⟨297, [.agg #[vB 7 0x56657273696f6e, vB 1 0x31]], 10, [], .bool false, [], 12, [], false⟩
-- COST 416
theorem Me92_k : chk smZ [Me91] Me92 = true := by kernel_rfl
theorem Me92_c : EO Me92 := eo (l := [Me91]) smZ_ok ⟨Me91_c, trivial⟩ Me92_k
end
end Go.Proofs.YtikedhemjoljpaaGreatDoor
