/-
  armariumlaw22.WorldTime: calls that come in its runs. No condition.
-/
import Derived.Test.YtikedhemjoljpaaGreatDoorLawS0
namespace Go.Proofs.YtikedhemjoljpaaGreatDoor
noncomputable section
open Go Go.Eng
set_option maxRecDepth 1000000
def Ntq0 : AO := .row [.int .u64 1, .int .u64 10, .int .u64 100, .int .u64 1000, .int .u64 10000, .int .u64 100000, .int .u64 1000000, .int .u64 10000000, .int .u64 100000000, .int .u64 1000000000, .int .u64 10000000000, .int .u64 100000000000, .int .u64 1000000000000, .int .u64 10000000000000, .int .u64 100000000000000, .int .u64 1000000000000000, .int .u64 10000000000000000, .int .u64 100000000000000000, .int .u64 1000000000000000000, .int .u64 10000000000000000000] 0 true
def Ntq1 : AO := .row [.tuple #[.chan (some 4), vI 0]] 0 true
def Ntq2 : AO := .row [.tuple #[.chan (some 3), .bool false]] 0 true
def Nte28 : Ent := ⟨63, [vB 104 0x626538366139346239323a313a3123313a3123313a3023313a3023313a3023313a3023313a3023313a3023313a3023313a3023313a3023303a5d303a5d33383a33343a313a3023303a5d303a5d32303a313a3023313a3023313a3023313a3023313a30235d5d2c5d], 10, [(1, Ntq0), (2, Ntq1), (5, Ntq2), (6, Ntq2)], .tuple #[.agg #[vI 1, vI 1, vI 0, vI 0, vI 0, vI 0, vI 0, vI 0, vI 0, vI 0, .slice none 0 0, vI 0, .slice none 0 0, vI 0, .slice none 0 0, .slice none 0 0, vI 0, vI 0, vI 0, vI 0, vI 0], vI 0], [], 98, [], false⟩
theorem Nte28_k : chk smZ [Me101, Me55, Me68, Me67, Me66, Me65, Me64, Me63, Me62, Me61, Me60, Me59, Me58, Me7, Me46, Me56] Nte28 = true := by kernel_rfl
theorem Nte28_c : EO Nte28 := eo (l := [Me101, Me55, Me68, Me67, Me66, Me65, Me64, Me63, Me62, Me61, Me60, Me59, Me58, Me7, Me46, Me56]) smZ_ok ⟨Me101_c, Me55_c, Me68_c, Me67_c, Me66_c, Me65_c, Me64_c, Me63_c, Me62_c, Me61_c, Me60_c, Me59_c, Me58_c, Me7_c, Me46_c, Me56_c, trivial⟩ Nte28_k
def Nte38 : Ent := ⟨149, [vB 24 0x32303a313a3123313a3023313a3123313a3223313a33235d], 10, [(1, Ntq0), (2, Ntq1), (5, Ntq2), (6, Ntq2)], vB 36 0x346331393332313932343a32303a313a3123313a3023313a3123313a3223313a33235d2c, [], 31, [], false⟩
theorem Nte38_k : chk smZ [] Nte38 = true := by kernel_rfl
theorem Nte38_c : EO Nte38 := eo (l := []) smZ_ok trivial Nte38_k
def Nte42 : Ent := ⟨63, [vB 104 0x383266393437323639323a313a3123313a3323313a3023313a3023313a3023313a3023313a3023313a3023313a3023313a3023313a3023303a5d303a5d33383a33343a313a3023303a5d303a5d32303a313a3023313a3023313a3023313a3023313a30235d5d2c5d], 10, [(1, Ntq0), (2, Ntq1), (5, Ntq2), (6, Ntq2)], .tuple #[.agg #[vI 1, vI 3, vI 0, vI 0, vI 0, vI 0, vI 0, vI 0, vI 0, vI 0, .slice none 0 0, vI 0, .slice none 0 0, vI 0, .slice none 0 0, .slice none 0 0, vI 0, vI 0, vI 0, vI 0, vI 0], vI 0], [], 100, [], false⟩
theorem Nte42_k : chk smZ [Me102, Me55, Me68, Me67, Me66, Me65, Me64, Me63, Me62, Me61, Me60, Me59, Me58, Me7, Me46, Me56] Nte42 = true := by kernel_rfl
theorem Nte42_c : EO Nte42 := eo (l := [Me102, Me55, Me68, Me67, Me66, Me65, Me64, Me63, Me62, Me61, Me60, Me59, Me58, Me7, Me46, Me56]) smZ_ok ⟨Me102_c, Me55_c, Me68_c, Me67_c, Me66_c, Me65_c, Me64_c, Me63_c, Me62_c, Me61_c, Me60_c, Me59_c, Me58_c, Me7_c, Me46_c, Me56_c, trivial⟩ Nte42_k
def Nte48 : Ent := ⟨149, [vB 28 0x32343a313a3123313a3023313a3123313a3223313a3323313a34235d], 10, [(1, Ntq0), (2, Ntq1), (5, Ntq2), (6, Ntq2)], vB 40 0x626338626636356332383a32343a313a3123313a3023313a3123313a3223313a3323313a34235d2c, [], 31, [], false⟩
theorem Nte48_k : chk smZ [] Nte48 = true := by kernel_rfl
theorem Nte48_c : EO Nte48 := eo (l := []) smZ_ok trivial Nte48_k
def Nte50 : Ent := ⟨64, [.agg #[vI 1, vI 4, vI 0, vI 0, vI 0, vI 0, vI 0, vI 0, vI 0, vI 0, .slice none 0 0, vI 0, .slice none 0 0, vI 0, .slice none 0 0, .slice none 0 0, vI 0, vI 0, vI 0, vI 0, vI 0]], 10, [(1, Ntq0), (2, Ntq1), (5, Ntq2), (6, Ntq2)], vB 104 0x653532623936306339323a313a3123313a3423313a3023313a3023313a3023313a3023313a3023313a3023313a3023313a3023313a3023303a5d303a5d33383a33343a313a3023303a5d303a5d32303a313a3023313a3023313a3023313a3023313a30235d5d2c5d, [], 121, [], false⟩
theorem Nte50_k : chk smZ [Me13, Me48, Me46, Me47, Me4, Me49, Me1] Nte50 = true := by kernel_rfl
theorem Nte50_c : EO Nte50 := eo (l := [Me13, Me48, Me46, Me47, Me4, Me49, Me1]) smZ_ok ⟨Me13_c, Me48_c, Me46_c, Me47_c, Me4_c, Me49_c, Me1_c, trivial⟩ Nte50_k
def Nte52 : Ent := ⟨63, [vB 104 0x653532623936306339323a313a3123313a3423313a3023313a3023313a3023313a3023313a3023313a3023313a3023313a3023313a3023303a5d303a5d33383a33343a313a3023303a5d303a5d32303a313a3023313a3023313a3023313a3023313a30235d5d2c5d], 10, [(1, Ntq0), (2, Ntq1), (5, Ntq2), (6, Ntq2)], .tuple #[.agg #[vI 1, vI 4, vI 0, vI 0, vI 0, vI 0, vI 0, vI 0, vI 0, vI 0, .slice none 0 0, vI 0, .slice none 0 0, vI 0, .slice none 0 0, .slice none 0 0, vI 0, vI 0, vI 0, vI 0, vI 0], vI 0], [], 100, [], false⟩
theorem Nte52_k : chk smZ [Nte50, Me55, Me68, Me67, Me66, Me65, Me64, Me63, Me62, Me61, Me60, Me59, Me58, Me7, Me46, Me56] Nte52 = true := by kernel_rfl
theorem Nte52_c : EO Nte52 := eo (l := [Nte50, Me55, Me68, Me67, Me66, Me65, Me64, Me63, Me62, Me61, Me60, Me59, Me58, Me7, Me46, Me56]) smZ_ok ⟨Nte50_c, Me55_c, Me68_c, Me67_c, Me66_c, Me65_c, Me64_c, Me63_c, Me62_c, Me61_c, Me60_c, Me59_c, Me58_c, Me7_c, Me46_c, Me56_c, trivial⟩ Nte52_k
def Nte59 : Ent := ⟨252, [.agg #[vI 1, vI 5, v0, .slice none 0 0]], 10, [], vB 4 0x313a3523, [], 11, [], false⟩
theorem Nte59_k : chk smZ [] Nte59 = true := by kernel_rfl
theorem Nte59_c : EO Nte59 := eo (l := []) smZ_ok trivial Nte59_k
def Nte60 : Ent := ⟨149, [vB 32 0x32383a313a3123313a3023313a3123313a3223313a3323313a3423313a35235d], 10, [(1, Ntq0), (2, Ntq1), (5, Ntq2), (6, Ntq2)], vB 44 0x393464333838346133323a32383a313a3123313a3023313a3123313a3223313a3323313a3423313a35235d2c, [], 31, [], false⟩
theorem Nte60_k : chk smZ [] Nte60 = true := by kernel_rfl
theorem Nte60_c : EO Nte60 := eo (l := []) smZ_ok trivial Nte60_k
def Nte62 : Ent := ⟨64, [.agg #[vI 1, vI 5, vI 0, vI 0, vI 0, vI 0, vI 0, vI 0, vI 0, vI 0, .slice none 0 0, vI 0, .slice none 0 0, vI 0, .slice none 0 0, .slice none 0 0, vI 0, vI 0, vI 0, vI 0, vI 0]], 10, [(1, Ntq0), (2, Ntq1), (5, Ntq2), (6, Ntq2)], vB 104 0x343736636534663239323a313a3123313a3523313a3023313a3023313a3023313a3023313a3023313a3023313a3023313a3023313a3023303a5d303a5d33383a33343a313a3023303a5d303a5d32303a313a3023313a3023313a3023313a3023313a30235d5d2c5d, [], 121, [], false⟩
theorem Nte62_k : chk smZ [Me13, Me48, Me46, Me47, Me4, Nte59, Me1] Nte62 = true := by kernel_rfl
theorem Nte62_c : EO Nte62 := eo (l := [Me13, Me48, Me46, Me47, Me4, Nte59, Me1]) smZ_ok ⟨Me13_c, Me48_c, Me46_c, Me47_c, Me4_c, Nte59_c, Me1_c, trivial⟩ Nte62_k
def Nte64 : Ent := ⟨63, [vB 104 0x343736636534663239323a313a3123313a3523313a3023313a3023313a3023313a3023313a3023313a3023313a3023313a3023313a3023303a5d303a5d33383a33343a313a3023303a5d303a5d32303a313a3023313a3023313a3023313a3023313a30235d5d2c5d], 10, [(1, Ntq0), (2, Ntq1), (5, Ntq2), (6, Ntq2)], .tuple #[.agg #[vI 1, vI 5, vI 0, vI 0, vI 0, vI 0, vI 0, vI 0, vI 0, vI 0, .slice none 0 0, vI 0, .slice none 0 0, vI 0, .slice none 0 0, .slice none 0 0, vI 0, vI 0, vI 0, vI 0, vI 0], vI 0], [], 100, [], false⟩
theorem Nte64_k : chk smZ [Nte62, Me55, Me68, Me67, Me66, Me65, Me64, Me63, Me62, Me61, Me60, Me59, Me58, Me7, Me46, Me56] Nte64 = true := by kernel_rfl
theorem Nte64_c : EO Nte64 := eo (l := [Nte62, Me55, Me68, Me67, Me66, Me65, Me64, Me63, Me62, Me61, Me60, Me59, Me58, Me7, Me46, Me56]) smZ_ok ⟨Nte62_c, Me55_c, Me68_c, Me67_c, Me66_c, Me65_c, Me64_c, Me63_c, Me62_c, Me61_c, Me60_c, Me59_c, Me58_c, Me7_c, Me46_c, Me56_c, trivial⟩ Nte64_k
def Rq0 : AO := .row [.int .u64 1, .int .u64 10, .int .u64 100, .int .u64 1000, .int .u64 10000, .int .u64 100000, .int .u64 1000000, .int .u64 10000000, .int .u64 100000000, .int .u64 1000000000, .int .u64 10000000000, .int .u64 100000000000, .int .u64 1000000000000, .int .u64 10000000000000, .int .u64 100000000000000, .int .u64 1000000000000000, .int .u64 10000000000000000, .int .u64 100000000000000000, .int .u64 1000000000000000000, .int .u64 10000000000000000000] 0 true
def Rq1 : AO := .row [.tuple #[.chan (some 4), vI 0]] 0 true
def Rq2 : AO := .row [.tuple #[.chan (some 3), .bool false]] 0 true
def Rq3 : AO := oR [.slice none 0 0] 89
def Rq4 : AO := .mp [(vI 1, vP 114 0)] (some ([0], 1))
def Rq5 : AO := oR [vP 10 0, vU 20 0 2, vI 1, vU 22 0 1, vI 0, vP 37 0, .map (some 11), vI 0] 93
def Rq6 : AO := .mp [(vB 3 0x4c4f47, .agg #[vB 39 0x3030303030303031303a2c313266346665383431363a31323a313a3123313a3023313a31235d2c, vI 39, .bool true])] (some ([0], 1))
def Rq7 : AO := oR [vI 1048537, .map (some 13)] 157
def Rq8 : AO := .mp [(vB 3 0x4c4f47, .agg #[vB 11 0x3030303030303031303a2c, vI 11, .bool true])] (some ([0], 1))
def Rq9 : AO := oR [vI 1048565, .map (some 17)] 157
def Rq10 : AO := oR [vP 14 0, vP 18 0] 100
def Rq11 : AO := oR [vP 14 0, v0, vU 90 0 1, .bool false] 223
def Rq12 : AO := oR [vP 27 0, vI 1, vU 95 0 1, vI 0, vI 0, .slice none 0 0, vI 0, vI 0, .map (some 96), vI 0, .bool false, .bool false] 121
def Rq13 : AO := oR [vB 16 0x31323a313a3123313a3023313a31235d] 9
def Rq14 : AO := .mp [(vI 1, vI 0)] (some ([0], 1))
def Rq15 : AO := oR [vP 18 0, v0, .slice (some ⟨109, 1, some 0⟩) 0 9223372036854775808, .bool false] 223
def Rq16 : AO := oR [vP 100 0, vI 0, .slice none 0 0, .slice none 0 0, vI 0, vI 0, vI 0, vI 0, vI 0, .slice none 0 0, vI 0, vI 0, .bool false] 174
def Rq17 : AO := oR [vI 1, vP 110 0, vI 0, .slice none 0 0, vI 0, vI 0, .slice none 0 0] 170
def Rq18 : AO := oR [vI 1, vP 18 0, vP 113 0, vN, vN, vN, vN, vN, vN, vN, vN, vI 1] 134
def Re6 : Ent := ⟨29, [vI 1], 10, [(1, Rq0), (2, Rq1), (5, Rq2), (6, Rq2)], vP 12 0, [(10, some Rq3), (11, some Rq4), (12, some Rq5), (13, some Rq6), (14, some Rq7), (17, some Rq8), (18, some Rq9), (20, some Rq10), (22, some (oR [vI 1] 3)), (27, some Rq11), (37, some Rq12), (90, some Rq13), (95, some (oR [vI 1] 3)), (96, some Rq14), (100, some Rq15), (109, some (oR [v0] 9)), (110, some Rq16), (113, some Rq17), (114, some Rq18)], 118, [], true⟩
theorem Re6_k : chk smS [Me26, Me23, Me21, Me24, Me4, Me1] Re6 = true := by kernel_rfl
theorem Re6_c : EO Re6 := eo (l := [Me26, Me23, Me21, Me24, Me4, Me1]) smS_ok ⟨Me26_c, Me23_c, Me21_c, Me24_c, Me4_c, Me1_c, trivial⟩ Re6_k
def Rq19 : AO := oR [vU 126 0 1] 89
def Rq20 : AO := oR [vP 10 0, vU 20 0 2, vI 1, vU 22 0 1, vI 0, vP 37 0, .map (some 11), vI 1] 93
def Rq21 : AO := oR [vB 104 0x626538366139346239323a313a3123313a3123313a3023313a3023313a3023313a3023313a3023313a3023313a3023313a3023313a3023303a5d303a5d33383a33343a313a3023303a5d303a5d32303a313a3023313a3023313a3023313a3023313a30235d5d2c5d] 9
def Re12 : Ent := ⟨17, [vP 12 0], 118, [(1, Rq0), (2, Rq1), (5, Rq2), (6, Rq2), (10, Rq3), (11, Rq4), (12, Rq5), (37, Rq12), (95, (oR [vI 1] 3)), (96, Rq14), (110, Rq16), (113, Rq17), (114, Rq18)], vI 0, [(10, some Rq19), (12, some Rq20), (37, some Rq12), (113, some Rq17), (126, some Rq21)], 127, [10, 12, 37, 113], true⟩
theorem Re12_k : chk smS [Me101] Re12 = true := by kernel_rfl
theorem Re12_c : EO Re12 := eo (l := [Me101]) smS_ok ⟨Me101_c, trivial⟩ Re12_k
def Rq22 : AO := .mp [(vI 1, vP 106 0), (vI 2, vP 127 0)] (some ([0, 1], 2))
def Rq23 : AO := oR [vP 10 0, vU 26 0 3, vI 1, vU 28 0 2, vI 0, vP 43 0, .map (some 11), vI 0] 93
def Rq24 : AO := .mp [(vB 3 0x4c4f47, .agg #[vB 43 0x3030303030303031303a2c636433653737316432303a31363a313a3123313a3023313a3123313a32235d2c, vI 43, .bool true])] (some ([0], 1))
def Rq25 : AO := oR [vI 1048533, .map (some 13)] 157
def Rq26 : AO := oR [vI 1048565, .map (some 23)] 157
def Rq27 : AO := oR [vP 14 0, vP 18 0, vP 24 0] 100
def Rq28 : AO := oR [vI 1, vI 2] 3
def Rq29 : AO := oR [vP 14 0, v0, vU 82 0 1, .bool false] 223
def Rq30 : AO := oR [vP 33 0, vI 1, vU 87 0 2, vI 0, vI 0, .slice none 0 0, vI 0, vI 0, .map (some 88), vI 0, .bool false, .bool false] 121
def Rq31 : AO := oR [vB 20 0x31363a313a3123313a3023313a3123313a32235d] 9
def Rq32 : AO := .mp [(vI 1, vI 0), (vI 2, vI 0)] (some ([0, 1], 2))
def Rq33 : AO := oR [vP 18 0, v0, .slice (some ⟨101, 1, some 0⟩) 0 9223372036854775808, .bool false] 223
def Rq34 : AO := oR [vP 92 0, vI 0, .slice none 0 0, .slice none 0 0, vI 0, vI 0, vI 0, vI 0, vI 0, .slice none 0 0, vI 0, vI 0, .bool false] 174
def Rq35 : AO := oR [vI 1, vP 102 0, vI 0, .slice none 0 0, vI 0, vI 0, .slice none 0 0] 170
def Rq36 : AO := oR [vI 1, vP 18 0, vP 105 0, vN, vN, vN, vN, vN, vN, vN, vN, vI 1] 134
def Rq37 : AO := oR [vP 24 0, v0, .slice (some ⟨122, 1, some 0⟩) 0 9223372036854775808, .bool false] 223
def Rq38 : AO := oR [vP 113 0, vI 0, .slice none 0 0, .slice none 0 0, vI 0, vI 0, vI 0, vI 0, vI 0, .slice none 0 0, vI 0, vI 0, .bool false] 174
def Rq39 : AO := oR [vI 2, vP 123 0, vI 0, .slice none 0 0, vI 0, vI 0, .slice none 0 0] 170
def Rq40 : AO := oR [vI 2, vP 24 0, vP 126 0, vN, vN, vN, vN, vN, vN, vN, vN, vI 1] 134
def Re31 : Ent := ⟨29, [vI 2], 10, [(1, Rq0), (2, Rq1), (5, Rq2), (6, Rq2)], vP 12 0, [(10, some Rq3), (11, some Rq22), (12, some Rq23), (13, some Rq24), (14, some Rq25), (17, some Rq8), (18, some Rq9), (23, some Rq8), (24, some Rq26), (26, some Rq27), (28, some Rq28), (33, some Rq29), (43, some Rq30), (82, some Rq31), (87, some Rq28), (88, some Rq32), (92, some Rq33), (101, some (oR [v0] 9)), (102, some Rq34), (105, some Rq35), (106, some Rq36), (113, some Rq37), (122, some (oR [v0] 9)), (123, some Rq38), (126, some Rq39), (127, some Rq40)], 131, [], true⟩
theorem Re31_k : chk smS [Me26, Me23, Me21, Me24, Me15, Me4, Me1, Me42] Re31 = true := by kernel_rfl
theorem Re31_c : EO Re31 := eo (l := [Me26, Me23, Me21, Me24, Me15, Me4, Me1, Me42]) smS_ok ⟨Me26_c, Me23_c, Me21_c, Me24_c, Me15_c, Me4_c, Me1_c, Me42_c, trivial⟩ Re31_k
def Rq41 : AO := oR [vU 147 0 2] 89
def Rq42 : AO := oR [vP 10 0, vU 26 0 3, vI 1, vU 28 0 2, vI 0, vP 43 0, .map (some 11), vI 1] 93
def Rq43 : AO := oR [vB 104 0x626538366139346239323a313a3123313a3123313a3023313a3023313a3023313a3023313a3023313a3023313a3023313a3023313a3023303a5d303a5d33383a33343a313a3023303a5d303a5d32303a313a3023313a3023313a3023313a3023313a30235d5d2c5d, vB 104 0x323063376638333139323a313a3123313a3223313a3023313a3023313a3023313a3023313a3023313a3023313a3023313a3023313a3023303a5d303a5d33383a33343a313a3023303a5d303a5d32303a313a3023313a3023313a3023313a3023313a30235d5d2c5d] 9
def Re33 : Ent := ⟨17, [vP 12 0], 131, [(1, Rq0), (2, Rq1), (5, Rq2), (6, Rq2), (10, Rq3), (11, Rq22), (12, Rq23), (43, Rq30), (87, Rq28), (88, Rq32), (102, Rq34), (105, Rq35), (106, Rq36), (123, Rq38), (126, Rq39), (127, Rq40)], vI 0, [(10, some Rq41), (12, some Rq42), (43, some Rq30), (105, some Rq35), (126, some Rq39), (147, some Rq43)], 148, [10, 12, 43, 105, 126], true⟩
theorem Re33_k : chk smS [Me101, Me57] Re33 = true := by kernel_rfl
theorem Re33_c : EO Re33 := eo (l := [Me101, Me57]) smS_ok ⟨Me101_c, Me57_c, trivial⟩ Re33_k
def Rq44 : AO := .mp [(vI 2, vP 127 0)] none
def Rq45 : AO := oR [vP 14 0, vP 132 0, vP 24 0] 100
def Rq46 : AO := .mp [(vB 3 0x4c4f47, .agg #[vB 11 0x3030303030303031303a2c, vI 11, .bool true])] none
def Rq47 : AO := oR [vI 1048565, .map (some 131)] 157
def Re35 : Ent := ⟨19, [vP 12 0, vI 1, vI 0], 131, [(11, Rq22), (12, Rq23), (17, Rq8), (18, Rq9), (26, Rq27)], vI 0, [(11, some Rq44), (26, some Rq45), (131, some Rq46), (132, some Rq47)], 133, [11, 26], true⟩
theorem Re35_k : chk smS [] Re35 = true := by kernel_rfl
theorem Re35_c : EO Re35 := eo (l := []) smS_ok trivial Re35_k
def Rq48 : AO := oR [vU 141 0 1] 89
def Rq49 : AO := oR [vB 104 0x323063376638333139323a313a3123313a3223313a3023313a3023313a3023313a3023313a3023313a3023313a3023313a3023313a3023303a5d303a5d33383a33343a313a3023303a5d303a5d32303a313a3023313a3023313a3023313a3023313a30235d5d2c5d] 9
def Re36 : Ent := ⟨17, [vP 12 0], 133, [(1, Rq0), (2, Rq1), (5, Rq2), (6, Rq2), (10, Rq3), (11, Rq44), (12, Rq23), (43, Rq30), (87, Rq28), (88, Rq32), (123, Rq38), (126, Rq39), (127, Rq40)], vI 0, [(10, some Rq48), (12, some Rq42), (43, some Rq30), (126, some Rq39), (141, some Rq49)], 142, [10, 12, 43, 126], true⟩
theorem Re36_k : chk smS [Me57] Re36 = true := by kernel_rfl
theorem Re36_c : EO Re36 := eo (l := [Me57]) smS_ok ⟨Me57_c, trivial⟩ Re36_k
def Rq50 : AO := .mp [(vI 1, vP 119 0), (vI 2, vP 140 0), (vI 3, vP 161 0)] (some ([0, 1, 2], 3))
def Rq51 : AO := oR [vP 10 0, vU 32 0 4, vI 1, vU 34 0 3, vI 0, vP 49 0, .map (some 11), vI 0] 93
def Rq52 : AO := .mp [(vB 3 0x4c4f47, .agg #[vB 47 0x3030303030303031303a2c346331393332313932343a32303a313a3123313a3023313a3123313a3223313a33235d2c, vI 47, .bool true])] (some ([0], 1))
def Rq53 : AO := oR [vI 1048529, .map (some 13)] 157
def Rq54 : AO := oR [vI 1048565, .map (some 29)] 157
def Rq55 : AO := oR [vP 14 0, vP 18 0, vP 24 0, vP 30 0] 100
def Rq56 : AO := oR [vI 1, vI 2, vI 3] 3
def Rq57 : AO := oR [vP 14 0, v0, vU 95 0 1, .bool false] 223
def Rq58 : AO := oR [vP 39 0, vI 1, vU 100 0 3, vI 0, vI 0, .slice none 0 0, vI 0, vI 0, .map (some 101), vI 0, .bool false, .bool false] 121
def Rq59 : AO := oR [vB 24 0x32303a313a3123313a3023313a3123313a3223313a33235d] 9
def Rq60 : AO := .mp [(vI 1, vI 0), (vI 2, vI 0), (vI 3, vI 0)] (some ([0, 1, 2], 3))
def Rq61 : AO := oR [vP 18 0, v0, .slice (some ⟨114, 1, some 0⟩) 0 9223372036854775808, .bool false] 223
def Rq62 : AO := oR [vP 105 0, vI 0, .slice none 0 0, .slice none 0 0, vI 0, vI 0, vI 0, vI 0, vI 0, .slice none 0 0, vI 0, vI 0, .bool false] 174
def Rq63 : AO := oR [vI 1, vP 115 0, vI 0, .slice none 0 0, vI 0, vI 0, .slice none 0 0] 170
def Rq64 : AO := oR [vI 1, vP 18 0, vP 118 0, vN, vN, vN, vN, vN, vN, vN, vN, vI 1] 134
def Rq65 : AO := oR [vP 24 0, v0, .slice (some ⟨135, 1, some 0⟩) 0 9223372036854775808, .bool false] 223
def Rq66 : AO := oR [vP 126 0, vI 0, .slice none 0 0, .slice none 0 0, vI 0, vI 0, vI 0, vI 0, vI 0, .slice none 0 0, vI 0, vI 0, .bool false] 174
def Rq67 : AO := oR [vI 2, vP 136 0, vI 0, .slice none 0 0, vI 0, vI 0, .slice none 0 0] 170
def Rq68 : AO := oR [vI 2, vP 24 0, vP 139 0, vN, vN, vN, vN, vN, vN, vN, vN, vI 1] 134
def Rq69 : AO := oR [vP 30 0, v0, .slice (some ⟨156, 1, some 0⟩) 0 9223372036854775808, .bool false] 223
def Rq70 : AO := oR [vP 147 0, vI 0, .slice none 0 0, .slice none 0 0, vI 0, vI 0, vI 0, vI 0, vI 0, .slice none 0 0, vI 0, vI 0, .bool false] 174
def Rq71 : AO := oR [vI 3, vP 157 0, vI 0, .slice none 0 0, vI 0, vI 0, .slice none 0 0] 170
def Rq72 : AO := oR [vI 3, vP 30 0, vP 160 0, vN, vN, vN, vN, vN, vN, vN, vN, vI 1] 134
def Re39 : Ent := ⟨29, [vI 3], 10, [(1, Rq0), (2, Rq1), (5, Rq2), (6, Rq2)], vP 12 0, [(10, some Rq3), (11, some Rq50), (12, some Rq51), (13, some Rq52), (14, some Rq53), (17, some Rq8), (18, some Rq9), (23, some Rq8), (24, some Rq26), (29, some Rq8), (30, some Rq54), (32, some Rq55), (34, some Rq56), (39, some Rq57), (49, some Rq58), (95, some Rq59), (100, some Rq56), (101, some Rq60), (105, some Rq61), (114, some (oR [v0] 9)), (115, some Rq62), (118, some Rq63), (119, some Rq64), (126, some Rq65), (135, some (oR [v0] 9)), (136, some Rq66), (139, some Rq67), (140, some Rq68), (147, some Rq69), (156, some (oR [v0] 9)), (157, some Rq70), (160, some Rq71), (161, some Rq72)], 165, [], true⟩
theorem Re39_k : chk smS [Me26, Me23, Me21, Me24, Me31, Me15, Me4, Me1, Nte38] Re39 = true := by kernel_rfl
theorem Re39_c : EO Re39 := eo (l := [Me26, Me23, Me21, Me24, Me31, Me15, Me4, Me1, Nte38]) smS_ok ⟨Me26_c, Me23_c, Me21_c, Me24_c, Me31_c, Me15_c, Me4_c, Me1_c, Nte38_c, trivial⟩ Re39_k
def Rq73 : AO := oR [vU 189 0 3] 89
def Rq74 : AO := oR [vP 10 0, vU 32 0 4, vI 1, vU 34 0 3, vI 0, vP 49 0, .map (some 11), vI 1] 93
def Rq75 : AO := oR [vB 104 0x626538366139346239323a313a3123313a3123313a3023313a3023313a3023313a3023313a3023313a3023313a3023313a3023313a3023303a5d303a5d33383a33343a313a3023303a5d303a5d32303a313a3023313a3023313a3023313a3023313a30235d5d2c5d, vB 104 0x323063376638333139323a313a3123313a3223313a3023313a3023313a3023313a3023313a3023313a3023313a3023313a3023313a3023303a5d303a5d33383a33343a313a3023303a5d303a5d32303a313a3023313a3023313a3023313a3023313a30235d5d2c5d, vB 104 0x383266393437323639323a313a3123313a3323313a3023313a3023313a3023313a3023313a3023313a3023313a3023313a3023313a3023303a5d303a5d33383a33343a313a3023303a5d303a5d32303a313a3023313a3023313a3023313a3023313a30235d5d2c5d] 9
def Re41 : Ent := ⟨17, [vP 12 0], 165, [(1, Rq0), (2, Rq1), (5, Rq2), (6, Rq2), (10, Rq3), (11, Rq50), (12, Rq51), (49, Rq58), (100, Rq56), (101, Rq60), (115, Rq62), (118, Rq63), (119, Rq64), (136, Rq66), (139, Rq67), (140, Rq68), (157, Rq70), (160, Rq71), (161, Rq72)], vI 0, [(10, some Rq73), (12, some Rq74), (49, some Rq58), (118, some Rq63), (139, some Rq67), (160, some Rq71), (189, some Rq75)], 190, [10, 12, 49, 118, 139, 160], true⟩
theorem Re41_k : chk smS [Me101, Me57, Me102] Re41 = true := by kernel_rfl
theorem Re41_c : EO Re41 := eo (l := [Me101, Me57, Me102]) smS_ok ⟨Me101_c, Me57_c, Me102_c, trivial⟩ Re41_k
def Rq76 : AO := .mp [(vI 2, vP 140 0), (vI 3, vP 161 0)] none
def Rq77 : AO := oR [vP 14 0, vP 166 0, vP 24 0, vP 30 0] 100
def Rq78 : AO := oR [vI 1048565, .map (some 165)] 157
def Re43 : Ent := ⟨19, [vP 12 0, vI 1, vI 0], 165, [(11, Rq50), (12, Rq51), (17, Rq8), (18, Rq9), (32, Rq55)], vI 0, [(11, some Rq76), (32, some Rq77), (165, some Rq46), (166, some Rq78)], 167, [11, 32], true⟩
theorem Re43_k : chk smS [] Re43 = true := by kernel_rfl
theorem Re43_c : EO Re43 := eo (l := []) smS_ok trivial Re43_k
def Rq79 : AO := oR [vU 183 0 2] 89
def Rq80 : AO := oR [vB 104 0x323063376638333139323a313a3123313a3223313a3023313a3023313a3023313a3023313a3023313a3023313a3023313a3023313a3023303a5d303a5d33383a33343a313a3023303a5d303a5d32303a313a3023313a3023313a3023313a3023313a30235d5d2c5d, vB 104 0x383266393437323639323a313a3123313a3323313a3023313a3023313a3023313a3023313a3023313a3023313a3023313a3023313a3023303a5d303a5d33383a33343a313a3023303a5d303a5d32303a313a3023313a3023313a3023313a3023313a30235d5d2c5d] 9
def Re44 : Ent := ⟨17, [vP 12 0], 167, [(1, Rq0), (2, Rq1), (5, Rq2), (6, Rq2), (10, Rq3), (11, Rq76), (12, Rq51), (49, Rq58), (100, Rq56), (101, Rq60), (136, Rq66), (139, Rq67), (140, Rq68), (157, Rq70), (160, Rq71), (161, Rq72)], vI 0, [(10, some Rq79), (12, some Rq74), (49, some Rq58), (139, some Rq67), (160, some Rq71), (183, some Rq80)], 184, [10, 12, 49, 139, 160], true⟩
theorem Re44_k : chk smS [Me57, Me102] Re44 = true := by kernel_rfl
theorem Re44_c : EO Re44 := eo (l := [Me57, Me102]) smS_ok ⟨Me57_c, Me102_c, trivial⟩ Re44_k
def Rq81 : AO := .mp [(vI 3, vP 161 0)] none
def Rq82 : AO := oR [vP 14 0, vP 166 0, vP 168 0, vP 30 0] 100
def Rq83 : AO := oR [vI 1048565, .map (some 167)] 157
def Re45 : Ent := ⟨19, [vP 12 0, vI 2, vI 0], 167, [(11, Rq76), (12, Rq51), (23, Rq8), (24, Rq26), (32, Rq77)], vI 0, [(11, some Rq81), (32, some Rq82), (167, some Rq46), (168, some Rq83)], 169, [11, 32], true⟩
theorem Re45_k : chk smS [] Re45 = true := by kernel_rfl
theorem Re45_c : EO Re45 := eo (l := []) smS_ok trivial Re45_k
def Rq84 : AO := oR [vU 177 0 1] 89
def Rq85 : AO := oR [vB 104 0x383266393437323639323a313a3123313a3323313a3023313a3023313a3023313a3023313a3023313a3023313a3023313a3023313a3023303a5d303a5d33383a33343a313a3023303a5d303a5d32303a313a3023313a3023313a3023313a3023313a30235d5d2c5d] 9
def Re46 : Ent := ⟨17, [vP 12 0], 169, [(1, Rq0), (2, Rq1), (5, Rq2), (6, Rq2), (10, Rq3), (11, Rq81), (12, Rq51), (49, Rq58), (100, Rq56), (101, Rq60), (157, Rq70), (160, Rq71), (161, Rq72)], vI 0, [(10, some Rq84), (12, some Rq74), (49, some Rq58), (160, some Rq71), (177, some Rq85)], 178, [10, 12, 49, 160], true⟩
theorem Re46_k : chk smS [Me102] Re46 = true := by kernel_rfl
theorem Re46_c : EO Re46 := eo (l := [Me102]) smS_ok ⟨Me102_c, trivial⟩ Re46_k
def Rq86 : AO := .mp [(vI 1, vP 132 0), (vI 2, vP 153 0), (vI 3, vP 174 0), (vI 4, vP 195 0)] (some ([0, 1, 2, 3], 4))
def Rq87 : AO := oR [vP 10 0, vU 38 0 5, vI 1, vU 40 0 4, vI 0, vP 55 0, .map (some 11), vI 0] 93
def Rq88 : AO := .mp [(vB 3 0x4c4f47, .agg #[vB 51 0x3030303030303031303a2c626338626636356332383a32343a313a3123313a3023313a3123313a3223313a3323313a34235d2c, vI 51, .bool true])] (some ([0], 1))
def Rq89 : AO := oR [vI 1048525, .map (some 13)] 157
def Rq90 : AO := oR [vI 1048565, .map (some 35)] 157
def Rq91 : AO := oR [vP 14 0, vP 18 0, vP 24 0, vP 30 0, vP 36 0] 100
def Rq92 : AO := oR [vI 1, vI 2, vI 3, vI 4] 3
def Rq93 : AO := oR [vP 14 0, v0, vU 108 0 1, .bool false] 223
def Rq94 : AO := oR [vP 45 0, vI 1, vU 113 0 4, vI 0, vI 0, .slice none 0 0, vI 0, vI 0, .map (some 114), vI 0, .bool false, .bool false] 121
def Rq95 : AO := oR [vB 28 0x32343a313a3123313a3023313a3123313a3223313a3323313a34235d] 9
def Rq96 : AO := .mp [(vI 1, vI 0), (vI 2, vI 0), (vI 3, vI 0), (vI 4, vI 0)] (some ([0, 1, 2, 3], 4))
def Rq97 : AO := oR [vP 18 0, v0, .slice (some ⟨127, 1, some 0⟩) 0 9223372036854775808, .bool false] 223
def Rq98 : AO := oR [vP 118 0, vI 0, .slice none 0 0, .slice none 0 0, vI 0, vI 0, vI 0, vI 0, vI 0, .slice none 0 0, vI 0, vI 0, .bool false] 174
def Rq99 : AO := oR [vI 1, vP 128 0, vI 0, .slice none 0 0, vI 0, vI 0, .slice none 0 0] 170
def Rq100 : AO := oR [vI 1, vP 18 0, vP 131 0, vN, vN, vN, vN, vN, vN, vN, vN, vI 1] 134
def Rq101 : AO := oR [vP 24 0, v0, .slice (some ⟨148, 1, some 0⟩) 0 9223372036854775808, .bool false] 223
def Rq102 : AO := oR [vP 139 0, vI 0, .slice none 0 0, .slice none 0 0, vI 0, vI 0, vI 0, vI 0, vI 0, .slice none 0 0, vI 0, vI 0, .bool false] 174
def Rq103 : AO := oR [vI 2, vP 149 0, vI 0, .slice none 0 0, vI 0, vI 0, .slice none 0 0] 170
def Rq104 : AO := oR [vI 2, vP 24 0, vP 152 0, vN, vN, vN, vN, vN, vN, vN, vN, vI 1] 134
def Rq105 : AO := oR [vP 30 0, v0, .slice (some ⟨169, 1, some 0⟩) 0 9223372036854775808, .bool false] 223
def Rq106 : AO := oR [vP 160 0, vI 0, .slice none 0 0, .slice none 0 0, vI 0, vI 0, vI 0, vI 0, vI 0, .slice none 0 0, vI 0, vI 0, .bool false] 174
def Rq107 : AO := oR [vI 3, vP 170 0, vI 0, .slice none 0 0, vI 0, vI 0, .slice none 0 0] 170
def Rq108 : AO := oR [vI 3, vP 30 0, vP 173 0, vN, vN, vN, vN, vN, vN, vN, vN, vI 1] 134
def Rq109 : AO := oR [vP 36 0, v0, .slice (some ⟨190, 1, some 0⟩) 0 9223372036854775808, .bool false] 223
def Rq110 : AO := oR [vP 181 0, vI 0, .slice none 0 0, .slice none 0 0, vI 0, vI 0, vI 0, vI 0, vI 0, .slice none 0 0, vI 0, vI 0, .bool false] 174
def Rq111 : AO := oR [vI 4, vP 191 0, vI 0, .slice none 0 0, vI 0, vI 0, .slice none 0 0] 170
def Rq112 : AO := oR [vI 4, vP 36 0, vP 194 0, vN, vN, vN, vN, vN, vN, vN, vN, vI 1] 134
def Re49 : Ent := ⟨29, [vI 4], 10, [(1, Rq0), (2, Rq1), (5, Rq2), (6, Rq2)], vP 12 0, [(10, some Rq3), (11, some Rq86), (12, some Rq87), (13, some Rq88), (14, some Rq89), (17, some Rq8), (18, some Rq9), (23, some Rq8), (24, some Rq26), (29, some Rq8), (30, some Rq54), (35, some Rq8), (36, some Rq90), (38, some Rq91), (40, some Rq92), (45, some Rq93), (55, some Rq94), (108, some Rq95), (113, some Rq92), (114, some Rq96), (118, some Rq97), (127, some (oR [v0] 9)), (128, some Rq98), (131, some Rq99), (132, some Rq100), (139, some Rq101), (148, some (oR [v0] 9)), (149, some Rq102), (152, some Rq103), (153, some Rq104), (160, some Rq105), (169, some (oR [v0] 9)), (170, some Rq106), (173, some Rq107), (174, some Rq108), (181, some Rq109), (190, some (oR [v0] 9)), (191, some Rq110), (194, some Rq111), (195, some Rq112)], 199, [], true⟩
theorem Re49_k : chk smS [Me26, Me23, Me21, Me24, Me49, Me31, Me15, Me4, Me1, Nte48] Re49 = true := by kernel_rfl
theorem Re49_c : EO Re49 := eo (l := [Me26, Me23, Me21, Me24, Me49, Me31, Me15, Me4, Me1, Nte48]) smS_ok ⟨Me26_c, Me23_c, Me21_c, Me24_c, Me49_c, Me31_c, Me15_c, Me4_c, Me1_c, Nte48_c, trivial⟩ Re49_k
def Rq113 : AO := oR [vU 231 0 4] 89
def Rq114 : AO := oR [vP 10 0, vU 38 0 5, vI 1, vU 40 0 4, vI 0, vP 55 0, .map (some 11), vI 1] 93
def Rq115 : AO := oR [vB 104 0x626538366139346239323a313a3123313a3123313a3023313a3023313a3023313a3023313a3023313a3023313a3023313a3023313a3023303a5d303a5d33383a33343a313a3023303a5d303a5d32303a313a3023313a3023313a3023313a3023313a30235d5d2c5d, vB 104 0x323063376638333139323a313a3123313a3223313a3023313a3023313a3023313a3023313a3023313a3023313a3023313a3023313a3023303a5d303a5d33383a33343a313a3023303a5d303a5d32303a313a3023313a3023313a3023313a3023313a30235d5d2c5d, vB 104 0x383266393437323639323a313a3123313a3323313a3023313a3023313a3023313a3023313a3023313a3023313a3023313a3023313a3023303a5d303a5d33383a33343a313a3023303a5d303a5d32303a313a3023313a3023313a3023313a3023313a30235d5d2c5d, vB 104 0x653532623936306339323a313a3123313a3423313a3023313a3023313a3023313a3023313a3023313a3023313a3023313a3023313a3023303a5d303a5d33383a33343a313a3023303a5d303a5d32303a313a3023313a3023313a3023313a3023313a30235d5d2c5d] 9
def Re51 : Ent := ⟨17, [vP 12 0], 199, [(1, Rq0), (2, Rq1), (5, Rq2), (6, Rq2), (10, Rq3), (11, Rq86), (12, Rq87), (55, Rq94), (113, Rq92), (114, Rq96), (128, Rq98), (131, Rq99), (132, Rq100), (149, Rq102), (152, Rq103), (153, Rq104), (170, Rq106), (173, Rq107), (174, Rq108), (191, Rq110), (194, Rq111), (195, Rq112)], vI 0, [(10, some Rq113), (12, some Rq114), (55, some Rq94), (131, some Rq99), (152, some Rq103), (173, some Rq107), (194, some Rq111), (231, some Rq115)], 232, [10, 12, 55, 131, 152, 173, 194], true⟩
theorem Re51_k : chk smS [Me101, Me57, Me102, Nte50] Re51 = true := by kernel_rfl
theorem Re51_c : EO Re51 := eo (l := [Me101, Me57, Me102, Nte50]) smS_ok ⟨Me101_c, Me57_c, Me102_c, Nte50_c, trivial⟩ Re51_k
def Rq116 : AO := .mp [(vI 2, vP 153 0), (vI 3, vP 174 0), (vI 4, vP 195 0)] none
def Rq117 : AO := oR [vP 14 0, vP 200 0, vP 24 0, vP 30 0, vP 36 0] 100
def Rq118 : AO := oR [vI 1048565, .map (some 199)] 157
def Re53 : Ent := ⟨19, [vP 12 0, vI 1, vI 0], 199, [(11, Rq86), (12, Rq87), (17, Rq8), (18, Rq9), (38, Rq91)], vI 0, [(11, some Rq116), (38, some Rq117), (199, some Rq46), (200, some Rq118)], 201, [11, 38], true⟩
theorem Re53_k : chk smS [] Re53 = true := by kernel_rfl
theorem Re53_c : EO Re53 := eo (l := []) smS_ok trivial Re53_k
def Rq119 : AO := oR [vU 225 0 3] 89
def Rq120 : AO := oR [vB 104 0x323063376638333139323a313a3123313a3223313a3023313a3023313a3023313a3023313a3023313a3023313a3023313a3023313a3023303a5d303a5d33383a33343a313a3023303a5d303a5d32303a313a3023313a3023313a3023313a3023313a30235d5d2c5d, vB 104 0x383266393437323639323a313a3123313a3323313a3023313a3023313a3023313a3023313a3023313a3023313a3023313a3023313a3023303a5d303a5d33383a33343a313a3023303a5d303a5d32303a313a3023313a3023313a3023313a3023313a30235d5d2c5d, vB 104 0x653532623936306339323a313a3123313a3423313a3023313a3023313a3023313a3023313a3023313a3023313a3023313a3023313a3023303a5d303a5d33383a33343a313a3023303a5d303a5d32303a313a3023313a3023313a3023313a3023313a30235d5d2c5d] 9
def Re54 : Ent := ⟨17, [vP 12 0], 201, [(1, Rq0), (2, Rq1), (5, Rq2), (6, Rq2), (10, Rq3), (11, Rq116), (12, Rq87), (55, Rq94), (113, Rq92), (114, Rq96), (149, Rq102), (152, Rq103), (153, Rq104), (170, Rq106), (173, Rq107), (174, Rq108), (191, Rq110), (194, Rq111), (195, Rq112)], vI 0, [(10, some Rq119), (12, some Rq114), (55, some Rq94), (152, some Rq103), (173, some Rq107), (194, some Rq111), (225, some Rq120)], 226, [10, 12, 55, 152, 173, 194], true⟩
theorem Re54_k : chk smS [Me57, Me102, Nte50] Re54 = true := by kernel_rfl
theorem Re54_c : EO Re54 := eo (l := [Me57, Me102, Nte50]) smS_ok ⟨Me57_c, Me102_c, Nte50_c, trivial⟩ Re54_k
def Rq121 : AO := .mp [(vI 3, vP 174 0), (vI 4, vP 195 0)] none
def Rq122 : AO := oR [vP 14 0, vP 200 0, vP 202 0, vP 30 0, vP 36 0] 100
def Rq123 : AO := oR [vI 1048565, .map (some 201)] 157
def Re55 : Ent := ⟨19, [vP 12 0, vI 2, vI 0], 201, [(11, Rq116), (12, Rq87), (23, Rq8), (24, Rq26), (38, Rq117)], vI 0, [(11, some Rq121), (38, some Rq122), (201, some Rq46), (202, some Rq123)], 203, [11, 38], true⟩
theorem Re55_k : chk smS [] Re55 = true := by kernel_rfl
theorem Re55_c : EO Re55 := eo (l := []) smS_ok trivial Re55_k
def Rq124 : AO := oR [vU 219 0 2] 89
def Rq125 : AO := oR [vB 104 0x383266393437323639323a313a3123313a3323313a3023313a3023313a3023313a3023313a3023313a3023313a3023313a3023313a3023303a5d303a5d33383a33343a313a3023303a5d303a5d32303a313a3023313a3023313a3023313a3023313a30235d5d2c5d, vB 104 0x653532623936306339323a313a3123313a3423313a3023313a3023313a3023313a3023313a3023313a3023313a3023313a3023313a3023303a5d303a5d33383a33343a313a3023303a5d303a5d32303a313a3023313a3023313a3023313a3023313a30235d5d2c5d] 9
def Re56 : Ent := ⟨17, [vP 12 0], 203, [(1, Rq0), (2, Rq1), (5, Rq2), (6, Rq2), (10, Rq3), (11, Rq121), (12, Rq87), (55, Rq94), (113, Rq92), (114, Rq96), (170, Rq106), (173, Rq107), (174, Rq108), (191, Rq110), (194, Rq111), (195, Rq112)], vI 0, [(10, some Rq124), (12, some Rq114), (55, some Rq94), (173, some Rq107), (194, some Rq111), (219, some Rq125)], 220, [10, 12, 55, 173, 194], true⟩
theorem Re56_k : chk smS [Me102, Nte50] Re56 = true := by kernel_rfl
theorem Re56_c : EO Re56 := eo (l := [Me102, Nte50]) smS_ok ⟨Me102_c, Nte50_c, trivial⟩ Re56_k
def Rq126 : AO := .mp [(vI 4, vP 195 0)] none
def Rq127 : AO := oR [vP 14 0, vP 200 0, vP 202 0, vP 204 0, vP 36 0] 100
def Rq128 : AO := oR [vI 1048565, .map (some 203)] 157
def Re57 : Ent := ⟨19, [vP 12 0, vI 3, vI 0], 203, [(11, Rq121), (12, Rq87), (29, Rq8), (30, Rq54), (38, Rq122)], vI 0, [(11, some Rq126), (38, some Rq127), (203, some Rq46), (204, some Rq128)], 205, [11, 38], true⟩
theorem Re57_k : chk smS [] Re57 = true := by kernel_rfl
theorem Re57_c : EO Re57 := eo (l := []) smS_ok trivial Re57_k
def Rq129 : AO := oR [vU 213 0 1] 89
def Rq130 : AO := oR [vB 104 0x653532623936306339323a313a3123313a3423313a3023313a3023313a3023313a3023313a3023313a3023313a3023313a3023313a3023303a5d303a5d33383a33343a313a3023303a5d303a5d32303a313a3023313a3023313a3023313a3023313a30235d5d2c5d] 9
def Re58 : Ent := ⟨17, [vP 12 0], 205, [(1, Rq0), (2, Rq1), (5, Rq2), (6, Rq2), (10, Rq3), (11, Rq126), (12, Rq87), (55, Rq94), (113, Rq92), (114, Rq96), (191, Rq110), (194, Rq111), (195, Rq112)], vI 0, [(10, some Rq129), (12, some Rq114), (55, some Rq94), (194, some Rq111), (213, some Rq130)], 214, [10, 12, 55, 194], true⟩
theorem Re58_k : chk smS [Nte50] Re58 = true := by kernel_rfl
theorem Re58_c : EO Re58 := eo (l := [Nte50]) smS_ok ⟨Nte50_c, trivial⟩ Re58_k
def Rq131 : AO := .mp [(vI 1, vP 145 0), (vI 2, vP 166 0), (vI 3, vP 187 0), (vI 4, vP 208 0), (vI 5, vP 229 0)] (some ([0, 1, 2, 3, 4], 5))
def Rq132 : AO := oR [vP 10 0, vU 44 0 6, vI 1, vU 46 0 5, vI 0, vP 61 0, .map (some 11), vI 0] 93
def Rq133 : AO := .mp [(vB 3 0x4c4f47, .agg #[vB 55 0x3030303030303031303a2c393464333838346133323a32383a313a3123313a3023313a3123313a3223313a3323313a3423313a35235d2c, vI 55, .bool true])] (some ([0], 1))
def Rq134 : AO := oR [vI 1048521, .map (some 13)] 157
def Rq135 : AO := oR [vI 1048565, .map (some 41)] 157
def Rq136 : AO := oR [vP 14 0, vP 18 0, vP 24 0, vP 30 0, vP 36 0, vP 42 0] 100
def Rq137 : AO := oR [vI 1, vI 2, vI 3, vI 4, vI 5] 3
def Rq138 : AO := oR [vP 14 0, v0, vU 121 0 1, .bool false] 223
def Rq139 : AO := oR [vP 51 0, vI 1, vU 126 0 5, vI 0, vI 0, .slice none 0 0, vI 0, vI 0, .map (some 127), vI 0, .bool false, .bool false] 121
def Rq140 : AO := oR [vB 32 0x32383a313a3123313a3023313a3123313a3223313a3323313a3423313a35235d] 9
def Rq141 : AO := .mp [(vI 1, vI 0), (vI 2, vI 0), (vI 3, vI 0), (vI 4, vI 0), (vI 5, vI 0)] (some ([0, 1, 2, 3, 4], 5))
def Rq142 : AO := oR [vP 18 0, v0, .slice (some ⟨140, 1, some 0⟩) 0 9223372036854775808, .bool false] 223
def Rq143 : AO := oR [vP 131 0, vI 0, .slice none 0 0, .slice none 0 0, vI 0, vI 0, vI 0, vI 0, vI 0, .slice none 0 0, vI 0, vI 0, .bool false] 174
def Rq144 : AO := oR [vI 1, vP 141 0, vI 0, .slice none 0 0, vI 0, vI 0, .slice none 0 0] 170
def Rq145 : AO := oR [vI 1, vP 18 0, vP 144 0, vN, vN, vN, vN, vN, vN, vN, vN, vI 1] 134
def Rq146 : AO := oR [vP 24 0, v0, .slice (some ⟨161, 1, some 0⟩) 0 9223372036854775808, .bool false] 223
def Rq147 : AO := oR [vP 152 0, vI 0, .slice none 0 0, .slice none 0 0, vI 0, vI 0, vI 0, vI 0, vI 0, .slice none 0 0, vI 0, vI 0, .bool false] 174
def Rq148 : AO := oR [vI 2, vP 162 0, vI 0, .slice none 0 0, vI 0, vI 0, .slice none 0 0] 170
def Rq149 : AO := oR [vI 2, vP 24 0, vP 165 0, vN, vN, vN, vN, vN, vN, vN, vN, vI 1] 134
def Rq150 : AO := oR [vP 30 0, v0, .slice (some ⟨182, 1, some 0⟩) 0 9223372036854775808, .bool false] 223
def Rq151 : AO := oR [vP 173 0, vI 0, .slice none 0 0, .slice none 0 0, vI 0, vI 0, vI 0, vI 0, vI 0, .slice none 0 0, vI 0, vI 0, .bool false] 174
def Rq152 : AO := oR [vI 3, vP 183 0, vI 0, .slice none 0 0, vI 0, vI 0, .slice none 0 0] 170
def Rq153 : AO := oR [vI 3, vP 30 0, vP 186 0, vN, vN, vN, vN, vN, vN, vN, vN, vI 1] 134
def Rq154 : AO := oR [vP 36 0, v0, .slice (some ⟨203, 1, some 0⟩) 0 9223372036854775808, .bool false] 223
def Rq155 : AO := oR [vP 194 0, vI 0, .slice none 0 0, .slice none 0 0, vI 0, vI 0, vI 0, vI 0, vI 0, .slice none 0 0, vI 0, vI 0, .bool false] 174
def Rq156 : AO := oR [vI 4, vP 204 0, vI 0, .slice none 0 0, vI 0, vI 0, .slice none 0 0] 170
def Rq157 : AO := oR [vI 4, vP 36 0, vP 207 0, vN, vN, vN, vN, vN, vN, vN, vN, vI 1] 134
def Rq158 : AO := oR [vP 42 0, v0, .slice (some ⟨224, 1, some 0⟩) 0 9223372036854775808, .bool false] 223
def Rq159 : AO := oR [vP 215 0, vI 0, .slice none 0 0, .slice none 0 0, vI 0, vI 0, vI 0, vI 0, vI 0, .slice none 0 0, vI 0, vI 0, .bool false] 174
def Rq160 : AO := oR [vI 5, vP 225 0, vI 0, .slice none 0 0, vI 0, vI 0, .slice none 0 0] 170
def Rq161 : AO := oR [vI 5, vP 42 0, vP 228 0, vN, vN, vN, vN, vN, vN, vN, vN, vI 1] 134
def Re61 : Ent := ⟨29, [vI 5], 10, [(1, Rq0), (2, Rq1), (5, Rq2), (6, Rq2)], vP 12 0, [(10, some Rq3), (11, some Rq131), (12, some Rq132), (13, some Rq133), (14, some Rq134), (17, some Rq8), (18, some Rq9), (23, some Rq8), (24, some Rq26), (29, some Rq8), (30, some Rq54), (35, some Rq8), (36, some Rq90), (41, some Rq8), (42, some Rq135), (44, some Rq136), (46, some Rq137), (51, some Rq138), (61, some Rq139), (121, some Rq140), (126, some Rq137), (127, some Rq141), (131, some Rq142), (140, some (oR [v0] 9)), (141, some Rq143), (144, some Rq144), (145, some Rq145), (152, some Rq146), (161, some (oR [v0] 9)), (162, some Rq147), (165, some Rq148), (166, some Rq149), (173, some Rq150), (182, some (oR [v0] 9)), (183, some Rq151), (186, some Rq152), (187, some Rq153), (194, some Rq154), (203, some (oR [v0] 9)), (204, some Rq155), (207, some Rq156), (208, some Rq157), (215, some Rq158), (224, some (oR [v0] 9)), (225, some Rq159), (228, some Rq160), (229, some Rq161)], 233, [], true⟩
theorem Re61_k : chk smS [Me26, Me23, Me21, Me24, Nte59, Me49, Me31, Me15, Me4, Me1, Nte60] Re61 = true := by kernel_rfl
theorem Re61_c : EO Re61 := eo (l := [Me26, Me23, Me21, Me24, Nte59, Me49, Me31, Me15, Me4, Me1, Nte60]) smS_ok ⟨Me26_c, Me23_c, Me21_c, Me24_c, Nte59_c, Me49_c, Me31_c, Me15_c, Me4_c, Me1_c, Nte60_c, trivial⟩ Re61_k
def Rq162 : AO := oR [vU 273 0 5] 89
def Rq163 : AO := oR [vP 10 0, vU 44 0 6, vI 1, vU 46 0 5, vI 0, vP 61 0, .map (some 11), vI 1] 93
def Rq164 : AO := oR [vB 104 0x626538366139346239323a313a3123313a3123313a3023313a3023313a3023313a3023313a3023313a3023313a3023313a3023313a3023303a5d303a5d33383a33343a313a3023303a5d303a5d32303a313a3023313a3023313a3023313a3023313a30235d5d2c5d, vB 104 0x323063376638333139323a313a3123313a3223313a3023313a3023313a3023313a3023313a3023313a3023313a3023313a3023313a3023303a5d303a5d33383a33343a313a3023303a5d303a5d32303a313a3023313a3023313a3023313a3023313a30235d5d2c5d, vB 104 0x383266393437323639323a313a3123313a3323313a3023313a3023313a3023313a3023313a3023313a3023313a3023313a3023313a3023303a5d303a5d33383a33343a313a3023303a5d303a5d32303a313a3023313a3023313a3023313a3023313a30235d5d2c5d, vB 104 0x653532623936306339323a313a3123313a3423313a3023313a3023313a3023313a3023313a3023313a3023313a3023313a3023313a3023303a5d303a5d33383a33343a313a3023303a5d303a5d32303a313a3023313a3023313a3023313a3023313a30235d5d2c5d, vB 104 0x343736636534663239323a313a3123313a3523313a3023313a3023313a3023313a3023313a3023313a3023313a3023313a3023313a3023303a5d303a5d33383a33343a313a3023303a5d303a5d32303a313a3023313a3023313a3023313a3023313a30235d5d2c5d] 9
def Re63 : Ent := ⟨17, [vP 12 0], 233, [(1, Rq0), (2, Rq1), (5, Rq2), (6, Rq2), (10, Rq3), (11, Rq131), (12, Rq132), (61, Rq139), (126, Rq137), (127, Rq141), (141, Rq143), (144, Rq144), (145, Rq145), (162, Rq147), (165, Rq148), (166, Rq149), (183, Rq151), (186, Rq152), (187, Rq153), (204, Rq155), (207, Rq156), (208, Rq157), (225, Rq159), (228, Rq160), (229, Rq161)], vI 0, [(10, some Rq162), (12, some Rq163), (61, some Rq139), (144, some Rq144), (165, some Rq148), (186, some Rq152), (207, some Rq156), (228, some Rq160), (273, some Rq164)], 274, [10, 12, 61, 144, 165, 186, 207, 228], true⟩
theorem Re63_k : chk smS [Me101, Me57, Me102, Nte50, Nte62] Re63 = true := by kernel_rfl
theorem Re63_c : EO Re63 := eo (l := [Me101, Me57, Me102, Nte50, Nte62]) smS_ok ⟨Me101_c, Me57_c, Me102_c, Nte50_c, Nte62_c, trivial⟩ Re63_k
def Rq165 : AO := .mp [(vI 2, vP 166 0), (vI 3, vP 187 0), (vI 4, vP 208 0), (vI 5, vP 229 0)] none
def Rq166 : AO := oR [vP 14 0, vP 234 0, vP 24 0, vP 30 0, vP 36 0, vP 42 0] 100
def Rq167 : AO := oR [vI 1048565, .map (some 233)] 157
def Re65 : Ent := ⟨19, [vP 12 0, vI 1, vI 0], 233, [(11, Rq131), (12, Rq132), (17, Rq8), (18, Rq9), (44, Rq136)], vI 0, [(11, some Rq165), (44, some Rq166), (233, some Rq46), (234, some Rq167)], 235, [11, 44], true⟩
theorem Re65_k : chk smS [] Re65 = true := by kernel_rfl
theorem Re65_c : EO Re65 := eo (l := []) smS_ok trivial Re65_k
def Rq168 : AO := oR [vU 267 0 4] 89
def Rq169 : AO := oR [vB 104 0x323063376638333139323a313a3123313a3223313a3023313a3023313a3023313a3023313a3023313a3023313a3023313a3023313a3023303a5d303a5d33383a33343a313a3023303a5d303a5d32303a313a3023313a3023313a3023313a3023313a30235d5d2c5d, vB 104 0x383266393437323639323a313a3123313a3323313a3023313a3023313a3023313a3023313a3023313a3023313a3023313a3023313a3023303a5d303a5d33383a33343a313a3023303a5d303a5d32303a313a3023313a3023313a3023313a3023313a30235d5d2c5d, vB 104 0x653532623936306339323a313a3123313a3423313a3023313a3023313a3023313a3023313a3023313a3023313a3023313a3023313a3023303a5d303a5d33383a33343a313a3023303a5d303a5d32303a313a3023313a3023313a3023313a3023313a30235d5d2c5d, vB 104 0x343736636534663239323a313a3123313a3523313a3023313a3023313a3023313a3023313a3023313a3023313a3023313a3023313a3023303a5d303a5d33383a33343a313a3023303a5d303a5d32303a313a3023313a3023313a3023313a3023313a30235d5d2c5d] 9
def Re66 : Ent := ⟨17, [vP 12 0], 235, [(1, Rq0), (2, Rq1), (5, Rq2), (6, Rq2), (10, Rq3), (11, Rq165), (12, Rq132), (61, Rq139), (126, Rq137), (127, Rq141), (162, Rq147), (165, Rq148), (166, Rq149), (183, Rq151), (186, Rq152), (187, Rq153), (204, Rq155), (207, Rq156), (208, Rq157), (225, Rq159), (228, Rq160), (229, Rq161)], vI 0, [(10, some Rq168), (12, some Rq163), (61, some Rq139), (165, some Rq148), (186, some Rq152), (207, some Rq156), (228, some Rq160), (267, some Rq169)], 268, [10, 12, 61, 165, 186, 207, 228], true⟩
theorem Re66_k : chk smS [Me57, Me102, Nte50, Nte62] Re66 = true := by kernel_rfl
theorem Re66_c : EO Re66 := eo (l := [Me57, Me102, Nte50, Nte62]) smS_ok ⟨Me57_c, Me102_c, Nte50_c, Nte62_c, trivial⟩ Re66_k
def Rq170 : AO := .mp [(vI 3, vP 187 0), (vI 4, vP 208 0), (vI 5, vP 229 0)] none
def Rq171 : AO := oR [vP 14 0, vP 234 0, vP 236 0, vP 30 0, vP 36 0, vP 42 0] 100
def Rq172 : AO := oR [vI 1048565, .map (some 235)] 157
def Re67 : Ent := ⟨19, [vP 12 0, vI 2, vI 0], 235, [(11, Rq165), (12, Rq132), (23, Rq8), (24, Rq26), (44, Rq166)], vI 0, [(11, some Rq170), (44, some Rq171), (235, some Rq46), (236, some Rq172)], 237, [11, 44], true⟩
theorem Re67_k : chk smS [] Re67 = true := by kernel_rfl
theorem Re67_c : EO Re67 := eo (l := []) smS_ok trivial Re67_k
def Rq173 : AO := oR [vU 261 0 3] 89
def Rq174 : AO := oR [vB 104 0x383266393437323639323a313a3123313a3323313a3023313a3023313a3023313a3023313a3023313a3023313a3023313a3023313a3023303a5d303a5d33383a33343a313a3023303a5d303a5d32303a313a3023313a3023313a3023313a3023313a30235d5d2c5d, vB 104 0x653532623936306339323a313a3123313a3423313a3023313a3023313a3023313a3023313a3023313a3023313a3023313a3023313a3023303a5d303a5d33383a33343a313a3023303a5d303a5d32303a313a3023313a3023313a3023313a3023313a30235d5d2c5d, vB 104 0x343736636534663239323a313a3123313a3523313a3023313a3023313a3023313a3023313a3023313a3023313a3023313a3023313a3023303a5d303a5d33383a33343a313a3023303a5d303a5d32303a313a3023313a3023313a3023313a3023313a30235d5d2c5d] 9
def Re68 : Ent := ⟨17, [vP 12 0], 237, [(1, Rq0), (2, Rq1), (5, Rq2), (6, Rq2), (10, Rq3), (11, Rq170), (12, Rq132), (61, Rq139), (126, Rq137), (127, Rq141), (183, Rq151), (186, Rq152), (187, Rq153), (204, Rq155), (207, Rq156), (208, Rq157), (225, Rq159), (228, Rq160), (229, Rq161)], vI 0, [(10, some Rq173), (12, some Rq163), (61, some Rq139), (186, some Rq152), (207, some Rq156), (228, some Rq160), (261, some Rq174)], 262, [10, 12, 61, 186, 207, 228], true⟩
theorem Re68_k : chk smS [Me102, Nte50, Nte62] Re68 = true := by kernel_rfl
theorem Re68_c : EO Re68 := eo (l := [Me102, Nte50, Nte62]) smS_ok ⟨Me102_c, Nte50_c, Nte62_c, trivial⟩ Re68_k
def Rq175 : AO := .mp [(vI 4, vP 208 0), (vI 5, vP 229 0)] none
def Rq176 : AO := oR [vP 14 0, vP 234 0, vP 236 0, vP 238 0, vP 36 0, vP 42 0] 100
def Rq177 : AO := oR [vI 1048565, .map (some 237)] 157
def Re69 : Ent := ⟨19, [vP 12 0, vI 3, vI 0], 237, [(11, Rq170), (12, Rq132), (29, Rq8), (30, Rq54), (44, Rq171)], vI 0, [(11, some Rq175), (44, some Rq176), (237, some Rq46), (238, some Rq177)], 239, [11, 44], true⟩
theorem Re69_k : chk smS [] Re69 = true := by kernel_rfl
theorem Re69_c : EO Re69 := eo (l := []) smS_ok trivial Re69_k
def Rq178 : AO := oR [vU 255 0 2] 89
def Rq179 : AO := oR [vB 104 0x653532623936306339323a313a3123313a3423313a3023313a3023313a3023313a3023313a3023313a3023313a3023313a3023313a3023303a5d303a5d33383a33343a313a3023303a5d303a5d32303a313a3023313a3023313a3023313a3023313a30235d5d2c5d, vB 104 0x343736636534663239323a313a3123313a3523313a3023313a3023313a3023313a3023313a3023313a3023313a3023313a3023313a3023303a5d303a5d33383a33343a313a3023303a5d303a5d32303a313a3023313a3023313a3023313a3023313a30235d5d2c5d] 9
def Re70 : Ent := ⟨17, [vP 12 0], 239, [(1, Rq0), (2, Rq1), (5, Rq2), (6, Rq2), (10, Rq3), (11, Rq175), (12, Rq132), (61, Rq139), (126, Rq137), (127, Rq141), (204, Rq155), (207, Rq156), (208, Rq157), (225, Rq159), (228, Rq160), (229, Rq161)], vI 0, [(10, some Rq178), (12, some Rq163), (61, some Rq139), (207, some Rq156), (228, some Rq160), (255, some Rq179)], 256, [10, 12, 61, 207, 228], true⟩
theorem Re70_k : chk smS [Nte50, Nte62] Re70 = true := by kernel_rfl
theorem Re70_c : EO Re70 := eo (l := [Nte50, Nte62]) smS_ok ⟨Nte50_c, Nte62_c, trivial⟩ Re70_k
def Rq180 : AO := .mp [(vI 5, vP 229 0)] none
def Rq181 : AO := oR [vP 14 0, vP 234 0, vP 236 0, vP 238 0, vP 240 0, vP 42 0] 100
def Rq182 : AO := oR [vI 1048565, .map (some 239)] 157
def Re71 : Ent := ⟨19, [vP 12 0, vI 4, vI 0], 239, [(11, Rq175), (12, Rq132), (35, Rq8), (36, Rq90), (44, Rq176)], vI 0, [(11, some Rq180), (44, some Rq181), (239, some Rq46), (240, some Rq182)], 241, [11, 44], true⟩
theorem Re71_k : chk smS [] Re71 = true := by kernel_rfl
theorem Re71_c : EO Re71 := eo (l := []) smS_ok trivial Re71_k
def Rq183 : AO := oR [vU 249 0 1] 89
def Rq184 : AO := oR [vB 104 0x343736636534663239323a313a3123313a3523313a3023313a3023313a3023313a3023313a3023313a3023313a3023313a3023313a3023303a5d303a5d33383a33343a313a3023303a5d303a5d32303a313a3023313a3023313a3023313a3023313a30235d5d2c5d] 9
def Re72 : Ent := ⟨17, [vP 12 0], 241, [(1, Rq0), (2, Rq1), (5, Rq2), (6, Rq2), (10, Rq3), (11, Rq180), (12, Rq132), (61, Rq139), (126, Rq137), (127, Rq141), (225, Rq159), (228, Rq160), (229, Rq161)], vI 0, [(10, some Rq183), (12, some Rq163), (61, some Rq139), (228, some Rq160), (249, some Rq184)], 250, [10, 12, 61, 228], true⟩
theorem Re72_k : chk smS [Nte62] Re72 = true := by kernel_rfl
theorem Re72_c : EO Re72 := eo (l := [Nte62]) smS_ok ⟨Nte62_c, trivial⟩ Re72_k
end
end Go.Proofs.YtikedhemjoljpaaGreatDoor
