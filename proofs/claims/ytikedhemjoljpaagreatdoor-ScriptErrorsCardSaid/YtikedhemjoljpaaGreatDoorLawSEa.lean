/-
  armariumlaw22.ScriptErrors: calls that come in its runs. No condition.
-/
import Derived.Test.YtikedhemjoljpaaGreatDoorLawS0
namespace Go.Proofs.YtikedhemjoljpaaGreatDoor
noncomputable section
open Go Go.Eng
set_option maxRecDepth 1000000
def Nsq0 : AO := .row [.int .u64 1, .int .u64 10, .int .u64 100, .int .u64 1000, .int .u64 10000, .int .u64 100000, .int .u64 1000000, .int .u64 10000000, .int .u64 100000000, .int .u64 1000000000, .int .u64 10000000000, .int .u64 100000000000, .int .u64 1000000000000, .int .u64 10000000000000, .int .u64 100000000000000, .int .u64 1000000000000000, .int .u64 10000000000000000, .int .u64 100000000000000000, .int .u64 1000000000000000000, .int .u64 10000000000000000000] 0 true
def Nsq1 : AO := .row [.tuple #[.chan (some 4), vI 0]] 0 true
def Nsq2 : AO := .row [.tuple #[.chan (some 3), .bool false]] 0 true
def Nse22 : Ent := ⟨221, [.agg #[vI 0, .slice none 0 0, .slice none 0 0, vI 0, vI 0, vI 0, vI 0, vI 0, .slice none 0 0, vI 0, vI 0]], 10, [], vB 57 0x35333a33383a33343a313a3023303a5d303a5d32303a313a3023313a3023313a3023313a3023313a30235d5d2c303a5d313a3023313a30235d, [], 38, [], false⟩
theorem Nse22_k : chk smZ [Me48, Me46, Me4, Me47] Nse22 = true := by kernel_rfl
theorem Nse22_c : EO Nse22 := eo (l := [Me48, Me46, Me4, Me47]) smZ_ok ⟨Me48_c, Me46_c, Me4_c, Me47_c, trivial⟩ Nse22_k
def Nse23 : Ent := ⟨149, [vB 57 0x35333a33383a33343a313a3023303a5d303a5d32303a313a3023313a3023313a3023313a3023313a30235d5d2c303a5d313a3023313a30235d], 10, [(1, Nsq0), (2, Nsq1), (5, Nsq2), (6, Nsq2)], vB 69 0x666434346334646435373a35333a33383a33343a313a3023303a5d303a5d32303a313a3023313a3023313a3023313a3023313a30235d5d2c303a5d313a3023313a30235d2c, [], 31, [], false⟩
theorem Nse23_k : chk smZ [] Nse23 = true := by kernel_rfl
theorem Nse23_c : EO Nse23 := eo (l := []) smZ_ok trivial Nse23_k
def Tq0 : AO := .row [.int .u64 1, .int .u64 10, .int .u64 100, .int .u64 1000, .int .u64 10000, .int .u64 100000, .int .u64 1000000, .int .u64 10000000, .int .u64 100000000, .int .u64 1000000000, .int .u64 10000000000, .int .u64 100000000000, .int .u64 1000000000000, .int .u64 10000000000000, .int .u64 100000000000000, .int .u64 1000000000000000, .int .u64 10000000000000000, .int .u64 100000000000000000, .int .u64 1000000000000000000, .int .u64 10000000000000000000] 0 true
def Tq1 : AO := .row [.tuple #[.chan (some 4), vI 0]] 0 true
def Tq2 : AO := .row [.tuple #[.chan (some 3), .bool false]] 0 true
def Tq3 : AO := oR [.slice none 0 0] 89
def Tq4 : AO := .mp [(vI 1, vP 106 0), (vI 2, vP 127 0)] (some ([0, 1], 2))
def Tq5 : AO := oR [vP 10 0, vU 26 0 3, vI 1, vU 28 0 2, vI 0, vP 43 0, .map (some 11), vI 0] 93
def Tq6 : AO := .mp [(vB 3 0x4c4f47, .agg #[vB 43 0x3030303030303031303a2c636433653737316432303a31363a313a3123313a3023313a3123313a32235d2c, vI 43, .bool true])] (some ([0], 1))
def Tq7 : AO := oR [vI 1048533, .map (some 13)] 157
def Tq8 : AO := .mp [(vB 3 0x4c4f47, .agg #[vB 11 0x3030303030303031303a2c, vI 11, .bool true])] (some ([0], 1))
def Tq9 : AO := oR [vI 1048565, .map (some 17)] 157
def Tq10 : AO := oR [vI 1048565, .map (some 23)] 157
def Tq11 : AO := oR [vP 14 0, vP 18 0, vP 24 0] 100
def Tq12 : AO := oR [vI 1, vI 2] 3
def Tq13 : AO := oR [vP 14 0, v0, vU 82 0 1, .bool false] 223
def Tq14 : AO := oR [vP 33 0, vI 1, vU 87 0 2, vI 0, vI 0, .slice none 0 0, vI 0, vI 0, .map (some 88), vI 0, .bool false, .bool false] 121
def Tq15 : AO := oR [vB 20 0x31363a313a3123313a3023313a3123313a32235d] 9
def Tq16 : AO := .mp [(vI 1, vI 0), (vI 2, vI 0)] (some ([0, 1], 2))
def Tq17 : AO := oR [vP 18 0, v0, .slice (some ⟨101, 1, some 0⟩) 0 9223372036854775808, .bool false] 223
def Tq18 : AO := oR [vP 92 0, vI 0, .slice none 0 0, .slice none 0 0, vI 0, vI 0, vI 0, vI 0, vI 0, .slice none 0 0, vI 0, vI 0, .bool false] 174
def Tq19 : AO := oR [vI 1, vP 102 0, vI 0, .slice none 0 0, vI 0, vI 0, .slice none 0 0] 170
def Tq20 : AO := oR [vI 1, vP 18 0, vP 105 0, vN, vN, vN, vN, vN, vN, vN, vN, vI 1] 134
def Tq21 : AO := oR [vP 24 0, v0, .slice (some ⟨122, 1, some 0⟩) 0 9223372036854775808, .bool false] 223
def Tq22 : AO := oR [vP 113 0, vI 0, .slice none 0 0, .slice none 0 0, vI 0, vI 0, vI 0, vI 0, vI 0, .slice none 0 0, vI 0, vI 0, .bool false] 174
def Tq23 : AO := oR [vI 2, vP 123 0, vI 0, .slice none 0 0, vI 0, vI 0, .slice none 0 0] 170
def Tq24 : AO := oR [vI 2, vP 24 0, vP 126 0, vN, vN, vN, vN, vN, vN, vN, vN, vI 1] 134
def Tq25 : AO := .mp [] (some ([], 0))
def Tq26 : AO := oR [vP 12 0, .map (some 131)] 115
def Te8 : Ent := ⟨33, [vI 2], 10, [(1, Tq0), (2, Tq1), (5, Tq2), (6, Tq2)], vP 132 0, [(10, some Tq3), (11, some Tq4), (12, some Tq5), (13, some Tq6), (14, some Tq7), (17, some Tq8), (18, some Tq9), (23, some Tq8), (24, some Tq10), (26, some Tq11), (28, some Tq12), (33, some Tq13), (43, some Tq14), (82, some Tq15), (87, some Tq12), (88, some Tq16), (92, some Tq17), (101, some (oR [v0] 9)), (102, some Tq18), (105, some Tq19), (106, some Tq20), (113, some Tq21), (122, some (oR [v0] 9)), (123, some Tq22), (126, some Tq23), (127, some Tq24), (131, some Tq25), (132, some Tq26)], 133, [], true⟩
theorem Te8_k : chk smS [Me26, Me23, Me21, Me24, Me15, Me4, Me1, Me42] Te8 = true := by kernel_rfl
theorem Te8_c : EO Te8 := eo (l := [Me26, Me23, Me21, Me24, Me15, Me4, Me1, Me42]) smS_ok ⟨Me26_c, Me23_c, Me21_c, Me24_c, Me15_c, Me4_c, Me1_c, Me42_c, trivial⟩ Te8_k
def Tq27 : AO := .mp [(.agg #[vI 1, vI 0], v0), (.agg #[vI 1, vI 1], v0), (.agg #[vI 1, vI 2], v0), (.agg #[vI 1, vI 3], v0), (.agg #[vI 1, vI 4], v0), (.agg #[vI 1, vI 5], v0), (.agg #[vI 1, vI 6], v0), (.agg #[vI 1, vI 7], v0), (.agg #[vI 2, vI 0], v0), (.agg #[vI 2, vI 1], v0), (.agg #[vI 2, vI 2], v0), (.agg #[vI 2, vI 3], v0), (.agg #[vI 2, vI 4], v0), (.agg #[vI 2, vI 5], v0), (.agg #[vI 2, vI 6], v0), (.agg #[vI 2, vI 7], v0), (.agg #[vI 3, vI 0], v0), (.agg #[vI 3, vI 1], v0), (.agg #[vI 3, vI 2], v0), (.agg #[vI 3, vI 3], v0), (.agg #[vI 3, vI 4], v0), (.agg #[vI 3, vI 5], v0), (.agg #[vI 3, vI 6], v0), (.agg #[vI 3, vI 7], v0), (.agg #[vI 4, vI 0], v0), (.agg #[vI 4, vI 1], v0), (.agg #[vI 4, vI 2], v0), (.agg #[vI 4, vI 3], v0), (.agg #[vI 4, vI 4], v0), (.agg #[vI 4, vI 5], v0), (.agg #[vI 4, vI 6], v0), (.agg #[vI 4, vI 7], v0), (.agg #[vI 5, vI 0], v0), (.agg #[vI 5, vI 1], v0), (.agg #[vI 5, vI 2], v0), (.agg #[vI 5, vI 3], v0), (.agg #[vI 5, vI 4], v0), (.agg #[vI 5, vI 5], v0), (.agg #[vI 5, vI 6], v0), (.agg #[vI 5, vI 7], v0)] (some ([0, 1, 2, 3, 4, 5, 6, 7, 8, 9, 10, 11, 12, 13, 14, 15, 16, 17, 18, 19, 20, 21, 22, 23, 24, 25, 26, 27, 28, 29, 30, 31, 32, 33, 34, 35, 36, 37, 38, 39], 40))
def Te9 : Ent := ⟨58, [vP 132 0], 134, [(11, Tq4), (12, Tq5), (106, Tq20), (127, Tq24), (131, Tq25), (132, Tq26)], .tuple #[], [(131, some Tq27)], 134, [131], false⟩
theorem Te9_k : chk smS [] Te9 = true := by kernel_rfl
theorem Te9_c : EO Te9 := eo (l := []) smS_ok trivial Te9_k
def Te10 : Ent := ⟨58, [vP 132 0], 135, [(11, Tq4), (12, Tq5), (106, Tq20), (127, Tq24), (131, Tq27), (132, Tq26)], .tuple #[], [(131, some Tq27)], 135, [131], false⟩
theorem Te10_k : chk smS [] Te10 = true := by kernel_rfl
theorem Te10_c : EO Te10 := eo (l := []) smS_ok trivial Te10_k
def Tq28 : AO := oR [vI 1, vP 18 0, vP 105 0, vP 137 0, vN, vN, vN, vN, vN, vN, vN, vI 2] 134
def Tq29 : AO := oR [vP 135 0, .slice (some ⟨153, 5, some 0⟩) 0 9223372036854775808, vI 4, v0, vI 0, v0, vI 0, v0, v0, v0, vI 20, .bool false, .bool true, v0, .bool false] 207
def Tq30 : AO := oR [vP 136 0, vI 4294967297, vI 0, v0, v0, vI 0, vI 0, v0, vI 0, vI 0, .bool false, vI 0] 140
def Te11 : Ent := ⟨58, [vP 132 0], 174, [(11, Tq4), (12, Tq5), (106, Tq28), (127, Tq24), (131, Tq27), (132, Tq26), (136, Tq29), (137, Tq30)], .tuple #[], [(131, some Tq27), (136, some Tq29)], 174, [131, 136], false⟩
theorem Te11_k : chk smS [] Te11 = true := by kernel_rfl
theorem Te11_c : EO Te11 := eo (l := []) smS_ok trivial Te11_k
def Tq31 : AO := oR [vI 2, vP 24 0, vP 126 0, vP 137 0, vN, vN, vN, vN, vN, vN, vN, vI 2] 134
def Tq32 : AO := oR [vP 136 0, vI 8589934593, vI 0, v0, v0, vI 0, vI 0, v0, vI 0, vI 0, .bool false, vI 0] 140
def Te12 : Ent := ⟨58, [vP 132 0], 174, [(11, Tq4), (12, Tq5), (106, Tq20), (127, Tq31), (131, Tq27), (132, Tq26), (136, Tq29), (137, Tq32)], .tuple #[], [(131, some Tq27), (136, some Tq29)], 174, [131, 136], false⟩
theorem Te12_k : chk smS [] Te12 = true := by kernel_rfl
theorem Te12_c : EO Te12 := eo (l := []) smS_ok trivial Te12_k
def Tq33 : AO := oR [vP 10 0, vU 26 0 3, vI 1, vU 28 0 2, vI 0, vP 43 0, .map (some 11), vI 1] 93
def Te18 : Ent := ⟨58, [vP 132 0], 152, [(11, Tq4), (12, Tq33), (106, Tq20), (127, Tq24), (131, Tq27), (132, Tq26)], .tuple #[], [(131, some Tq27)], 152, [131], false⟩
theorem Te18_k : chk smS [] Te18 = true := by kernel_rfl
theorem Te18_c : EO Te18 := eo (l := []) smS_ok trivial Te18_k
def Tq34 : AO := .mp [(vI 1, vP 106 0), (vI 2, vP 127 0)] none
def Tq35 : AO := oR [vP 10 0, vU 26 0 3, vI 1, vU 28 0 2, vI 0, vN, .map (some 11), vI 0] 93
def Te19 : Ent := ⟨58, [vP 132 0], 137, [(11, Tq34), (12, Tq35), (106, Tq20), (127, Tq24), (131, Tq27), (132, Tq26)], .tuple #[], [(131, some Tq27)], 137, [131], false⟩
theorem Te19_k : chk smS [] Te19 = true := by kernel_rfl
theorem Te19_c : EO Te19 := eo (l := []) smS_ok trivial Te19_k
def Tq36 : AO := .mp [(vI 2, vP 127 0)] none
def Te20 : Ent := ⟨58, [vP 132 0], 137, [(11, Tq36), (12, Tq5), (127, Tq24), (131, Tq27), (132, Tq26)], .tuple #[], [(131, some Tq27)], 137, [131], false⟩
theorem Te20_k : chk smS [] Te20 = true := by kernel_rfl
theorem Te20_c : EO Te20 := eo (l := []) smS_ok trivial Te20_k
def Tq37 : AO := .mp [(vI 1, vP 106 0)] none
def Te21 : Ent := ⟨58, [vP 132 0], 137, [(11, Tq37), (12, Tq5), (106, Tq20), (131, Tq27), (132, Tq26)], .tuple #[], [(131, some Tq27)], 137, [131], false⟩
theorem Te21_k : chk smS [] Te21 = true := by kernel_rfl
theorem Te21_c : EO Te21 := eo (l := []) smS_ok trivial Te21_k
end
end Go.Proofs.YtikedhemjoljpaaGreatDoor
