/-
  armariumlaw21.NodeDone: calls that are run by themselves. No condition.
-/
import Derived.Test.YtdegbhgoldglaaaGreatDoorEN
import Derived.Test.YtdegbhgoldglaaaGreatDoorEng10
namespace Go.Proofs.YtdegbhgoldglaaaGreatDoor
noncomputable section
open Go Go.Eng
set_option maxRecDepth 1000000
def smD2 : FuncId → List Value → Option Value := (sumT 7 (sumT 44 (sumT 36 (sumT 158 (sumT 335 (sumT 315 (sumT 444 (sumT 314 (sumT 443 (sumT 477 (sumI sum0)))))))))))
theorem smD2_ok : SumOK smD2 := (env_more (env_more (env_more (env_more (env_more (env_more (env_more (env_more (env_more (env_more (env_idx env0) A_run) C_run) D_run) B_run) G_run) K_run) L_run) J_run) M_run) N_run)
def D2q0 : AO := .row [.int .u64 1, .int .u64 10, .int .u64 100, .int .u64 1000, .int .u64 10000, .int .u64 100000, .int .u64 1000000, .int .u64 10000000, .int .u64 100000000, .int .u64 1000000000, .int .u64 10000000000, .int .u64 100000000000, .int .u64 1000000000000, .int .u64 10000000000000, .int .u64 100000000000000, .int .u64 1000000000000000, .int .u64 10000000000000000, .int .u64 100000000000000000, .int .u64 1000000000000000000, .int .u64 10000000000000000000] 0 true
def D2q1 : AO := .row [.tuple #[.chan (some 3), .bool false]] 0 true
def D2q2 : AO := .row [.tuple #[.chan (some 4), vI 0]] 0 true
def D2q3 : AO := .mp [] (some ([], 0))
def D2q4 : AO := oR [vI 1048576, .map (some 11)] 71
def D2q5 : AO := .mp [(vB 3 0x4c4f47, .agg #[vB 11 0x3030303030303031303a2c, vI 11, .bool true])] (some ([0], 1))
def D2q6 : AO := oR [vI 1048565, .map (some 11)] 71
def D2q7 : AO := oR [vP 12 0, v0, .slice (some ⟨77, 1, some 0⟩) 0 9223372036854775808, .bool false] 163
def D2q8 : AO := oR [vP 17 0, vI 0, .slice none 0 0, .slice none 0 0, vI 0, vI 0, vI 0, vI 0, vI 0, .slice none 0 0, vI 0, vI 0, .bool false] 102
def D2q9 : AO := oR [vI 3, vP 78 0, vI 0, .slice none 0 0, vI 0, vI 0, .slice none 0 0] 97
def D2q10 : AO := oR [vI 3, vP 12 0, vP 81 0, vN, vN, vN, vN, vN, vN, vN, vN, vI 1] 75
def D2e0 : Ent := ⟨14, [vI 3, vP 12 0, vI 0], 13, [(0, D2q0), (1, D2q1), (2, D2q1), (5, D2q2), (11, D2q3), (12, D2q4)], .tuple #[vP 82 0, vI 0], [(11, some D2q5), (12, some D2q6), (17, some D2q7), (77, some (oR [v0] 9)), (78, some D2q8), (81, some D2q9), (82, some D2q10)], 86, [11, 12], true⟩
-- COST 1961
theorem D2e0_k : chk smD2 [] D2e0 = true := by kernel_rfl
theorem D2e0_c : EO D2e0 := eo (l := []) smD2_ok trivial D2e0_k
def D2q11 : AO := oR [vI 1, vI 2, vI 3] 3
def D2q12 : AO := .mp [(vB 3 0x4c4f47, .agg #[vB 34 0x3030303030303031303a2c303933316233306631313a383a313a3323313a31235d2c, vI 34, .bool true])] (some ([0], 1))
def D2q13 : AO := oR [vI 1048542, .map (some 11)] 71
def D2q14 : AO := oR [vP 12 0, v0, vU 145 0 1, .bool false] 163
def D2q15 : AO := oR [vP 17 0, vI 0, .slice none 0 0, .slice none 0 0, vI 0, vI 0, vI 0, vI 0, vI 0, .slice none 0 0, vI 1, vI 0, .bool false] 102
def D2q16 : AO := oR [vI 3, vP 78 0, vI 1, vU 150 0 3, vI 0, vI 1048576, .slice none 0 0] 97
def D2q17 : AO := oR [vB 11 0x383a313a3323313a31235d] 9
def D2e1 : Ent := ⟨15, [vP 82 0, .agg #[vI 2, vI 0, vI 3, vI 0, vI 0, vI 0, vI 1048576, vI 0, vI 0, vI 1, vS 86 0 3 3, vI 0, .slice none 0 0, vI 0, .slice none 0 0, .slice none 0 0, vI 0, vI 0, vI 0, vI 0, vI 0], vI 0], 87, [(0, D2q0), (1, D2q1), (2, D2q1), (5, D2q2), (11, D2q5), (12, D2q6), (17, D2q7), (77, (oR [v0] 9)), (78, D2q8), (81, D2q9), (82, D2q10), (86, D2q11)], .slice none 0 0, [(11, some D2q12), (12, some D2q13), (17, some D2q14), (77, none), (78, some D2q15), (81, some D2q16), (145, some D2q17), (150, some D2q11)], 157, [11, 12, 17, 77, 78, 81], true⟩
-- COST 2384
theorem D2e1_k : chk smD2 [] D2e1 = true := by kernel_rfl
theorem D2e1_c : EO D2e1 := eo (l := []) smD2_ok trivial D2e1_k
def D2q18 : AO := .mp [(vB 3 0x4c4f47, .agg #[vB 34 0x3030303030303031303a2c303933316233306631313a383a313a3323313a31235d2c, vI 34, .bool true]), (vB 3 0x524551, .agg #[vB 1 0x2e, vI 1, .bool true])] (some ([0, 1], 2))
def D2q19 : AO := oR [vI 1048541, .map (some 11)] 71
def D2q20 : AO := oR [vI 3, vP 12 0, vP 81 0, vN, vN, vN, vN, vN, vP 159 0, vN, vN, vI 2] 75
def D2q21 : AO := oR [vI 0, vI 0, vI 0, vI 0, .slice none 0 0, v0, v0, v0, .slice none 0 0, v0, vI 0, .slice none 0 0] 150
def D2q22 : AO := oR [vP 157 0, .slice (some ⟨179, 5, some 0⟩) 0 9223372036854775808, vI 2, vB 1 0x6b, vI 0, v0, vI 0, v0, v0, v0, vI 0, .bool false, .bool true, v0, .bool false] 109
def D2q23 : AO := oR [vP 158 0, vI 12884901889, vI 1, vB 1 0x6b, v0, vI 0, vI 0, v0, vI 12884901889, vI 12884901889, .bool true, vI 1] 79
def D2q24 : AO := oR [vB 3 0x505554, vB 4 0x2f6f2f6b, v0, .slice none 0 0, v0] 148
def D2q25 : AO := oR [vI 1, vB 1 0x6b, v0, vI 0, vI 0, v0, vI 12884901889, vI 12884901889] 57
def D2q26 : AO := oR [vI 3, vI 3, vI 1, vI 1, vI 0, vI 0, vI 0, vI 0, vI 0, vI 0, .slice none 0 0, vI 0, vS 209 0 1 1, vI 0, .slice none 0 0, .slice none 0 0, vI 0, vI 0, vI 0, vI 0, vI 0] 55
def D2e2 : Ent := ⟨10, [vP 82 0, vI 5, vB 21 0x505554202f6f2f6b20485454502f312e310d0a0d0a, vI 1], 157, [(1, D2q1), (11, D2q12), (12, D2q13), (81, D2q16), (82, D2q10), (150, D2q11)], vU 213 0 1, [(11, some D2q18), (12, some D2q19), (81, some D2q16), (82, some D2q20), (157, some D2q21), (158, some D2q22), (159, some D2q23), (179, some D2q24), (209, some D2q25), (213, some D2q26)], 214, [11, 12, 81, 82], true⟩
-- COST 4833
theorem D2e2_k : chk smD2 [] D2e2 = true := by kernel_rfl
theorem D2e2_c : EO D2e2 := eo (l := []) smD2_ok trivial D2e2_k
def D2os : List (Nat × AO) := [(11, D2q18), (12, D2q19), (17, D2q14), (78, D2q15), (81, D2q16), (82, D2q20), (145, D2q17), (150, D2q11), (157, D2q21), (158, D2q22), (159, D2q23), (179, D2q24)]
def D2rs : List (Nat × Value) := [(6, vP 82 0), (9, vI 12884901889)]
def D3q0 : AO := .row [.int .u64 1, .int .u64 10, .int .u64 100, .int .u64 1000, .int .u64 10000, .int .u64 100000, .int .u64 1000000, .int .u64 10000000, .int .u64 100000000, .int .u64 1000000000, .int .u64 10000000000, .int .u64 100000000000, .int .u64 1000000000000, .int .u64 10000000000000, .int .u64 100000000000000, .int .u64 1000000000000000, .int .u64 10000000000000000, .int .u64 100000000000000000, .int .u64 1000000000000000000, .int .u64 10000000000000000000] 0 true
def D3q1 : AO := .row [.tuple #[.chan (some 3), .bool false]] 0 true
def D3q2 : AO := .row [.tuple #[.chan (some 4), vI 0]] 0 true
def D3q3 : AO := oR [vP 17 0, vI 0, .slice none 0 0, .slice none 0 0, vI 0, vI 0, vI 0, vI 0, vI 0, .slice none 0 0, vI 1, vI 0, .bool false] 102
def D3q4 : AO := oR [vI 3, vP 78 0, vI 1, vU 150 0 3, vI 0, vI 1048576, vU 224 0 1] 97
def D3q5 : AO := oR [vI 3, vP 12 0, vP 81 0, vN, vN, vN, vN, vN, vP 159 0, vN, vN, vI 2] 75
def D3q6 : AO := oR [vI 0, vI 0, vI 0, vI 0, .slice none 0 0, v0, v0, v0, .slice none 0 0, v0, vI 0, .slice none 0 0] 150
def D3q7 : AO := oR [vP 157 0, .slice (some ⟨179, 5, some 0⟩) 0 9223372036854775808, vI 2, vB 1 0x6b, vI 0, v0, vI 0, v0, v0, v0, vI 0, .bool false, .bool true, v0, .bool false] 109
def D3q8 : AO := oR [vP 158 0, vI 12884901889, vI 1, vB 1 0x6b, v0, vI 0, vI 0, v0, vI 12884901889, vI 12884901889, .bool true, vI 1] 79
def D3q9 : AO := oR [vI 7, vI 1, vI 3, vI 1, vI 0, vI 12884901889, vI 0, vI 0, vI 9, vI 0, .slice none 0 0, vI 0, .slice none 0 0, vI 0, .slice none 0 0, .slice none 0 0, vI 0, vI 0, vI 0, vI 0, vI 0] 55
def D3q10 : AO := oR [vI 3, vP 78 0, vI 1, vU 150 0 3, vI 0, vI 1048576, .slice none 0 0] 97
def D3q11 : AO := oR [vP 157 0, .slice (some ⟨179, 5, some 0⟩) 0 9223372036854775808, vI 0, v0, vI 0, v0, vI 0, v0, v0, v0, vI 0, .bool false, .bool false, vB 68 0x485454502f312e3120323030204f4b0d0a56657273696f6e3a20390d0a455461673a20223030303030303031220d0a436f6e74656e742d4c656e6774683a20300d0a0d0a, .bool false] 109
def D3q12 : AO := oR [vP 158 0, vI 0, vI 0, v0, v0, vI 0, vI 0, v0, vI 0, vI 0, .bool true, vI 1] 79
def D3e0 : Ent := ⟨26, [vP 82 0, vI 1], 225, [(0, D3q0), (1, D3q1), (2, D3q1), (5, D3q2), (78, D3q3), (81, D3q4), (82, D3q5), (157, D3q6), (158, D3q7), (159, D3q8), (224, D3q9)], .slice none 0 0, [(81, some D3q10), (158, some D3q11), (159, some D3q12)], 332, [81, 158, 159], false⟩
-- COST 8019
theorem D3e0_k : chk smD2 [] D3e0 = true := by kernel_rfl
theorem D3e0_c : EO D3e0 := eo (l := []) smD2_ok trivial D3e0_k
def D3e1 : Ent := ⟨15, [vP 82 0, .agg #[vI 7, vI 1, vI 3, vI 1, vI 0, vI 12884901889, vI 0, vI 0, vI 9, vI 0, .slice none 0 0, vI 0, .slice none 0 0, vI 0, .slice none 0 0, .slice none 0 0, vI 0, vI 0, vI 0, vI 0, vI 0], vI 1], 214, [(0, D3q0), (1, D3q1), (2, D3q1), (5, D3q2), (78, D3q3), (81, D3q10), (82, D3q5), (157, D3q6), (158, D3q7), (159, D3q8)], .slice none 0 0, [(81, some D3q10), (158, some D3q11), (159, some D3q12)], 225, [81, 158, 159], false⟩
-- COST 468
theorem D3e1_k : chk smD2 [D3e0] D3e1 = true := by kernel_rfl
theorem D3e1_c : EO D3e1 := eo (l := [D3e0]) smD2_ok ⟨D3e0_c, trivial⟩ D3e1_k
def D3e2 : Ent := ⟨15, [vP 82 0, .agg #[vI 7, vI 1, vI 3, vI 1, vI 0, vI 12884901889, vI 0, vI 0, vI 9, vI 0, .slice none 0 0, vI 0, .slice none 0 0, vI 0, .slice none 0 0, .slice none 0 0, vI 0, vI 0, vI 0, vI 0, vI 0], vI 1], 214, [(81, D3q10), (82, D3q5), (158, D3q11), (159, D3q12)], .slice none 0 0, [(81, some D3q10)], 229, [81], false⟩
-- COST 958
theorem D3e2_k : chk smD2 [] D3e2 = true := by kernel_rfl
theorem D3e2_c : EO D3e2 := eo (l := []) smD2_ok trivial D3e2_k
end
end Go.Proofs.YtdegbhgoldglaaaGreatDoor
