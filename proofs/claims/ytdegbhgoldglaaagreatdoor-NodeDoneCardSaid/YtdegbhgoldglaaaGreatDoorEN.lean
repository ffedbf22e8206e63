/-
  A closed run, cut into calls that are run by themselves. No condition.
-/
import Derived.Test.YtdegbhgoldglaaaGreatDoorEM
import Derived.Test.YtdegbhgoldglaaaGreatDoorEJ
namespace Go.Proofs.YtdegbhgoldglaaaGreatDoor
noncomputable section
open Go Go.Eng
set_option maxRecDepth 1000000
noncomputable def smN := (sumT 44 (sumT 36 (sumT 158 (sumT 335 (sumT 315 (sumT 444 (sumT 314 (sumT 443 (sumT 477 (sumI sum0))))))))))
theorem smN_ok : SumOK smN := (env_more (env_more (env_more (env_more (env_more (env_more (env_more (env_more (env_more (env_idx env0) A_run) C_run) D_run) B_run) G_run) K_run) L_run) J_run) M_run)
def Nq0 : AO := oR [vI 0, vI 0, vI 0, vI 0, .slice none 0 0, v0, v0, v0, .slice none 0 0, v0, vI 0, .slice none 0 0] 150
def Nq1 : AO := oR [vP 156 0, .slice none 0 0, vI 0, v0, vI 0, v0, vI 0, v0, v0, v0, vI 0, .bool false, .bool false, v0, .bool false] 109
def Nq2 : AO := oR [vP 156 0, .slice (some ⟨222, 5, some 0⟩) 0 9223372036854775808, vI 2, vB 1 0x6b, vI 0, vB 1 0x76, vI 0, v0, v0, v0, vI 0, .bool false, .bool true, v0, .bool false] 109
def Nq3 : AO := oR [vB 14 0x436f6e74656e742d4c656e677468, vB 1 0x31] 65
def Nq4 : AO := oR [vB 3 0x505554, vB 4 0x2f6f2f6b, v0, vU 202 0 1, vB 1 0x76] 148
def Ne0 : Ent := ⟨25, [vP 157 0, vB 41 0x505554202f6f2f6b20485454502f312e310d0a436f6e74656e742d4c656e6774683a20310d0a0d0a76], 159, [(156, Nq0), (157, Nq1)], .tuple #[], [(156, some Nq0), (157, some Nq2), (202, some Nq3), (222, some Nq4)], 240, [156, 157], true⟩
-- COST 9272
theorem Ne0_k : chk smN [] Ne0 = true := by kernel_rfl
theorem Ne0_c : EO Ne0 := eo (l := []) smN_ok trivial Ne0_k
def Nq5 : AO := .row [.int .u64 1, .int .u64 10, .int .u64 100, .int .u64 1000, .int .u64 10000, .int .u64 100000, .int .u64 1000000, .int .u64 10000000, .int .u64 100000000, .int .u64 1000000000, .int .u64 10000000000, .int .u64 100000000000, .int .u64 1000000000000, .int .u64 10000000000000, .int .u64 100000000000000, .int .u64 1000000000000000, .int .u64 10000000000000000, .int .u64 100000000000000000, .int .u64 1000000000000000000, .int .u64 10000000000000000000] 0 true
def Nq6 : AO := .row [.tuple #[.chan (some 3), .bool false]] 0 true
def Nq7 : AO := .row [.tuple #[.chan (some 4), vI 0]] 0 true
def Nq8 : AO := .mp [(vB 3 0x4c4f47, .agg #[vB 34 0x3030303030303031303a2c303933316233306631313a383a313a3323313a31235d2c, vI 34, .bool true])] (some ([0], 1))
def Nq9 : AO := oR [vI 1048542, .map (some 10)] 71
def Nq10 : AO := oR [vP 11 0, v0, vU 144 0 1, .bool false] 163
def Nq11 : AO := oR [vP 16 0, vI 0, .slice none 0 0, .slice none 0 0, vI 0, vI 0, vI 0, vI 0, vI 0, .slice none 0 0, vI 1, vI 0, .bool false] 102
def Nq12 : AO := oR [vI 2, vP 77 0, vI 1, vU 149 0 1, vI 0, vI 1073741824, .slice none 0 0] 97
def Nq13 : AO := oR [vI 2, vP 11 0, vP 80 0, vN, vN, vN, vP 158 0, vN, vN, vN, vN, vI 1] 75
def Nq14 : AO := oR [vB 11 0x383a313a3323313a31235d] 9
def Nq15 : AO := oR [vP 157 0, vI 0, vI 0, v0, v0, vI 0, vI 0, v0, vI 0, vI 0, .bool false, vI 0] 79
def Nq16 : AO := .mp [(vB 3 0x4c4f47, .agg #[vB 132 0x3030303030303031303a2c303933316233306631313a383a313a3323313a31235d2c663465353663373436333a35393a313a312335313a313a3123313a6b2c313a762c313a3023313a3023303a2c31303a383538393933343539332331303a38353839393334353933235d5d2c373036326332383731313a383a313a3223313a31235d2c, vI 109, .bool true]), (vB 3 0x524551, .agg #[vB 1 0x2e, vI 1, .bool true])] (some ([0, 1], 2))
def Nq17 : AO := oR [vI 1048443, .map (some 10)] 71
def Nq18 : AO := oR [vP 11 0, v0, vU 474 0 3, .bool false] 163
def Nq19 : AO := oR [vP 16 0, vI 1, vU 419 0 1, vU 422 0 1, vI 0, vI 8589934593, vI 0, vI 0, vI 0, .slice (some ⟨280, 8, some 0⟩) 0 9223372036854775808, vI 1, vI 0, .bool false] 102
def Nq20 : AO := oR [vI 2, vP 11 0, vP 80 0, vN, vN, vN, vP 158 0, vN, vN, vN, vN, vI 2] 75
def Nq21 : AO := oR [vP 156 0, .slice (some ⟨222, 5, some 0⟩) 0 9223372036854775808, vI 0, v0, vI 0, v0, vI 0, v0, v0, v0, vI 0, .bool false, .bool false, vB 68 0x485454502f312e3120323030204f4b0d0a56657273696f6e3a20310d0a455461673a20223030373230303033220d0a436f6e74656e742d4c656e6774683a20300d0a0d0a, .bool false] 109
def Nq22 : AO := oR [vP 157 0, vI 0, vI 0, v0, v0, vI 0, vI 0, v0, vI 0, vI 0, .bool true, vI 1] 79
def Nq23 : AO := oR [vI 1, vB 1 0x6b, vB 1 0x76, vI 0, vI 0, v0, vI 8589934593, vI 8589934593] 57
def Nq24 : AO := oR [vI 1, .bool false, vB 1 0x76] 200
def Nq25 : AO := oR [vB 1 0x6b, vU 417 0 1] 216
def Nq26 : AO := oR [vI 8589934593, vI 0, vI 1] 241
def Nq27 : AO := oR [vB 11 0x383a313a3323313a31235d, vB 63 0x35393a313a312335313a313a3123313a6b2c313a762c313a3023313a3023303a2c31303a383538393933343539332331303a38353839393334353933235d5d, vB 11 0x383a313a3223313a31235d] 9
def Ne1 : Ent := ⟨26, [vP 81 0, vI 1], 240, [(0, Nq5), (1, Nq6), (2, Nq6), (5, Nq7), (10, Nq8), (11, Nq9), (16, Nq10), (77, Nq11), (80, Nq12), (81, Nq13), (144, Nq14), (149, (oR [vI 2] 3)), (156, Nq0), (157, Nq2), (158, Nq15)], .slice none 0 0, [(10, some Nq16), (11, some Nq17), (16, some Nq18), (77, some Nq19), (80, some Nq12), (81, some Nq20), (144, none), (157, some Nq21), (158, some Nq22), (280, some Nq23), (417, some Nq24), (419, some Nq25), (422, some Nq26), (474, some Nq27)], 595, [10, 11, 16, 77, 80, 81, 144, 157, 158], true⟩
-- COST 15130
theorem Ne1_k : chk smN [] Ne1 = true := by kernel_rfl
theorem Ne1_c : EO Ne1 := eo (l := []) smN_ok trivial Ne1_k
def Nq28 : AO := oR [vP 156 0, .slice (some ⟨614, 5, some 0⟩) 0 9223372036854775808, vI 1, vB 1 0x6b, vI 0, v0, vI 0, v0, v0, v0, vI 0, .bool false, .bool true, v0, .bool false] 109
def Nq29 : AO := oR [vP 156 0, .slice (some ⟨614, 5, some 0⟩) 0 9223372036854775808, vI 0, v0, vI 0, v0, vI 0, v0, v0, v0, vI 0, .bool false, .bool false, vB 69 0x485454502f312e3120323030204f4b0d0a455461673a20223030373230303033220d0a56657273696f6e3a20310d0a436f6e74656e742d4c656e6774683a20310d0a0d0a76, .bool false] 109
def Ne2 : Ent := ⟨49, [vP 81 0, vI 1], 623, [(0, Nq5), (1, Nq6), (2, Nq6), (5, Nq7), (77, Nq19), (80, Nq12), (81, Nq20), (149, (oR [vI 2] 3)), (156, Nq0), (157, Nq28), (158, Nq22), (417, Nq24), (419, Nq25), (422, Nq26)], .slice none 0 0, [(157, some Nq29)], 748, [157], false⟩
-- COST 8157
theorem Ne2_k : chk smN [] Ne2 = true := by kernel_rfl
theorem Ne2_c : EO Ne2 := eo (l := []) smN_ok trivial Ne2_k
def Nq30 : AO := oR [vB 4 0x45546167, vB 10 0x22303037323030303322, vB 7 0x56657273696f6e, vB 1 0x31] 65
def Ne3 : Ent := ⟨11, [vB 69 0x485454502f312e3120323030204f4b0d0a455461673a20223030373230303033220d0a56657273696f6e3a20310d0a436f6e74656e742d4c656e6774683a20310d0a0d0a76, .bool false], 660, [(0, Nq5)], .tuple #[.agg #[vI 200, vU 694 0 2, vB 1 0x76], vI 69, vI 0], [(694, some Nq30)], 696, [], true⟩
-- COST 5199
theorem Ne3_k : chk smN [] Ne3 = true := by kernel_rfl
theorem Ne3_c : EO Ne3 := eo (l := []) smN_ok trivial Ne3_k
def Nq31 : AO := .mp [(vB 3 0x4c4f47, .agg #[vB 109 0x3030303030303031303a2c303933316233306631313a383a313a3323313a31235d2c663465353663373436333a35393a313a312335313a313a3123313a6b2c313a762c313a3023313a3023303a2c31303a383538393933343539332331303a38353839393334353933235d5d2c, vI 109, .bool true]), (vB 3 0x524551, .agg #[vB 1 0x2e, vI 1, .bool true])] none
def Nq32 : AO := oR [vI 1048466, .map (some 697)] 71
def Nq33 : AO := oR [vP 698 0, v0, vU 799 1 2, .bool false] 163
def Nq34 : AO := oR [v0, vB 11 0x383a313a3323313a31235d, vB 63 0x35393a313a312335313a313a3123313a6b2c313a762c313a3023313a3023303a2c31303a383538393933343539332331303a38353839393334353933235d5d] 9
def Nq35 : AO := oR [vP 703 0, vI 0, .slice none 0 0, .slice none 0 0, vI 0, vI 0, vI 0, vI 0, vI 0, vU 985 0 1, vI 1, vI 0, .bool false] 102
def Ne4 : Ent := ⟨32, [vP 698 0], 699, [(0, Nq5), (1, Nq6), (2, Nq6), (5, Nq7), (697, Nq31), (698, Nq32)], .tuple #[vP 800 0, vI 0], [(703, some Nq33), (799, some Nq34), (800, some Nq35), (985, some Nq23)], 986, [], true⟩
-- COST 10879
theorem Ne4_k : chk smN [] Ne4 = true := by kernel_rfl
theorem Ne4_c : EO Ne4 := eo (l := []) smN_ok trivial Ne4_k
-- COST 13481
theorem N_true : kTrue Tryz.prog (envT smN [Ne3, Ne1, Ne0, Ne2, Ne4]) 100000 7 [] = true := by kernel_rfl
theorem N_run (w : World) (hw : GlW glC w) : Calls Tryz.prog 7 #[] w fun e w' => e = .returned (.bool true) ∧ Same w w' := true_of (envT_ok (l := [Ne3, Ne1, Ne0, Ne2, Ne4]) smN_ok ⟨Ne3_c, Ne1_c, Ne0_c, Ne2_c, Ne4_c, trivial⟩) gl_ne N_true rfl w hw
end
end Go.Proofs.YtdegbhgoldglaaaGreatDoor
