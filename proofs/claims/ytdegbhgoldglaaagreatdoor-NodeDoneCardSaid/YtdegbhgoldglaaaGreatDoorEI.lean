/-
  A closed run, cut into calls that are run by themselves. No condition.
-/
import Derived.Test.YtdegbhgoldglaaaGreatDoorEG
namespace Go.Proofs.YtdegbhgoldglaaaGreatDoor
noncomputable section
open Go Go.Eng
set_option maxRecDepth 1000000
noncomputable def smI := (sumT 315 (sumT 444 (sumT 314 (sumT 443 (sumT 477 (sumI sum0))))))
theorem smI_ok : SumOK smI := (env_more (env_more (env_more (env_more (env_more (env_idx env0) A_run) C_run) D_run) B_run) G_run)
def Iq0 : AO := .row [.int .u64 1, .int .u64 10, .int .u64 100, .int .u64 1000, .int .u64 10000, .int .u64 100000, .int .u64 1000000, .int .u64 10000000, .int .u64 100000000, .int .u64 1000000000, .int .u64 10000000000, .int .u64 100000000000, .int .u64 1000000000000, .int .u64 10000000000000, .int .u64 100000000000000, .int .u64 1000000000000000, .int .u64 10000000000000000, .int .u64 100000000000000000, .int .u64 1000000000000000000, .int .u64 10000000000000000000] 0 true
def Iq1 : AO := oR [vI 1, vI 2, v0, .slice none 0 0, vI 2, vI 0, vB 1 0x6b, .slice none 0 0, vI 2, vI 0, v0, .slice none 0 0, vI 1, vI 0, v0, .slice none 0 0, vI 1, vI 0, v0, .slice none 0 0, vI 2, vI 0, v0, .slice none 0 0, vI 1, vI 4294967297, v0, .slice none 0 0, vI 1, vI 0, v0, .slice none 0 0] 170
def Iq2 : AO := oR [vI 3, vI 0, v0, vU 435 0 8] 170
def Iq3 : AO := oR [vI 1, vI 4, v0, .slice none 0 0, vI 1, vI 1, v0, .slice none 0 0, vI 1, vI 2, v0, .slice none 0 0, vI 1, vI 3, v0, .slice none 0 0, vI 1, vI 4, v0, .slice none 0 0, vI 1, vI 0, v0, .slice none 0 0, vI 1, vI 0, v0, .slice none 0 0, vI 1, vI 0, v0, .slice none 0 0, vI 1, vI 0, v0, .slice none 0 0, vI 1, vI 0, v0, .slice none 0 0, vI 1, vI 0, v0, .slice none 0 0, vI 3, vI 0, v0, .slice none 0 0, vI 3, vI 0, v0, vU 438 0 1, vI 2, vI 0, vB 38 0x33343a313a3023303a5d303a5d32303a313a3023313a3023313a3023313a3023313a30235d5d, .slice none 0 0] 170
def Ie0 : Ent := ⟨379, [vB 137 0x313a3423313a3123313a3223313a3323313a3423313a3023313a3023313a3023313a3023313a3023313a3023303a5d34343a34303a313a3223313a6b2c303a2c313a3023313a3023303a2c31303a3432393439363732393723313a30235d5d33383a33343a313a3023303a5d303a5d32303a313a3023313a3023313a3023313a3023313a30235d5d2c, vI 1], 291, [(0, Iq0)], .tuple #[.agg #[vI 3, vI 0, v0, vU 446 0 14], vI 0], [(435, some Iq1), (438, some Iq2), (446, some Iq3)], 447, [], true⟩
-- COST 8072
theorem Ie0_k : chk smI [] Ie0 = true := by kernel_rfl
theorem Ie0_c : EO Ie0 := eo (l := []) smI_ok trivial Ie0_k
def Iq4 : AO := .row [.tuple #[.chan (some 3), .bool false]] 0 true
def Iq5 : AO := .row [.tuple #[.chan (some 4), vI 0]] 0 true
def Iq6 : AO := oR [vI 2, vB 1 0x6b, v0, vI 0, vI 0, v0, vI 4294967297, vI 0] 57
def Ie1 : Ent := ⟨219, [vB 150 0x66323034363535353133373a313a3423313a3123313a3223313a3323313a3423313a3023313a3023313a3023313a3023313a3023313a3023303a5d34343a34303a313a3223313a6b2c303a2c313a3023313a3023303a2c31303a3432393439363732393723313a30235d5d33383a33343a313a3023303a5d303a5d32303a313a3023313a3023313a3023313a3023313a30235d5d2c5d], 286, [(0, Iq0), (1, Iq4), (2, Iq4), (5, Iq5)], .tuple #[.agg #[vI 4, vI 1, vI 2, vI 3, vI 4, vI 0, vI 0, vI 0, vI 0, vI 0, .slice none 0 0, vI 0, vU 553 0 1, vI 0, .slice none 0 0, .slice none 0 0, vI 0, vI 0, vI 0, vI 0, vI 0], vI 0], [(553, some Iq6)], 1033, [], true⟩
-- COST 15761
theorem Ie1_k : chk smI [Ie0] Ie1 = true := by kernel_rfl
theorem Ie1_c : EO Ie1 := eo (l := [Ie0]) smI_ok ⟨Ie0_c, trivial⟩ Ie1_k
def Iq7 : AO := oR [vU 1313 0 1] 349
def Iq8 : AO := oR [vB 150 0x66323034363535353133373a313a3423313a3123313a3223313a3323313a3423313a3023313a3023313a3023313a3023313a3023313a3023303a5d34343a34303a313a3223313a6b2c303a2c313a3023313a3023303a2c31303a3432393439363732393723313a30235d5d33383a33343a313a3023303a5d303a5d32303a313a3023313a3023313a3023313a3023313a30235d5d2c5d] 9
def Iq9 : AO := oR [vU 1525 0 2] 349
def Iq10 : AO := oR [vB 150 0x66323034363535353133373a313a3423313a3123313a3223313a3323313a3423313a3023313a3023313a3023313a3023313a3023313a3023303a5d34343a34303a313a3223313a6b2c303a2c313a3023313a3023303a2c31303a3432393439363732393723313a30235d5d33383a33343a313a3023303a5d303a5d32303a313a3023313a3023313a3023313a3023313a30235d5d2c5d, vB 104 0x323063376638333139323a313a3123313a3223313a3023313a3023313a3023313a3023313a3023313a3023313a3023313a3023313a3023303a5d303a5d33383a33343a313a3023303a5d303a5d32303a313a3023313a3023313a3023313a3023313a30235d5d2c5d] 9
def Ie2 : Ent := ⟨221, [vP 1036 0, .agg #[vI 1, vI 2, vI 0, vI 0, vI 0, vI 0, vI 0, vI 0, vI 0, vI 0, .slice none 0 0, vI 0, .slice none 0 0, vI 0, .slice none 0 0, .slice none 0 0, vI 0, vI 0, vI 0, vI 0, vI 0]], 1314, [(0, Iq0), (1, Iq4), (2, Iq4), (5, Iq5), (1036, Iq7), (1313, Iq8)], .bool true, [(1036, some Iq9), (1313, none), (1525, some Iq10)], 1526, [1036, 1313], true⟩
-- COST 5301
theorem Ie2_k : chk smI [] Ie2 = true := by kernel_rfl
theorem Ie2_c : EO Ie2 := eo (l := []) smI_ok trivial Ie2_k
def Ie3 : Ent := ⟨218, [.agg #[vI 1, vI 2, vI 0, vI 0, vI 0, vI 0, vI 0, vI 0, vI 0, vI 0, .slice none 0 0, vI 0, .slice none 0 0, vI 0, .slice none 0 0, .slice none 0 0, vI 0, vI 0, vI 0, vI 0, vI 0]], 1870, [(0, Iq0), (1, Iq4), (2, Iq4), (5, Iq5)], vB 104 0x323063376638333139323a313a3123313a3223313a3023313a3023313a3023313a3023313a3023313a3023313a3023313a3023313a3023303a5d303a5d33383a33343a313a3023303a5d303a5d32303a313a3023313a3023313a3023313a3023313a30235d5d2c5d, [], 2079, [], false⟩
-- COST 5270
theorem Ie3_k : chk smI [] Ie3 = true := by kernel_rfl
theorem Ie3_c : EO Ie3 := eo (l := []) smI_ok trivial Ie3_k
def Ie4 : Ent := ⟨219, [vB 104 0x323063376638333139323a313a3123313a3223313a3023313a3023313a3023313a3023313a3023313a3023313a3023313a3023313a3023303a5d303a5d33383a33343a313a3023303a5d303a5d32303a313a3023313a3023313a3023313a3023313a30235d5d2c5d], 1527, [(0, Iq0), (1, Iq4), (2, Iq4), (5, Iq5)], .tuple #[.agg #[vI 1, vI 2, vI 0, vI 0, vI 0, vI 0, vI 0, vI 0, vI 0, vI 0, .slice none 0 0, vI 0, .slice none 0 0, vI 0, .slice none 0 0, .slice none 0 0, vI 0, vI 0, vI 0, vI 0, vI 0], vI 0], [], 1870, [], false⟩
-- COST 11811
theorem Ie4_k : chk smI [Ie3] Ie4 = true := by kernel_rfl
theorem Ie4_c : EO Ie4 := eo (l := [Ie3]) smI_ok ⟨Ie3_c, trivial⟩ Ie4_k
def Iq11 : AO := oR [vI 3, vI 0, v0, vU 1680 0 8] 170
def Iq12 : AO := oR [vI 1, vI 4, v0, .slice none 0 0, vI 1, vI 1, v0, .slice none 0 0, vI 1, vI 2, v0, .slice none 0 0, vI 1, vI 3, v0, .slice none 0 0, vI 1, vI 4, v0, .slice none 0 0, vI 1, vI 0, v0, .slice none 0 0, vI 1, vI 0, v0, .slice none 0 0, vI 1, vI 0, v0, .slice none 0 0, vI 1, vI 0, v0, .slice none 0 0, vI 1, vI 0, v0, .slice none 0 0, vI 1, vI 0, v0, .slice none 0 0, vI 3, vI 0, v0, .slice none 0 0, vI 3, vI 0, v0, vU 1683 0 1, vI 2, vI 0, vB 38 0x33343a313a3023303a5d303a5d32303a313a3023313a3023313a3023313a3023313a30235d5d, .slice none 0 0] 170
def Ie5 : Ent := ⟨379, [vB 137 0x313a3423313a3123313a3223313a3323313a3423313a3023313a3023313a3023313a3023313a3023313a3023303a5d34343a34303a313a3223313a6b2c303a2c313a3023313a3023303a2c31303a3432393439363732393723313a30235d5d33383a33343a313a3023303a5d303a5d32303a313a3023313a3023313a3023313a3023313a30235d5d2c, vI 1], 1536, [(0, Iq0)], .tuple #[.agg #[vI 3, vI 0, v0, vU 1691 0 14], vI 0], [(1680, some Iq1), (1683, some Iq11), (1691, some Iq12)], 1692, [], true⟩
-- COST 8072
theorem Ie5_k : chk smI [] Ie5 = true := by kernel_rfl
theorem Ie5_c : EO Ie5 := eo (l := []) smI_ok trivial Ie5_k
def Ie6 : Ent := ⟨219, [vB 150 0x66323034363535353133373a313a3423313a3123313a3223313a3323313a3423313a3023313a3023313a3023313a3023313a3023313a3023303a5d34343a34303a313a3223313a6b2c303a2c313a3023313a3023303a2c31303a3432393439363732393723313a30235d5d33383a33343a313a3023303a5d303a5d32303a313a3023313a3023313a3023313a3023313a30235d5d2c5d], 1531, [(0, Iq0), (1, Iq4), (2, Iq4), (5, Iq5)], .tuple #[.agg #[vI 4, vI 1, vI 2, vI 3, vI 4, vI 0, vI 0, vI 0, vI 0, vI 0, .slice none 0 0, vI 0, vU 1798 0 1, vI 0, .slice none 0 0, .slice none 0 0, vI 0, vI 0, vI 0, vI 0, vI 0], vI 0], [(1798, some Iq6)], 2278, [], true⟩
-- COST 15761
theorem Ie6_k : chk smI [Ie5] Ie6 = true := by kernel_rfl
theorem Ie6_c : EO Ie6 := eo (l := [Ie5]) smI_ok ⟨Ie5_c, trivial⟩ Ie6_k
def Iq13 : AO := oR [vP 2716 0, vI 0, .slice none 0 0, .slice none 0 0, vI 0, vI 0, vI 0, vI 0, vI 0, vU 3028 0 1, vI 3, vI 0, .bool false] 102
def Iq14 : AO := oR [vI 1, vB 1 0x6b, vB 1 0x76, vI 0, vI 0, v0, vI 4294967297, vI 0] 57
def Iq15 : AO := oR [vP 2716 0, vI 0, .slice none 0 0, .slice none 0 0, vI 0, vI 0, vI 0, vI 0, vI 0, vU 3182 0 2, vI 3, vI 0, .bool false] 102
def Iq16 : AO := oR [vI 1, vB 1 0x6b, vB 1 0x76, vI 0, vI 0, v0, vI 4294967297, vI 0, vI 2, vB 1 0x6b, v0, vI 0, vI 0, v0, vI 4294967298, vI 0] 57
def Ie7 : Ent := ⟨59, [vP 2844 1, vB 52 0x34383a313a312334303a313a3223313a6b2c303a2c313a3023313a3023303a2c31303a3432393439363732393823313a30235d5d], 3029, [(0, Iq0), (2844, Iq13), (3028, Iq14)], .bool true, [(2844, some Iq15), (3182, some Iq16)], 3183, [2844], true⟩
-- COST 5558
theorem Ie7_k : chk smI [] Ie7 = true := by kernel_rfl
theorem Ie7_c : EO Ie7 := eo (l := []) smI_ok trivial Ie7_k
def Iq17 : AO := .mp [(vB 3 0x4c4f47, .agg #[vB 163 0x3030303030303031303a2c303931316233346231313a383a313a3323313a33235d2c626533356434653235333a34393a313a312334313a313a3123313a6b2c313a762c313a3023313a3023303a2c31303a3432393439363732393723313a30235d5d2c623864656637613835323a34383a313a312334303a313a3223313a6b2c303a2c313a3023313a3023303a2c31303a3432393439363732393823313a30235d5d2c, vI 163, .bool true])] none
def Iq18 : AO := oR [vI 1048413, .map (some 2710)] 71
def Iq19 : AO := oR [vP 2711 0, v0, vU 2843 1 3, .bool false] 163
def Iq20 : AO := oR [v0, vB 11 0x383a313a3323313a33235d, vB 53 0x34393a313a312334313a313a3123313a6b2c313a762c313a3023313a3023303a2c31303a3432393439363732393723313a30235d5d, vB 52 0x34383a313a312334303a313a3223313a6b2c303a2c313a3023313a3023303a2c31303a3432393439363732393823313a30235d5d] 9
def Ie8 : Ent := ⟨32, [vP 2711 0], 2712, [(0, Iq0), (1, Iq4), (2, Iq4), (5, Iq5), (2710, Iq17), (2711, Iq18)], .tuple #[vP 2844 0, vI 0], [(2716, some Iq19), (2843, some Iq20), (2844, some Iq15), (3182, some Iq16)], 3183, [], true⟩
-- COST 11301
theorem Ie8_k : chk smI [Ie7] Ie8 = true := by kernel_rfl
theorem Ie8_c : EO Ie8 := eo (l := [Ie7]) smI_ok ⟨Ie7_c, trivial⟩ Ie8_k
def Ie9 : Ent := ⟨319, [], 2283, [(0, Iq0), (1, Iq4), (2, Iq4), (5, Iq5)], .bool true, [], 3202, [], false⟩
-- COST 11464
theorem Ie9_k : chk smI [Ie8] Ie9 = true := by kernel_rfl
theorem Ie9_c : EO Ie9 := eo (l := [Ie8]) smI_ok ⟨Ie8_c, trivial⟩ Ie9_k
-- COST 16351
theorem I_true : kTrue Tryz.prog (envT smI [Ie2, Ie1, Ie4, Ie6, Ie9]) 100000 136 [] = true := by kernel_rfl
theorem I_run (w : World) (hw : GlW glC w) : Calls Tryz.prog 136 #[] w fun e w' => e = .returned (.bool true) ∧ Same w w' := true_of (envT_ok (l := [Ie2, Ie1, Ie4, Ie6, Ie9]) smI_ok ⟨Ie2_c, Ie1_c, Ie4_c, Ie6_c, Ie9_c, trivial⟩) gl_ne I_true rfl w hw
end
end Go.Proofs.YtdegbhgoldglaaaGreatDoor
