/-
  A closed run, cut into calls that are run by themselves. No condition.
-/
import Derived.Test.YtdegbhgoldglaaaGreatDoorEB
import Derived.Test.YtdegbhgoldglaaaGreatDoorED
namespace Go.Proofs.YtdegbhgoldglaaaGreatDoor
noncomputable section
open Go Go.Eng
set_option maxRecDepth 1000000
noncomputable def smF := (sumT 444 (sumT 314 (sumT 443 (sumT 477 (sumI sum0)))))
theorem smF_ok : SumOK smF := (env_more (env_more (env_more (env_more (env_idx env0) A_run) C_run) D_run) B_run)
def Fq0 : AO := .row [.int .u64 1, .int .u64 10, .int .u64 100, .int .u64 1000, .int .u64 10000, .int .u64 100000, .int .u64 1000000, .int .u64 10000000, .int .u64 100000000, .int .u64 1000000000, .int .u64 10000000000, .int .u64 100000000000, .int .u64 1000000000000, .int .u64 10000000000000, .int .u64 100000000000000, .int .u64 1000000000000000, .int .u64 10000000000000000, .int .u64 100000000000000000, .int .u64 1000000000000000000, .int .u64 10000000000000000000] 0 true
def Fq1 : AO := oR [vP 443 0, vI 0, .slice none 0 0, .slice none 0 0, vI 0, vI 0, vI 0, vI 0, vI 0, vU 755 0 1, vI 3, vI 0, .bool false] 102
def Fq2 : AO := oR [vI 1, vB 1 0x6b, vB 1 0x76, vI 0, vI 0, v0, vI 4294967297, vI 0] 57
def Fq3 : AO := oR [vP 443 0, vI 0, .slice none 0 0, .slice none 0 0, vI 0, vI 0, vI 0, vI 0, vI 0, vU 909 0 2, vI 3, vI 0, .bool false] 102
def Fq4 : AO := oR [vI 1, vB 1 0x6b, vB 1 0x76, vI 0, vI 0, v0, vI 4294967297, vI 0, vI 2, vB 1 0x6b, v0, vI 0, vI 0, v0, vI 4294967298, vI 0] 57
def Fe0 : Ent := ⟨59, [vP 571 1, vB 52 0x34383a313a312334303a313a3223313a6b2c303a2c313a3023313a3023303a2c31303a3432393439363732393823313a30235d5d], 756, [(0, Fq0), (571, Fq1), (755, Fq2)], .bool true, [(571, some Fq3), (909, some Fq4)], 910, [571], true⟩
-- COST 5558
theorem Fe0_k : chk smF [] Fe0 = true := by kernel_rfl
theorem Fe0_c : EO Fe0 := eo (l := []) smF_ok trivial Fe0_k
def Fq5 : AO := .row [.tuple #[.chan (some 3), .bool false]] 0 true
def Fq6 : AO := .row [.tuple #[.chan (some 4), vI 0]] 0 true
def Fq7 : AO := .mp [(vB 3 0x4c4f47, .agg #[vB 163 0x3030303030303031303a2c303931316233346231313a383a313a3323313a33235d2c626533356434653235333a34393a313a312334313a313a3123313a6b2c313a762c313a3023313a3023303a2c31303a3432393439363732393723313a30235d5d2c623864656637613835323a34383a313a312334303a313a3223313a6b2c303a2c313a3023313a3023303a2c31303a3432393439363732393823313a30235d5d2c, vI 163, .bool true])] none
def Fq8 : AO := oR [vI 1048413, .map (some 437)] 71
def Fq9 : AO := oR [vP 438 0, v0, vU 570 1 3, .bool false] 163
def Fq10 : AO := oR [v0, vB 11 0x383a313a3323313a33235d, vB 53 0x34393a313a312334313a313a3123313a6b2c313a762c313a3023313a3023303a2c31303a3432393439363732393723313a30235d5d, vB 52 0x34383a313a312334303a313a3223313a6b2c303a2c313a3023313a3023303a2c31303a3432393439363732393823313a30235d5d] 9
def Fe1 : Ent := ⟨32, [vP 438 0], 439, [(0, Fq0), (1, Fq5), (2, Fq5), (5, Fq6), (437, Fq7), (438, Fq8)], .tuple #[vP 571 0, vI 0], [(443, some Fq9), (570, some Fq10), (571, some Fq3), (909, some Fq4)], 910, [], true⟩
-- COST 11301
theorem Fe1_k : chk smF [Fe0] Fe1 = true := by kernel_rfl
theorem Fe1_c : EO Fe1 := eo (l := [Fe0]) smF_ok ⟨Fe0_c, trivial⟩ Fe1_k
-- COST 11464
theorem F_true : kTrue Tryz.prog (envT smF [Fe1]) 100000 319 [] = true := by kernel_rfl
theorem F_run (w : World) (hw : GlW glC w) : Calls Tryz.prog 319 #[] w fun e w' => e = .returned (.bool true) ∧ Same w w' := true_of (envT_ok (l := [Fe1]) smF_ok ⟨Fe1_c, trivial⟩) gl_ne F_true rfl w hw
end
end Go.Proofs.YtdegbhgoldglaaaGreatDoor
