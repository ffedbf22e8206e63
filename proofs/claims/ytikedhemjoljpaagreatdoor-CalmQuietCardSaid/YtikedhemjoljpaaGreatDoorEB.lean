/-
  A closed run, cut into calls that are run by themselves. No condition.
-/
import Derived.Test.YtikedhemjoljpaaGreatDoorEA
import Derived.Test.YtikedhemjoljpaaGreatDoorEM0
namespace Go.Proofs.YtikedhemjoljpaaGreatDoor
noncomputable section
open Go Go.Eng
set_option maxRecDepth 1000000
noncomputable def smB := (sumT 519 (sumI sum0))
theorem smB_ok : SumOK smB := (env_more (env_idx env0) A_truer)
def Bq0 : AO := .row [.int .u64 1, .int .u64 10, .int .u64 100, .int .u64 1000, .int .u64 10000, .int .u64 100000, .int .u64 1000000, .int .u64 10000000, .int .u64 100000000, .int .u64 1000000000, .int .u64 10000000000, .int .u64 100000000000, .int .u64 1000000000000, .int .u64 10000000000000, .int .u64 100000000000000, .int .u64 1000000000000000, .int .u64 10000000000000000, .int .u64 100000000000000000, .int .u64 1000000000000000000, .int .u64 10000000000000000000] 0 true
def Bq1 : AO := oR [vI 1, .bool false, vB 1 0x76, vI 2, .bool true, v0] 277
def Bq2 : AO := oR [vB 1 0x6b, vU 801 0 2] 304
def Bq3 : AO := oR [vI 4294967297, vI 0, vI 1, vI 4294967298, vI 0, vI 2] 309
def Be20 : Ent := ⟨161, [vB 136 0x3133313a313a322334333a33393a313a6b2c33313a31323a313a3123313a3023313a762c5d31313a313a3223313a3123303a2c5d5d5d5d35323a32323a31303a3432393439363732393723313a3023313a31235d32323a31303a3432393439363732393823313a3023313a32235d5d32303a313a3023313a3023313a3023313a3023313a30235d5d], 541, [(1, Bq0)], .tuple #[.agg #[vI 2, vU 803 0 1, vU 828 0 2, vI 0, vI 0, vI 0, vI 0, vI 0], vI 0], [(801, some Bq1), (803, some Bq2), (828, some Bq3)], 1070, [], true⟩
-- COST 12043
theorem Be20_k : chk smB [Me17, Me7, Me8, Me9, Me18, Me19, Me15, Me2, Me3, Me4, Me1, Me5, Me6, Me16] Be20 = true := by kernel_rfl
theorem Be20_c : EO Be20 := eo (l := [Me17, Me7, Me8, Me9, Me18, Me19, Me15, Me2, Me3, Me4, Me1, Me5, Me6, Me16]) smB_ok ⟨Me17_c, Me7_c, Me8_c, Me9_c, Me18_c, Me19_c, Me15_c, Me2_c, Me3_c, Me4_c, Me1_c, Me5_c, Me6_c, Me16_c, trivial⟩ Be20_k
-- COST 11824
theorem B_true : kzTrue Tryz.prog (envT smB [Be20, Me0, Me6, Me5, Me4, Me3, Me2, Me1, Me7, Me8, Me9, Me12, Me11, Me10, Me13, Me14, Me15, Me16]) 100000 507 [] = true := by kernel_rfl
theorem B_truer (w : World) (hw : GlW glC w) : Calls Tryz.prog 507 #[] w fun e w' => e = .returned (.bool true) ∧ Same w w' := kz_true (envT_ok (l := [Be20, Me0, Me6, Me5, Me4, Me3, Me2, Me1, Me7, Me8, Me9, Me12, Me11, Me10, Me13, Me14, Me15, Me16]) smB_ok ⟨Be20_c, Me0_c, Me6_c, Me5_c, Me4_c, Me3_c, Me2_c, Me1_c, Me7_c, Me8_c, Me9_c, Me12_c, Me11_c, Me10_c, Me13_c, Me14_c, Me15_c, Me16_c, trivial⟩) gl_ne B_true rfl w hw
end
end Go.Proofs.YtikedhemjoljpaaGreatDoor
