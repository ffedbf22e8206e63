/-
  A closed run, cut into calls that are run by themselves. No condition.
-/
import Derived.Test.YtikedhemjoljpaaGreatDoorEA
import Derived.Test.YtikedhemjoljpaaGreatDoorEB
import Derived.Test.YtikedhemjoljpaaGreatDoorEC
import Derived.Test.YtikedhemjoljpaaGreatDoorED
import Derived.Test.YtikedhemjoljpaaGreatDoorEG
import Derived.Test.YtikedhemjoljpaaGreatDoorEM0
namespace Go.Proofs.YtikedhemjoljpaaGreatDoor
noncomputable section
open Go Go.Eng
set_option maxRecDepth 1000000
noncomputable def smI := (sumT 445 (sumT 507 (sumT 444 (sumT 506 (sumT 519 (sumI sum0))))))
theorem smI_ok : SumOK smI := (env_more (env_more (env_more (env_more (env_more (env_idx env0) A_truer) C_truer) D_truer) B_truer) G_truer)
def Iq0 : AO := .row [.int .u64 1, .int .u64 10, .int .u64 100, .int .u64 1000, .int .u64 10000, .int .u64 100000, .int .u64 1000000, .int .u64 10000000, .int .u64 100000000, .int .u64 1000000000, .int .u64 10000000000, .int .u64 100000000000, .int .u64 1000000000000, .int .u64 10000000000000, .int .u64 100000000000000, .int .u64 1000000000000000, .int .u64 10000000000000000, .int .u64 100000000000000000, .int .u64 1000000000000000000, .int .u64 10000000000000000000] 0 true
def Iq1 : AO := .row [.tuple #[.chan (some 4), vI 0]] 0 true
def Iq2 : AO := .row [.tuple #[.chan (some 3), .bool false]] 0 true
def Ie70 : Ent := ⟨446, [], 1064, [(1, Iq0), (2, Iq1), (5, Iq2), (6, Iq2)], .bool true, [], 1635, [], false⟩
-- COST 12285
theorem Ie70_k : chk smI [Me26, Me23, Me21, Me24, Me31, Me32, Me0, Me1, Me6, Me5, Me4, Me3, Me2, Me33, Me14, Me16, Me15, Me34, Me13, Me35, Me38, Me37, Me36, Me25, Me22, Me41, Me40, Me7, Me19, Me8, Me9, Me12, Me11, Me10, Me17, Me18] Ie70 = true := by kernel_rfl
theorem Ie70_c : EO Ie70 := eo (l := [Me26, Me23, Me21, Me24, Me31, Me32, Me0, Me1, Me6, Me5, Me4, Me3, Me2, Me33, Me14, Me16, Me15, Me34, Me13, Me35, Me38, Me37, Me36, Me25, Me22, Me41, Me40, Me7, Me19, Me8, Me9, Me12, Me11, Me10, Me17, Me18]) smI_ok ⟨Me26_c, Me23_c, Me21_c, Me24_c, Me31_c, Me32_c, Me0_c, Me1_c, Me6_c, Me5_c, Me4_c, Me3_c, Me2_c, Me33_c, Me14_c, Me16_c, Me15_c, Me34_c, Me13_c, Me35_c, Me38_c, Me37_c, Me36_c, Me25_c, Me22_c, Me41_c, Me40_c, Me7_c, Me19_c, Me8_c, Me9_c, Me12_c, Me11_c, Me10_c, Me17_c, Me18_c, trivial⟩ Ie70_k
-- COST 24374
theorem I_true : kzTrue Tryz.prog (envT smI [Me52, Me13, Me45, Me48, Me44, Me46, Me51, Me50, Me47, Me4, Me31, Me15, Me1, Me49, Me6, Me5, Me2, Me55, Me54, Me7, Me17, Me39, Me53, Me8, Me9, Me56, Me11, Me12, Me10, Me57, Me69, Ie70]) 100000 342 [] = true := by kernel_rfl
theorem I_truer (w : World) (hw : GlW glC w) : Calls Tryz.prog 342 #[] w fun e w' => e = .returned (.bool true) ∧ Same w w' := kz_true (envT_ok (l := [Me52, Me13, Me45, Me48, Me44, Me46, Me51, Me50, Me47, Me4, Me31, Me15, Me1, Me49, Me6, Me5, Me2, Me55, Me54, Me7, Me17, Me39, Me53, Me8, Me9, Me56, Me11, Me12, Me10, Me57, Me69, Ie70]) smI_ok ⟨Me52_c, Me13_c, Me45_c, Me48_c, Me44_c, Me46_c, Me51_c, Me50_c, Me47_c, Me4_c, Me31_c, Me15_c, Me1_c, Me49_c, Me6_c, Me5_c, Me2_c, Me55_c, Me54_c, Me7_c, Me17_c, Me39_c, Me53_c, Me8_c, Me9_c, Me56_c, Me11_c, Me12_c, Me10_c, Me57_c, Me69_c, Ie70_c, trivial⟩) gl_ne I_true rfl w hw
end
end Go.Proofs.YtikedhemjoljpaaGreatDoor
