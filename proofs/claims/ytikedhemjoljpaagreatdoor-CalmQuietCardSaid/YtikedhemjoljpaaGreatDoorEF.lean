/-
  A closed run, cut into calls that are run by themselves. No condition.
-/
import Derived.Test.YtikedhemjoljpaaGreatDoorEA
import Derived.Test.YtikedhemjoljpaaGreatDoorEB
import Derived.Test.YtikedhemjoljpaaGreatDoorEC
import Derived.Test.YtikedhemjoljpaaGreatDoorED
import Derived.Test.YtikedhemjoljpaaGreatDoorEM0
namespace Go.Proofs.YtikedhemjoljpaaGreatDoor
noncomputable section
open Go Go.Eng
set_option maxRecDepth 1000000
noncomputable def smF := (sumT 507 (sumT 444 (sumT 506 (sumT 519 (sumI sum0)))))
theorem smF_ok : SumOK smF := (env_more (env_more (env_more (env_more (env_idx env0) A_truer) C_truer) D_truer) B_truer)
-- COST 12295
theorem F_true : kzTrue Tryz.prog (envT smF [Me26, Me23, Me21, Me24, Me31, Me32, Me0, Me1, Me6, Me5, Me4, Me3, Me2, Me33, Me14, Me16, Me15, Me34, Me13, Me35, Me38, Me37, Me36, Me25, Me22, Me41, Me40, Me7, Me19, Me8, Me9, Me12, Me11, Me10, Me17, Me18]) 100000 446 [] = true := by kernel_rfl
theorem F_truer (w : World) (hw : GlW glC w) : Calls Tryz.prog 446 #[] w fun e w' => e = .returned (.bool true) ∧ Same w w' := kz_true (envT_ok (l := [Me26, Me23, Me21, Me24, Me31, Me32, Me0, Me1, Me6, Me5, Me4, Me3, Me2, Me33, Me14, Me16, Me15, Me34, Me13, Me35, Me38, Me37, Me36, Me25, Me22, Me41, Me40, Me7, Me19, Me8, Me9, Me12, Me11, Me10, Me17, Me18]) smF_ok ⟨Me26_c, Me23_c, Me21_c, Me24_c, Me31_c, Me32_c, Me0_c, Me1_c, Me6_c, Me5_c, Me4_c, Me3_c, Me2_c, Me33_c, Me14_c, Me16_c, Me15_c, Me34_c, Me13_c, Me35_c, Me38_c, Me37_c, Me36_c, Me25_c, Me22_c, Me41_c, Me40_c, Me7_c, Me19_c, Me8_c, Me9_c, Me12_c, Me11_c, Me10_c, Me17_c, Me18_c, trivial⟩) gl_ne F_true rfl w hw
end
end Go.Proofs.YtikedhemjoljpaaGreatDoor
