/-
  A closed run, cut into calls that are run by themselves. No condition.
-/
import Derived.Test.YtikedhemjoljpaaGreatDoorEA
import Derived.Test.YtikedhemjoljpaaGreatDoorEB
import Derived.Test.YtikedhemjoljpaaGreatDoorEC
import Derived.Test.YtikedhemjoljpaaGreatDoorED
import Derived.Test.YtikedhemjoljpaaGreatDoorEF
import Derived.Test.YtikedhemjoljpaaGreatDoorEG
import Derived.Test.YtikedhemjoljpaaGreatDoorEH
import Derived.Test.YtikedhemjoljpaaGreatDoorEI
import Derived.Test.YtikedhemjoljpaaGreatDoorEM0
namespace Go.Proofs.YtikedhemjoljpaaGreatDoor
noncomputable section
open Go Go.Eng
set_option maxRecDepth 1000000
noncomputable def smJ := (sumT 342 (sumT 341 (sumT 445 (sumT 446 (sumT 507 (sumT 444 (sumT 506 (sumT 519 (sumI sum0)))))))))
theorem smJ_ok : SumOK smJ := (env_more (env_more (env_more (env_more (env_more (env_more (env_more (env_more (env_idx env0) A_truer) C_truer) D_truer) B_truer) F_truer) G_truer) H_truer) I_truer)
-- COST 6378
theorem J_true : kzTrue Tryz.prog (envT smJ [Me26, Me23, Me21, Me24, Me13, Me1, Me31, Me71, Me72, Me73, Me5, Me4, Me3, Me2, Me15, Me35]) 100000 185 [] = true := by kernel_rfl
theorem J_truer (w : World) (hw : GlW glC w) : Calls Tryz.prog 185 #[] w fun e w' => e = .returned (.bool true) ∧ Same w w' := kz_true (envT_ok (l := [Me26, Me23, Me21, Me24, Me13, Me1, Me31, Me71, Me72, Me73, Me5, Me4, Me3, Me2, Me15, Me35]) smJ_ok ⟨Me26_c, Me23_c, Me21_c, Me24_c, Me13_c, Me1_c, Me31_c, Me71_c, Me72_c, Me73_c, Me5_c, Me4_c, Me3_c, Me2_c, Me15_c, Me35_c, trivial⟩) gl_ne J_true rfl w hw
end
end Go.Proofs.YtikedhemjoljpaaGreatDoor
