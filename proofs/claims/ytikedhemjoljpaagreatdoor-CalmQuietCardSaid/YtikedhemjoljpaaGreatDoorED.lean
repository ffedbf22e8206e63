/-
  A closed run, cut into calls that are run by themselves. No condition.
-/
import Derived.Test.YtikedhemjoljpaaGreatDoorEA
import Derived.Test.YtikedhemjoljpaaGreatDoorEC
import Derived.Test.YtikedhemjoljpaaGreatDoorEM0
namespace Go.Proofs.YtikedhemjoljpaaGreatDoor
noncomputable section
open Go Go.Eng
set_option maxRecDepth 1000000
noncomputable def smD := (sumT 506 (sumT 519 (sumI sum0)))
theorem smD_ok : SumOK smD := (env_more (env_more (env_idx env0) A_truer) C_truer)
-- COST 4796
theorem D_true : kzTrue Tryz.prog (envT smD [Me30, Me26, Me23, Me21, Me24, Me27, Me25, Me22, Me28, Me29]) 100000 444 [] = true := by kernel_rfl
theorem D_truer (w : World) (hw : GlW glC w) : Calls Tryz.prog 444 #[] w fun e w' => e = .returned (.bool true) ∧ Same w w' := kz_true (envT_ok (l := [Me30, Me26, Me23, Me21, Me24, Me27, Me25, Me22, Me28, Me29]) smD_ok ⟨Me30_c, Me26_c, Me23_c, Me21_c, Me24_c, Me27_c, Me25_c, Me22_c, Me28_c, Me29_c, trivial⟩) gl_ne D_true rfl w hw
end
end Go.Proofs.YtikedhemjoljpaaGreatDoor
