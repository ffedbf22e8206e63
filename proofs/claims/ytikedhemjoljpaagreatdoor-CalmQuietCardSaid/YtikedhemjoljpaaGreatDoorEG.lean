/-
  A closed run, cut into calls that are run by themselves. No condition.
-/
import Derived.Test.YtikedhemjoljpaaGreatDoorEA
import Derived.Test.YtikedhemjoljpaaGreatDoorEB
import Derived.Test.YtikedhemjoljpaaGreatDoorEC
import Derived.Test.YtikedhemjoljpaaGreatDoorED
namespace Go.Proofs.YtikedhemjoljpaaGreatDoor
noncomputable section
open Go Go.Eng
set_option maxRecDepth 1000000
noncomputable def smG := (sumT 507 (sumT 444 (sumT 506 (sumT 519 (sumI sum0)))))
theorem smG_ok : SumOK smG := (env_more (env_more (env_more (env_more (env_idx env0) A_truer) C_truer) D_truer) B_truer)
-- COST 1409
theorem G_true : kzTrue Tryz.prog (envT smG []) 100000 445 [] = true := by kernel_rfl
theorem G_truer (w : World) (hw : GlW glC w) : Calls Tryz.prog 445 #[] w fun e w' => e = .returned (.bool true) ∧ Same w w' := kz_true (envT_ok (l := []) smG_ok trivial) gl_ne G_true rfl w hw
end
end Go.Proofs.YtikedhemjoljpaaGreatDoor
