/-
  A closed run, cut into calls that are run by themselves. No condition.
-/
import Derived.Test.YtikedhemjoljpaaGreatDoorEM1
namespace Go.Proofs.YtikedhemjoljpaaGreatDoor
noncomputable section
open Go Go.Eng
set_option maxRecDepth 1000000
noncomputable def smA := (sumI sum0)
theorem smA_ok : SumOK smA := (env_idx env0)
-- COST 3088
theorem A_true : kzTrue Tryz.prog (envT smA []) 100000 519 [] = true := by kernel_rfl
theorem A_truer (w : World) (hw : GlW glC w) : Calls Tryz.prog 519 #[] w fun e w' => e = .returned (.bool true) ∧ Same w w' := kz_true (envT_ok (l := []) smA_ok trivial) gl_ne A_true rfl w hw
end
end Go.Proofs.YtikedhemjoljpaaGreatDoor
