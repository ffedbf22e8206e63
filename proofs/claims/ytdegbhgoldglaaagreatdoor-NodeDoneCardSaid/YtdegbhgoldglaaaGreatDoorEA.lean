/-
  A closed run, cut into calls that are run by themselves. No condition.
-/
import Derived.Test.YtdegbhgoldglaaaGreatDoorG2
namespace Go.Proofs.YtdegbhgoldglaaaGreatDoor
noncomputable section
open Go Go.Eng
set_option maxRecDepth 1000000
noncomputable def smA := sum0
theorem smA_ok : SumOK smA := env0
-- COST 3088
theorem A_true : kTrue Tryz.prog (envT smA []) 100000 477 [] = true := by kernel_rfl
theorem A_run (w : World) (hw : GlW glC w) : Calls Tryz.prog 477 #[] w fun e w' => e = .returned (.bool true) ∧ Same w w' := true_of (envT_ok (l := []) smA_ok trivial) gl_ne A_true rfl w hw
end
end Go.Proofs.YtdegbhgoldglaaaGreatDoor
