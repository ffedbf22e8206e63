/-
  A closed run, cut into calls that are run by themselves. No condition.
-/
import Derived.Test.YtdegbhgoldglaaaGreatDoorEF
namespace Go.Proofs.YtdegbhgoldglaaaGreatDoor
noncomputable section
open Go Go.Eng
set_option maxRecDepth 1000000
noncomputable def smG := (sumT 444 (sumT 314 (sumT 443 (sumT 477 (sumI sum0)))))
theorem smG_ok : SumOK smG := (env_more (env_more (env_more (env_more (env_idx env0) A_run) C_run) D_run) B_run)
-- COST 1409
theorem G_true : kTrue Tryz.prog (envT smG []) 100000 315 [] = true := by kernel_rfl
theorem G_run (w : World) (hw : GlW glC w) : Calls Tryz.prog 315 #[] w fun e w' => e = .returned (.bool true) ∧ Same w w' := true_of (envT_ok (l := []) smG_ok trivial) gl_ne G_true rfl w hw
end
end Go.Proofs.YtdegbhgoldglaaaGreatDoor
