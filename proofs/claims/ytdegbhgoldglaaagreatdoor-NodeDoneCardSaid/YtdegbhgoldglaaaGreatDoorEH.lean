/-
  A closed run, cut into calls that are run by themselves. No condition.
-/
import Derived.Test.YtdegbhgoldglaaaGreatDoorEG
namespace Go.Proofs.YtdegbhgoldglaaaGreatDoor
noncomputable section
open Go Go.Eng
set_option maxRecDepth 1000000
noncomputable def smH := (sumT 315 (sumT 444 (sumT 314 (sumT 443 (sumT 477 (sumI sum0))))))
theorem smH_ok : SumOK smH := (env_more (env_more (env_more (env_more (env_more (env_idx env0) A_run) C_run) D_run) B_run) G_run)
-- COST 15421
theorem H_true : kTrue Tryz.prog (envT smH []) 100000 135 [] = true := by kernel_rfl
theorem H_run (w : World) (hw : GlW glC w) : Calls Tryz.prog 135 #[] w fun e w' => e = .returned (.bool true) ∧ Same w w' := true_of (envT_ok (l := []) smH_ok trivial) gl_ne H_true rfl w hw
end
end Go.Proofs.YtdegbhgoldglaaaGreatDoor
