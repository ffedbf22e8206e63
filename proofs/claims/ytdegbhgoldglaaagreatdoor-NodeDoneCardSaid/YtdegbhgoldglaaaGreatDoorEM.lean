/-
  A closed run, cut into calls that are run by themselves. No condition.
-/
import Derived.Test.YtdegbhgoldglaaaGreatDoorEL
namespace Go.Proofs.YtdegbhgoldglaaaGreatDoor
noncomputable section
open Go Go.Eng
set_option maxRecDepth 1000000
noncomputable def smM := (sumT 158 (sumT 335 (sumT 315 (sumT 444 (sumT 314 (sumT 443 (sumT 477 (sumI sum0))))))))
theorem smM_ok : SumOK smM := (env_more (env_more (env_more (env_more (env_more (env_more (env_more (env_idx env0) A_run) C_run) D_run) B_run) G_run) K_run) L_run)
-- COST 9658
theorem M_true : kTrue Tryz.prog (envT smM []) 100000 44 [] = true := by kernel_rfl
theorem M_run (w : World) (hw : GlW glC w) : Calls Tryz.prog 44 #[] w fun e w' => e = .returned (.bool true) ∧ Same w w' := true_of (envT_ok (l := []) smM_ok trivial) gl_ne M_true rfl w hw
end
end Go.Proofs.YtdegbhgoldglaaaGreatDoor
