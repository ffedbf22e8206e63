/-
  A closed run, cut into calls that are run by themselves. No condition.
-/
import Derived.Test.YtdegbhgoldglaaaGreatDoorEF
import Derived.Test.YtdegbhgoldglaaaGreatDoorEH
import Derived.Test.YtdegbhgoldglaaaGreatDoorEI
namespace Go.Proofs.YtdegbhgoldglaaaGreatDoor
noncomputable section
open Go Go.Eng
set_option maxRecDepth 1000000
noncomputable def smJ := (sumT 136 (sumT 135 (sumT 315 (sumT 319 (sumT 444 (sumT 314 (sumT 443 (sumT 477 (sumI sum0)))))))))
theorem smJ_ok : SumOK smJ := (env_more (env_more (env_more (env_more (env_more (env_more (env_more (env_more (env_idx env0) A_run) C_run) D_run) B_run) F_run) G_run) H_run) I_run)
-- COST 10814
theorem J_true : kTrue Tryz.prog (envT smJ []) 100000 36 [] = true := by kernel_rfl
theorem J_run (w : World) (hw : GlW glC w) : Calls Tryz.prog 36 #[] w fun e w' => e = .returned (.bool true) ∧ Same w w' := true_of (envT_ok (l := []) smJ_ok trivial) gl_ne J_true rfl w hw
end
end Go.Proofs.YtdegbhgoldglaaaGreatDoor
