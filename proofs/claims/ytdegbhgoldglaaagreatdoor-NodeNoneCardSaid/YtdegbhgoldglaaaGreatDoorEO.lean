/-
  A closed run, cut into calls that are run by themselves. No condition.
-/
import Derived.Test.YtdegbhgoldglaaaGreatDoorEN
namespace Go.Proofs.YtdegbhgoldglaaaGreatDoor
noncomputable section
open Go Go.Eng
set_option maxRecDepth 1000000
noncomputable def smO := (sumT 7 (sumT 44 (sumT 36 (sumT 158 (sumT 335 (sumT 315 (sumT 444 (sumT 314 (sumT 443 (sumT 477 (sumI sum0)))))))))))
theorem smO_ok : SumOK smO := (env_more (env_more (env_more (env_more (env_more (env_more (env_more (env_more (env_more (env_more (env_idx env0) A_run) C_run) D_run) B_run) G_run) K_run) L_run) J_run) M_run) N_run)
-- COST 8224
theorem O_true : kTrue Tryz.prog (envT smO []) 100000 6 [] = true := by kernel_rfl
theorem O_run (w : World) (hw : GlW glC w) : Calls Tryz.prog 6 #[] w fun e w' => e = .returned (.bool true) ∧ Same w w' := true_of (envT_ok (l := []) smO_ok trivial) gl_ne O_true rfl w hw
end
end Go.Proofs.YtdegbhgoldglaaaGreatDoor
