/-
  A closed run, cut into calls that are run by themselves. No condition.
-/
import Derived.Test.YtdegbhgoldglaaaGreatDoorEC
namespace Go.Proofs.YtdegbhgoldglaaaGreatDoor
noncomputable section
open Go Go.Eng
set_option maxRecDepth 1000000
noncomputable def smD := (sumT 443 (sumT 477 (sumI sum0)))
theorem smD_ok : SumOK smD := (env_more (env_more (env_idx env0) A_run) C_run)
-- COST 11696
theorem D_true : kTrue Tryz.prog (envT smD []) 100000 314 [] = true := by kernel_rfl
theorem D_run (w : World) (hw : GlW glC w) : Calls Tryz.prog 314 #[] w fun e w' => e = .returned (.bool true) ∧ Same w w' := true_of (envT_ok (l := []) smD_ok trivial) gl_ne D_true rfl w hw
end
end Go.Proofs.YtdegbhgoldglaaaGreatDoor
