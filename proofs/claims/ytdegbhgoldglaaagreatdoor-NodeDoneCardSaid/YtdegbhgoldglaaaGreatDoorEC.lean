/-
  A closed run, cut into calls that are run by themselves. No condition.
-/
import Derived.Test.YtdegbhgoldglaaaGreatDoorEA
namespace Go.Proofs.YtdegbhgoldglaaaGreatDoor
noncomputable section
open Go Go.Eng
set_option maxRecDepth 1000000
noncomputable def smC := (sumT 477 (sumI sum0))
theorem smC_ok : SumOK smC := (env_more (env_idx env0) A_run)
-- COST 733
theorem C_true : kTrue Tryz.prog (envT smC []) 100000 443 [] = true := by kernel_rfl
theorem C_run (w : World) (hw : GlW glC w) : Calls Tryz.prog 443 #[] w fun e w' => e = .returned (.bool true) ∧ Same w w' := true_of (envT_ok (l := []) smC_ok trivial) gl_ne C_true rfl w hw
end
end Go.Proofs.YtdegbhgoldglaaaGreatDoor
