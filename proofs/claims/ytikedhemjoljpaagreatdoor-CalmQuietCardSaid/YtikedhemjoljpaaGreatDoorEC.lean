/-
  A closed run, cut into calls that are run by themselves. No condition.
-/
import Derived.Test.YtikedhemjoljpaaGreatDoorEA
namespace Go.Proofs.YtikedhemjoljpaaGreatDoor
noncomputable section
open Go Go.Eng
set_option maxRecDepth 1000000
noncomputable def smC := (sumT 519 (sumI sum0))
theorem smC_ok : SumOK smC := (env_more (env_idx env0) A_truer)
-- COST 733
theorem C_true : kzTrue Tryz.prog (envT smC []) 100000 506 [] = true := by kernel_rfl
theorem C_truer (w : World) (hw : GlW glC w) : Calls Tryz.prog 506 #[] w fun e w' => e = .returned (.bool true) ∧ Same w w' := kz_true (envT_ok (l := []) smC_ok trivial) gl_ne C_true rfl w hw
end
end Go.Proofs.YtikedhemjoljpaaGreatDoor
