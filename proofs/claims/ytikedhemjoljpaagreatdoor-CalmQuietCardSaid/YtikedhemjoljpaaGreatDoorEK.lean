/-
  A closed run, cut into calls that are run by themselves. No condition.
-/
import Derived.Test.YtikedhemjoljpaaGreatDoorEA
import Derived.Test.YtikedhemjoljpaaGreatDoorEB
import Derived.Test.YtikedhemjoljpaaGreatDoorEC
import Derived.Test.YtikedhemjoljpaaGreatDoorED
import Derived.Test.YtikedhemjoljpaaGreatDoorEG
import Derived.Test.YtikedhemjoljpaaGreatDoorEM0
namespace Go.Proofs.YtikedhemjoljpaaGreatDoor
noncomputable section
open Go Go.Eng
set_option maxRecDepth 1000000
noncomputable def smK := (sumT 445 (sumT 507 (sumT 444 (sumT 506 (sumT 519 (sumI sum0))))))
theorem smK_ok : SumOK smK := (env_more (env_more (env_more (env_more (env_more (env_idx env0) A_truer) C_truer) D_truer) B_truer) G_truer)
-- COST 14223
theorem K_true : kzTrue Tryz.prog (envT smK [Me75, Me74, Me76, Me77, Me78]) 100000 454 [] = true := by kernel_rfl
theorem K_truer (w : World) (hw : GlW glC w) : Calls Tryz.prog 454 #[] w fun e w' => e = .returned (.bool true) ∧ Same w w' := kz_true (envT_ok (l := [Me75, Me74, Me76, Me77, Me78]) smK_ok ⟨Me75_c, Me74_c, Me76_c, Me77_c, Me78_c, trivial⟩) gl_ne K_true rfl w hw
end
end Go.Proofs.YtikedhemjoljpaaGreatDoor
