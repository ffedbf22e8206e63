/-
  A closed run, cut into calls that are run by themselves. No condition.
-/
import Derived.Test.YtikedhemjoljpaaGreatDoorEA
import Derived.Test.YtikedhemjoljpaaGreatDoorEB
import Derived.Test.YtikedhemjoljpaaGreatDoorEC
import Derived.Test.YtikedhemjoljpaaGreatDoorED
import Derived.Test.YtikedhemjoljpaaGreatDoorEG
import Derived.Test.YtikedhemjoljpaaGreatDoorEK
import Derived.Test.YtikedhemjoljpaaGreatDoorEL
import Derived.Test.YtikedhemjoljpaaGreatDoorEM0
namespace Go.Proofs.YtikedhemjoljpaaGreatDoor
noncomputable section
open Go Go.Eng
set_option maxRecDepth 1000000
noncomputable def smM := (sumT 344 (sumT 454 (sumT 445 (sumT 507 (sumT 444 (sumT 506 (sumT 519 (sumI sum0))))))))
theorem smM_ok : SumOK smM := (env_more (env_more (env_more (env_more (env_more (env_more (env_more (env_idx env0) A_truer) C_truer) D_truer) B_truer) G_truer) K_truer) L_truer)
-- COST 8102
theorem M_true : kzTrue Tryz.prog (envT smM [Me84, Me86, Me85, Me13]) 100000 186 [] = true := by kernel_rfl
theorem M_truer (w : World) (hw : GlW glC w) : Calls Tryz.prog 186 #[] w fun e w' => e = .returned (.bool true) ∧ Same w w' := kz_true (envT_ok (l := [Me84, Me86, Me85, Me13]) smM_ok ⟨Me84_c, Me86_c, Me85_c, Me13_c, trivial⟩) gl_ne M_true rfl w hw
end
end Go.Proofs.YtikedhemjoljpaaGreatDoor
