/-
  A closed run, cut into calls that are run by themselves. No condition.
-/
import Derived.Test.YtikedhemjoljpaaGreatDoorEA
import Derived.Test.YtikedhemjoljpaaGreatDoorEB
import Derived.Test.YtikedhemjoljpaaGreatDoorEC
import Derived.Test.YtikedhemjoljpaaGreatDoorED
import Derived.Test.YtikedhemjoljpaaGreatDoorEG
import Derived.Test.YtikedhemjoljpaaGreatDoorEJ
import Derived.Test.YtikedhemjoljpaaGreatDoorEK
import Derived.Test.YtikedhemjoljpaaGreatDoorEL
import Derived.Test.YtikedhemjoljpaaGreatDoorEM
import Derived.Test.YtikedhemjoljpaaGreatDoorEN
import Derived.Test.YtikedhemjoljpaaGreatDoorEO
namespace Go.Proofs.YtikedhemjoljpaaGreatDoor
noncomputable section
open Go Go.Eng
set_option maxRecDepth 1000000
noncomputable def smP := (sumT 9 (sumT 69 (sumT 186 (sumT 185 (sumT 344 (sumT 454 (sumT 445 (sumT 507 (sumT 444 (sumT 506 (sumT 519 (sumI sum0))))))))))))
theorem smP_ok : SumOK smP := (env_more (env_more (env_more (env_more (env_more (env_more (env_more (env_more (env_more (env_more (env_more (env_idx env0) A_truer) C_truer) D_truer) B_truer) G_truer) K_truer) L_truer) J_truer) M_truer) N_truer) O_truer)
-- COST 288
theorem P_true : kzTrue Tryz.prog (envT smP []) 100000 3 [] = true := by kernel_rfl
theorem P_truer (w : World) (hw : GlW glC w) : Calls Tryz.prog 3 #[] w fun e w' => e = .returned (.bool true) ∧ Same w w' := kz_true (envT_ok (l := []) smP_ok trivial) gl_ne P_true rfl w hw
end
end Go.Proofs.YtikedhemjoljpaaGreatDoor
