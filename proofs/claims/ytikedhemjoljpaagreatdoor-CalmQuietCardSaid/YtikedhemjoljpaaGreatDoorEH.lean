/-
  A closed run, cut into calls that are run by themselves. No condition.
-/
import Derived.Test.YtikedhemjoljpaaGreatDoorEA
import Derived.Test.YtikedhemjoljpaaGreatDoorEB
import Derived.Test.YtikedhemjoljpaaGreatDoorEC
import Derived.Test.YtikedhemjoljpaaGreatDoorED
import Derived.Test.YtikedhemjoljpaaGreatDoorEG
import Derived.Test.YtikedhemjoljpaaGreatDoorEM0
namespace Go.Proofs.YtikedhemjoljpaaGreatDoor
noncomputable section
open Go Go.Eng
set_option maxRecDepth 1000000
noncomputable def smH := (sumT 445 (sumT 507 (sumT 444 (sumT 506 (sumT 519 (sumI sum0))))))
theorem smH_ok : SumOK smH := (env_more (env_more (env_more (env_more (env_more (env_idx env0) A_truer) C_truer) D_truer) B_truer) G_truer)
-- COST 7549
theorem H_true : kzTrue Tryz.prog (envT smH [Me26, Me23, Me21, Me24, Me15, Me4, Me1, Me42, Me31, Me43, Me25, Me22, Me41, Me17, Me39, Me7]) 100000 341 [] = true := by kernel_rfl
theorem H_truer (w : World) (hw : GlW glC w) : Calls Tryz.prog 341 #[] w fun e w' => e = .returned (.bool true) ∧ Same w w' := kz_true (envT_ok (l := [Me26, Me23, Me21, Me24, Me15, Me4, Me1, Me42, Me31, Me43, Me25, Me22, Me41, Me17, Me39, Me7]) smH_ok ⟨Me26_c, Me23_c, Me21_c, Me24_c, Me15_c, Me4_c, Me1_c, Me42_c, Me31_c, Me43_c, Me25_c, Me22_c, Me41_c, Me17_c, Me39_c, Me7_c, trivial⟩) gl_ne H_true rfl w hw
end
end Go.Proofs.YtikedhemjoljpaaGreatDoor
