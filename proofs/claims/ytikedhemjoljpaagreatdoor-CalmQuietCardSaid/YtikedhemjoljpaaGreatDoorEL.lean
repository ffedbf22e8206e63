/-
  A closed run, cut into calls that are run by themselves. No condition.
-/
import Derived.Test.YtikedhemjoljpaaGreatDoorEA
import Derived.Test.YtikedhemjoljpaaGreatDoorEB
import Derived.Test.YtikedhemjoljpaaGreatDoorEC
import Derived.Test.YtikedhemjoljpaaGreatDoorED
import Derived.Test.YtikedhemjoljpaaGreatDoorEG
import Derived.Test.YtikedhemjoljpaaGreatDoorEK
import Derived.Test.YtikedhemjoljpaaGreatDoorEM0
namespace Go.Proofs.YtikedhemjoljpaaGreatDoor
noncomputable section
open Go Go.Eng
set_option maxRecDepth 1000000
noncomputable def smL := (sumT 454 (sumT 445 (sumT 507 (sumT 444 (sumT 506 (sumT 519 (sumI sum0)))))))
theorem smL_ok : SumOK smL := (env_more (env_more (env_more (env_more (env_more (env_more (env_idx env0) A_truer) C_truer) D_truer) B_truer) G_truer) K_truer)
def Lq0 : AO := .row [.int .u64 1, .int .u64 10, .int .u64 100, .int .u64 1000, .int .u64 10000, .int .u64 100000, .int .u64 1000000, .int .u64 10000000, .int .u64 100000000, .int .u64 1000000000, .int .u64 10000000000, .int .u64 100000000000, .int .u64 1000000000000, .int .u64 10000000000000, .int .u64 100000000000000, .int .u64 1000000000000000, .int .u64 10000000000000000, .int .u64 100000000000000000, .int .u64 1000000000000000000, .int .u64 10000000000000000000] 0 true
def Lq1 : AO := oR [vB 9 0x485454502f312e3120, vI 0, vI 0, vI 0, .slice none 0 0, v0] 264
def Lq2 : AO := oR [vB 9 0x485454502f312e3120, vI 9, vI 0, vI 0, .slice none 0 0, v0] 264
def Le83 : Ent := ⟨182, [vP 22 0], 23, [(1, Lq0), (22, Lq1)], vI 2, [(22, some Lq2)], 33, [22], false⟩
-- COST 15419
theorem Le83_k : chk smL [Me82] Le83 = true := by kernel_rfl
theorem Le83_c : EO Le83 := eo (l := [Me82]) smL_ok ⟨Me82_c, trivial⟩ Le83_k
-- COST 3226
theorem L_true : kzTrue Tryz.prog (envT smL [Me82, Me81, Me80, Le83]) 100000 344 [] = true := by kernel_rfl
theorem L_truer (w : World) (hw : GlW glC w) : Calls Tryz.prog 344 #[] w fun e w' => e = .returned (.bool true) ∧ Same w w' := kz_true (envT_ok (l := [Me82, Me81, Me80, Le83]) smL_ok ⟨Me82_c, Me81_c, Me80_c, Le83_c, trivial⟩) gl_ne L_true rfl w hw
end
end Go.Proofs.YtikedhemjoljpaaGreatDoor
