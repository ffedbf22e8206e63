/-
  A closed run, cut into calls that are run by themselves. No condition.
-/
import Derived.Test.YtdegbhgoldglaaaGreatDoorEK
namespace Go.Proofs.YtdegbhgoldglaaaGreatDoor
noncomputable section
open Go Go.Eng
set_option maxRecDepth 1000000
noncomputable def smL := (sumT 335 (sumT 315 (sumT 444 (sumT 314 (sumT 443 (sumT 477 (sumI sum0)))))))
theorem smL_ok : SumOK smL := (env_more (env_more (env_more (env_more (env_more (env_more (env_idx env0) A_run) C_run) D_run) B_run) G_run) K_run)
def Lq0 : AO := .row [.int .u64 1, .int .u64 10, .int .u64 100, .int .u64 1000, .int .u64 10000, .int .u64 100000, .int .u64 1000000, .int .u64 10000000, .int .u64 100000000, .int .u64 1000000000, .int .u64 10000000000, .int .u64 100000000000, .int .u64 1000000000000, .int .u64 10000000000000, .int .u64 100000000000000, .int .u64 1000000000000000, .int .u64 10000000000000000, .int .u64 100000000000000000, .int .u64 1000000000000000000, .int .u64 10000000000000000000] 0 true
def Lq1 : AO := oR [vB 9 0x485454502f312e3120, vI 0, vI 0, vI 0, .slice none 0 0, v0] 83
def Lq2 : AO := oR [vB 9 0x485454502f312e3120, vI 9, vI 0, vI 0, .slice none 0 0, v0] 83
def Le0 : Ent := ⟨27, [vP 50 0], 51, [(0, Lq0), (50, Lq1)], vI 2, [(50, some Lq2)], 62, [50], false⟩
-- COST 15538
theorem Le0_k : chk smL [] Le0 = true := by kernel_rfl
theorem Le0_c : EO Le0 := eo (l := []) smL_ok trivial Le0_k
-- COST 6776
theorem L_true : kTrue Tryz.prog (envT smL [Le0]) 100000 158 [] = true := by kernel_rfl
theorem L_run (w : World) (hw : GlW glC w) : Calls Tryz.prog 158 #[] w fun e w' => e = .returned (.bool true) ∧ Same w w' := true_of (envT_ok (l := [Le0]) smL_ok ⟨Le0_c, trivial⟩) gl_ne L_true rfl w hw
end
end Go.Proofs.YtdegbhgoldglaaaGreatDoor
