/-
  A closed run, cut into calls that are run by themselves. No condition.
-/
import Derived.Test.YtdegbhgoldglaaaGreatDoorEG
namespace Go.Proofs.YtdegbhgoldglaaaGreatDoor
noncomputable section
open Go Go.Eng
set_option maxRecDepth 1000000
noncomputable def smK := (sumT 315 (sumT 444 (sumT 314 (sumT 443 (sumT 477 (sumI sum0))))))
theorem smK_ok : SumOK smK := (env_more (env_more (env_more (env_more (env_more (env_idx env0) A_run) C_run) D_run) B_run) G_run)
def Kq0 : AO := oR [vI 0, vI 0, vI 0, vI 0, .slice none 0 0, v0, v0, v0, .slice none 0 0, v0, vI 0, .slice none 0 0] 150
def Kq1 : AO := oR [vI 0, vI 0, vI 3, vI 0, vU 121 0 3, v0, v0, v0, .slice none 0 0, v0, vI 0, .slice none 0 0] 150
def Kq2 : AO := oR [vB 14 0x636f6e74656e742d4c454e475448, vB 1 0x32, vB 13 0x49662d4e6f6e652d4d61746368, vB 1 0x2a] 65
def Kq3 : AO := oR [vB 3 0x505554, vB 4 0x2f6f2f6b, vB 3 0x783d31, vU 94 0 2, vB 2 0x6869] 148
def Kq4 : AO := oR [.int .u8 71, .int .u8 69, .int .u8 84] 5
def Ke0 : Ent := ⟨47, [vP 10 0, vB 66 0x505554202f6f2f6b3f783d3120485454502f312e310d0a636f6e74656e742d4c454e4754483a20320d0a49662d4e6f6e652d4d617463683a2a0d0a0d0a6869474554], 11, [(10, Kq0)], vU 115 0 1, [(10, some Kq1), (94, some Kq2), (115, some Kq3), (121, some Kq4)], 122, [10], true⟩
-- COST 12650
theorem Ke0_k : chk smK [] Ke0 = true := by kernel_rfl
theorem Ke0_c : EO Ke0 := eo (l := []) smK_ok trivial Ke0_k
-- COST 8685
theorem K_true : kTrue Tryz.prog (envT smK [Ke0]) 100000 335 [] = true := by kernel_rfl
theorem K_run (w : World) (hw : GlW glC w) : Calls Tryz.prog 335 #[] w fun e w' => e = .returned (.bool true) ∧ Same w w' := true_of (envT_ok (l := [Ke0]) smK_ok ⟨Ke0_c, trivial⟩) gl_ne K_true rfl w hw
end
end Go.Proofs.YtdegbhgoldglaaaGreatDoor
