import Derived.Test.YtpdbgpkedehpgaaGreatDoorBegB
namespace Go.Proofs.YtpdbgpkedehpgaaGreatDoor
open Go Go.Eng
set_option maxRecDepth 1000000
theorem env2 : (envC (sumT 63 sum0)).OK Tryz.prog := env_more env0 begun5
theorem t21 : kTrue Tryz.prog (envC (sumT 63 sum0)) 100000 21 [] = true := by kernel_rfl
theorem begun15 (w : World) (hw : GlW [(0, pow10C)] w) : Calls Tryz.prog 21 #[] w fun e w' => e = .returned (.bool true) ∧ Same w w' :=
  true_of env2 gl_ne t21 rfl w hw
theorem env3 : (envC (sumT 21 sum0)).OK Tryz.prog := env_more env0 begun15
theorem t12 : kTrue Tryz.prog (envC (sumT 21 sum0)) 100000 12 [] = true := by kernel_rfl
theorem scanNone_run (w : World) (hw : GlW [(0, pow10C)] w) : Calls Tryz.prog 12 #[] w fun e w' => e = .returned (.bool true) ∧ Same w w' :=
  true_of env3 gl_ne t12 rfl w hw
end Go.Proofs.YtpdbgpkedehpgaaGreatDoor
