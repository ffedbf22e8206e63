import Derived.Test.YtpdbgpkedehpgaaGreatDoorBegA
namespace Go.Proofs.YtpdbgpkedehpgaaGreatDoor
open Go Go.Eng
set_option maxRecDepth 1000000
theorem env1 : (envC (sumT 163 sum0)).OK Tryz.prog := env_more env0 begun1
theorem t63 : kTrue Tryz.prog (envC (sumT 163 sum0)) 100000 63 [] = true := by kernel_rfl
theorem begun5 (w : World) (hw : GlW [(0, pow10C)] w) : Calls Tryz.prog 63 #[] w fun e w' => e = .returned (.bool true) ∧ Same w w' :=
  true_of env1 gl_ne t63 rfl w hw
end Go.Proofs.YtpdbgpkedehpgaaGreatDoor
