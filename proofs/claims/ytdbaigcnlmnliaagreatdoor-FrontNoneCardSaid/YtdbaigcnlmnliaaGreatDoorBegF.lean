import Derived.Test.YtdbaigcnlmnliaaGreatDoorBegE
namespace Go.Proofs.YtdbaigcnlmnliaaGreatDoor
open Go Go.Eng
set_option maxRecDepth 1000000
theorem frontNone_env : (envC (sumI (sumT 12 sum0)) spec0).OK Tryz.prog := (env_idx (env_more env0 begun19_run))
theorem frontNone_true : kTrue Tryz.prog (envC (sumI (sumT 12 sum0)) spec0) 100000 6 [] = true := by kernel_rfl
theorem frontNone_run (w : World) (hw : GlW glC w) : Calls Tryz.prog 6 #[] w fun e w' => e = .returned (.bool true) ∧ Same w w' :=
  true_of frontNone_env gl_ne frontNone_true rfl w hw
end Go.Proofs.YtdbaigcnlmnliaaGreatDoor
