/-
  Part of the proof. No condition.
-/
import Derived.Test.YtldllfocpadkeaaGreatDoorG7
namespace Go.Proofs.YtldllfocpadkeaaGreatDoor
open Go Go.Eng
set_option maxRecDepth 1000000
theorem begun17_env:(envC (sumI (sumT 44 sum0)) spec0).OK Tryz.prog:=(env_idx (env_more env0 begun15_run))
theorem begun17_true:kTrue Tryz.prog (envC (sumI (sumT 44 sum0)) spec0) 100000 91 []=true:=by kernel_rfl
theorem begun17_run (w:World) (hw:GlW glC w):Calls Tryz.prog 91 #[] w λe w'=>e=.returned (.bool true)/\Same w w':=
 true_of begun17_env gl_ne begun17_true rfl w hw
