/-
  Part of the proof. No condition.
-/
import Derived.Test.YtldllfocpadkeaaGreatDoorEnv
namespace Go.Proofs.YtldllfocpadkeaaGreatDoor
open Go Go.Eng
set_option maxRecDepth 1000000
theorem begun1_env:(envC sum0 spec0).OK Tryz.prog:=env0
theorem begun1_true:kTrue Tryz.prog (envC sum0 spec0) 100000 252 []=true:=by kernel_rfl
theorem begun1_run (w:World) (hw:GlW glC w):Calls Tryz.prog 252 #[] w λe w'=>e=.returned (.bool true)/\Same w w':=
 true_of begun1_env gl_ne begun1_true rfl w hw
