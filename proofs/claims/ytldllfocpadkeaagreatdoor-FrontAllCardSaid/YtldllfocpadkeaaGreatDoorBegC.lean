/-
  Part of the proof. No condition.
-/
import Derived.Test.YtldllfocpadkeaaGreatDoorBegB
namespace Go.Proofs.YtldllfocpadkeaaGreatDoor
open Go Go.Eng
set_option maxRecDepth 1000000
theorem begun15_env:(envC (sumT 129 (sumT 252 sum0)) spec0).OK Tryz.prog:=(env_more (env_more env0 begun1_run) begun5_run)
theorem begun15_true:kTrue Tryz.prog (envC (sumT 129 (sumT 252 sum0)) spec0) 100000 44 []=true:=by kernel_rfl
theorem begun15_run (w:World) (hw:GlW glC w):Calls Tryz.prog 44 #[] w λe w'=>e=.returned (.bool true)/\Same w w':=
 true_of begun15_env gl_ne begun15_true rfl w hw
