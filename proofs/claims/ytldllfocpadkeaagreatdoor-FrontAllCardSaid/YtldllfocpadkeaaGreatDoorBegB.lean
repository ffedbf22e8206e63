/-
  Part of the proof. No condition.
-/
import Derived.Test.YtldllfocpadkeaaGreatDoorBegA
namespace Go.Proofs.YtldllfocpadkeaaGreatDoor
open Go Go.Eng
set_option maxRecDepth 1000000
theorem begun5_env:(envC (sumT 252 sum0) spec0).OK Tryz.prog:=(env_more env0 begun1_run)
theorem begun5_true:kTrue Tryz.prog (envC (sumT 252 sum0) spec0) 100000 129 []=true:=by kernel_rfl
theorem begun5_run (w:World) (hw:GlW glC w):Calls Tryz.prog 129 #[] w λe w'=>e=.returned (.bool true)/\Same w w':=
 true_of begun5_env gl_ne begun5_true rfl w hw
