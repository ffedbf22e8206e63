/-
  Part of the proof. No condition.
-/
import Derived.Test.YtldllfocpadkeaaGreatDoorBegD
namespace Go.Proofs.YtldllfocpadkeaaGreatDoor
open Go Go.Eng
set_option maxRecDepth 1000000
theorem begun19_env:(envC (sumI (sumT 91 sum0)) spec0).OK Tryz.prog:=(env_idx (env_more env0 begun17_run))
theorem begun19_true:kTrue Tryz.prog (envC (sumI (sumT 91 sum0)) spec0) 100000 12 []=true:=by kernel_rfl
theorem begun19_run (w:World) (hw:GlW glC w):Calls Tryz.prog 12 #[] w λe w'=>e=.returned (.bool true)/\Same w w':=
 true_of begun19_env gl_ne begun19_true rfl w hw
