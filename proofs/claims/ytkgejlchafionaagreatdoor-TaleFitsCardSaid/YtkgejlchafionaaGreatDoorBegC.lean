/-
  Part of the proof. No condition.
-/
import Derived.Test.YtkgejlchafionaaGreatDoorBegB
namespace Go.Proofs.YtkgejlchafionaaGreatDoor
open Tryz
open Go Go.Eng
set_option maxRecDepth 1000000
theorem UU:(EE (Jx 283 (Jx 340 FQ)) Fl).OK prog:=(Fm (Fm aB Mz) W6)
theorem SB:LJ prog (EE (Jx 283 (Jx 340 FQ)) Fl) 100000 223 []=true:=by kernel_rfl
theorem UV (w:World) (a:I6 FP w):Calls prog 223 #[] w λe w'=>e=.returned (.bool true)/\Bx w w':=
 IE UU AM SB rfl w a
