/-
  Part of the proof. No condition.
-/
import Derived.Test.YtkgejlchafionaaGreatDoorBegC
import Derived.Test.YtkgejlchafionaaGreatDoorG4
namespace Go.Proofs.YtkgejlchafionaaGreatDoor
open Tryz
open Go Go.Eng
set_option maxRecDepth 1000000
theorem U1:(EE (T3 (Jx 223 FQ)) Fl).OK prog:=(Rx (Fm aB UV))
theorem ABH:LJ prog (EE (T3 (Jx 223 FQ)) Fl) 100000 129 []=true:=by kernel_rfl
theorem U2 (w:World) (a:I6 FP w):Calls prog 129 #[] w λe w'=>e=.returned (.bool true)/\Bx w w':=
 IE U1 AM ABH rfl w a
