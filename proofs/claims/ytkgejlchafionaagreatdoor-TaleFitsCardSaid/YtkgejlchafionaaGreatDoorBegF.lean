/-
  Part of the proof. No condition.
-/
import Derived.Test.YtkgejlchafionaaGreatDoorBegE
namespace Go.Proofs.YtkgejlchafionaaGreatDoor
open Tryz
open Go Go.Eng
set_option maxRecDepth 1000000
theorem S0:(EE (T3 (Jx 47 FQ)) Fl).OK prog:=(Rx (Fm aB UT))
theorem RK:LJ prog (EE (T3 (Jx 47 FQ)) Fl) 100000 6 []=true:=by kernel_rfl
theorem S1 (w:World) (a:I6 FP w):Calls prog 6 #[] w λe w'=>e=.returned (.bool true)/\Bx w w':=
 IE S0 AM RK rfl w a
