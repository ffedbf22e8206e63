/-
  Part of the proof. No condition.
-/
import Derived.Test.YtkgejlchafionaaGreatDoorBegD
namespace Go.Proofs.YtkgejlchafionaaGreatDoor
open Tryz
open Go Go.Eng
set_option maxRecDepth 1000000
theorem US:(EE (T3 (Jx 129 FQ)) Fl).OK prog:=(Rx (Fm aB U2))
theorem SA:LJ prog (EE (T3 (Jx 129 FQ)) Fl) 100000 47 []=true:=by kernel_rfl
theorem UT (w:World) (a:I6 FP w):Calls prog 47 #[] w λe w'=>e=.returned (.bool true)/\Bx w w':=
 IE US AM SA rfl w a
