/-
  Part of the proof. No condition.
-/
import Derived.Test.YtkgejlchafionaaGreatDoorEnv
namespace Go.Proofs.YtkgejlchafionaaGreatDoor
open Tryz
open Go Go.Eng
set_option maxRecDepth 1000000
theorem VT:(EE FQ Fl).OK prog:=aB
theorem Sw:LJ prog (EE FQ Fl) 100000 340 []=true:=by kernel_rfl
theorem Mz (w:World) (a:I6 FP w):Calls prog 340 #[] w λe w'=>e=.returned (.bool true)/\Bx w w':=
 IE VT AM Sw rfl w a
