/-
  Part of the proof. No condition.
-/
import Derived.Test.YtkgejlchafionaaGreatDoorBegA
namespace Go.Proofs.YtkgejlchafionaaGreatDoor
open Tryz
open Go Go.Eng
set_option maxRecDepth 1000000
theorem W5:(EE (Jx 340 FQ) Fl).OK prog:=(Fm aB Mz)
theorem Uq:LJ prog (EE (Jx 340 FQ) Fl) 100000 283 []=true:=by kernel_rfl
theorem W6 (w:World) (a:I6 FP w):Calls prog 283 #[] w λe w'=>e=.returned (.bool true)/\Bx w w':=
 IE W5 AM Uq rfl w a
