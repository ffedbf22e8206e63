/-
  Part of the proof. No condition.
-/
import Derived.Test.YtkgejlchafionaaGreatDoorBegE
namespace Go.Proofs.YtkgejlchafionaaGreatDoor
open Tryz
open Go Go.Eng
set_option maxRecDepth 1000000
theorem Y6:(Hz (aB (OQ 47 KN)) Ja).OK prog:=(X2 (Jb kb aa))
theorem XO:QS prog (Hz (aB (OQ 47 KN)) Ja) 100000 6 []=true:=by kernel_rfl
theorem Y7(w:World)(a:NP IP w):Calls prog 6 #[] w λe w'=>e=.returned (.bool true)/\DU w w':=
 MQ Y6 Al XO rfl w a
