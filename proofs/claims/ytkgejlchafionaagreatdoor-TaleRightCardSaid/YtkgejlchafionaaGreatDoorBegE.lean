/-
  Part of the proof. No condition.
-/
import Derived.Test.YtkgejlchafionaaGreatDoorBegD
namespace Go.Proofs.YtkgejlchafionaaGreatDoor
open Tryz
open Go Go.Eng
set_option maxRecDepth 1000000
theorem aZ:(Hz (aB (OQ 129 KN)) Ja).OK prog:=(X2 (Jb kb bP))
theorem YH:QS prog (Hz (aB (OQ 129 KN)) Ja) 100000 47 []=true:=by kernel_rfl
theorem aa(w:World)(a:NP IP w):Calls prog 47 #[] w λe w'=>e=.returned (.bool true)/\DU w w':=
 MQ aZ Al YH rfl w a
