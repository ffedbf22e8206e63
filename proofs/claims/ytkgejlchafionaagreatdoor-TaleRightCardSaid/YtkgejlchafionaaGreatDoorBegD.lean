/-
  Part of the proof. No condition.
-/
import Derived.Test.YtkgejlchafionaaGreatDoorBegC
import Derived.Test.YtkgejlchafionaaGreatDoorG4
namespace Go.Proofs.YtkgejlchafionaaGreatDoor
open Tryz
open Go Go.Eng
set_option maxRecDepth 1000000
theorem bN:(Hz (aB (OQ 223 KN)) Ja).OK prog:=(X2 (Jb kb ANV))
theorem Ye:QS prog (Hz (aB (OQ 223 KN)) Ja) 100000 129 []=true:=by kernel_rfl
theorem bP(w:World)(a:NP IP w):Calls prog 129 #[] w λe w'=>e=.returned (.bool true)/\DU w w':=
 MQ bN Al Ye rfl w a
