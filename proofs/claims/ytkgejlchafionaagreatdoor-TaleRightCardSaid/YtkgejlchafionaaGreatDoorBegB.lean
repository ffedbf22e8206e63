/-
  Part of the proof. No condition.
-/
import Derived.Test.YtkgejlchafionaaGreatDoorBegA
namespace Go.Proofs.YtkgejlchafionaaGreatDoor
open Tryz
open Go Go.Eng
set_option maxRecDepth 1000000
theorem ed:(Hz (OQ 340 KN) Ja).OK prog:=(Jb kb So)
theorem bC:QS prog (Hz (OQ 340 KN) Ja) 100000 283 []=true:=by kernel_rfl
theorem eh(w:World)(a:NP IP w):Calls prog 283 #[] w λe w'=>e=.returned (.bool true)/\DU w w':=
 MQ ed Al bC rfl w a
