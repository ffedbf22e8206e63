/-
  Part of the proof. No condition.
-/
import Derived.Test.YtkgejlchafionaaGreatDoorBegB
namespace Go.Proofs.YtkgejlchafionaaGreatDoor
open Tryz
open Go Go.Eng
set_option maxRecDepth 1000000
theorem ab:(Hz (OQ 283 (OQ 340 KN)) Ja).OK prog:=(Jb (Jb kb So) eh)
theorem YI:QS prog (Hz (OQ 283 (OQ 340 KN)) Ja) 100000 223 []=true:=by kernel_rfl
theorem ANV(w:World)(a:NP IP w):Calls prog 223 #[] w λe w'=>e=.returned (.bool true)/\DU w w':=
 MQ ab Al YI rfl w a
