/-
  Part of the proof. No condition.
-/
import Derived.Test.YtkgejlchafionaaGreatDoorEnv
namespace Go.Proofs.YtkgejlchafionaaGreatDoor
open Tryz
open Go Go.Eng
set_option maxRecDepth 1000000
theorem cW:(Hz KN Ja).OK prog:=kb
theorem Y2:QS prog (Hz KN Ja) 100000 340 []=true:=by kernel_rfl
theorem So(w:World)(a:NP IP w):Calls prog 340 #[] w λe w'=>e=.returned (.bool true)/\DU w w':=
 MQ cW Al Y2 rfl w a
