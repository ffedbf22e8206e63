/-
  armariumlaw22.CalmQuiet: words come, as many as may. No condition.
-/
import Derived.Test.YtikedhemjoljpaaGreatDoorLawCQ0
namespace Go.Proofs.YtikedhemjoljpaaGreatDoor
noncomputable section
open Go Go.Eng
set_option maxRecDepth 1000000
theorem cq22_0 (n t : Int) : tabF (X3 n t 22 false) 0 14 = tabG (R3 t 22 false) 0 14 := by kernel_rfl
theorem cq22_1 (n t : Int) : tabF (X3 n t 22 false) 14 5 = tabG (R3 t 22 false) 14 5 := by kernel_rfl
theorem cq22_2 (n t : Int) : tabF (X3 n t 22 false) 19 4 = tabG (R3 t 22 false) 19 4 := by kernel_rfl
theorem eq22 (n t : Int) : X3 n t 22 true 22 = R3 t 22 true 22 := by kernel_rfl
theorem cq23_0 (n t : Int) : tabF (X3 n t 23 false) 0 14 = tabG (R3 t 23 false) 0 14 := by kernel_rfl
theorem cq23_1 (n t : Int) : tabF (X3 n t 23 false) 14 5 = tabG (R3 t 23 false) 14 5 := by kernel_rfl
theorem cq23_2 (n t : Int) : tabF (X3 n t 23 false) 19 5 = tabG (R3 t 23 false) 19 5 := by kernel_rfl
theorem eq23 (n t : Int) : X3 n t 23 true 23 = R3 t 23 true 23 := by kernel_rfl
theorem cq24_0 (n t : Int) : tabF (X3 n t 24 false) 0 15 = tabG (R3 t 24 false) 0 15 := by kernel_rfl
theorem cq24_1 (n t : Int) : tabF (X3 n t 24 false) 15 5 = tabG (R3 t 24 false) 15 5 := by kernel_rfl
theorem cq24_2 (n t : Int) : tabF (X3 n t 24 false) 20 5 = tabG (R3 t 24 false) 20 5 := by kernel_rfl
theorem eq24 (n t : Int) : X3 n t 24 true 24 = R3 t 24 true 24 := by kernel_rfl
theorem cq25_0 (n t : Int) : tabF (X3 n t 25 false) 0 16 = tabG (R3 t 25 false) 0 16 := by kernel_rfl
theorem cq25_1 (n t : Int) : tabF (X3 n t 25 false) 16 5 = tabG (R3 t 25 false) 16 5 := by kernel_rfl
theorem cq25_2 (n t : Int) : tabF (X3 n t 25 false) 21 5 = tabG (R3 t 25 false) 21 5 := by kernel_rfl
theorem eq25 (n t : Int) : X3 n t 25 true 25 = R3 t 25 true 25 := by kernel_rfl
theorem cq26_0 (n t : Int) : tabF (X3 n t 26 false) 0 16 = tabG (R3 t 26 false) 0 16 := by kernel_rfl
theorem cq26_1 (n t : Int) : tabF (X3 n t 26 false) 16 6 = tabG (R3 t 26 false) 16 6 := by kernel_rfl
theorem cq26_2 (n t : Int) : tabF (X3 n t 26 false) 22 5 = tabG (R3 t 26 false) 22 5 := by kernel_rfl
theorem eq26 (n t : Int) : X3 n t 26 true 26 = R3 t 26 true 26 := by kernel_rfl
theorem cq27_0 (n t : Int) : tabF (X3 n t 27 false) 0 17 = tabG (R3 t 27 false) 0 17 := by kernel_rfl
theorem cq27_1 (n t : Int) : tabF (X3 n t 27 false) 17 6 = tabG (R3 t 27 false) 17 6 := by kernel_rfl
theorem cq27_2 (n t : Int) : tabF (X3 n t 27 false) 23 5 = tabG (R3 t 27 false) 23 5 := by kernel_rfl
theorem eq27 (n t : Int) : X3 n t 27 true 27 = R3 t 27 true 27 := by kernel_rfl
theorem cq28_0 (n t : Int) : tabF (X3 n t 28 false) 0 17 = tabG (R3 t 28 false) 0 17 := by kernel_rfl
theorem cq28_1 (n t : Int) : tabF (X3 n t 28 false) 17 6 = tabG (R3 t 28 false) 17 6 := by kernel_rfl
theorem cq28_2 (n t : Int) : tabF (X3 n t 28 false) 23 6 = tabG (R3 t 28 false) 23 6 := by kernel_rfl
theorem eq28 (n t : Int) : X3 n t 28 true 28 = R3 t 28 true 28 := by kernel_rfl
theorem cq29_0 (n t : Int) : tabF (X3 n t 29 false) 0 18 = tabG (R3 t 29 false) 0 18 := by kernel_rfl
theorem cq29_1 (n t : Int) : tabF (X3 n t 29 false) 18 6 = tabG (R3 t 29 false) 18 6 := by kernel_rfl
theorem cq29_2 (n t : Int) : tabF (X3 n t 29 false) 24 6 = tabG (R3 t 29 false) 24 6 := by kernel_rfl
theorem eq29 (n t : Int) : X3 n t 29 true 29 = R3 t 29 true 29 := by kernel_rfl
end
end Go.Proofs.YtikedhemjoljpaaGreatDoor
