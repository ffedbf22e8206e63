/-
  armariumlaw22.CalmQuiet: words come, as many as may. No condition.
-/
import Derived.Test.YtikedhemjoljpaaGreatDoorLawCQ0
namespace Go.Proofs.YtikedhemjoljpaaGreatDoor
noncomputable section
open Go Go.Eng
set_option maxRecDepth 1000000
theorem cq0_0 (n t : Int) : tabF (X3 n t 0 false) 0 1 = tabG (R3 t 0 false) 0 1 := by kernel_rfl
theorem eq0 (n t : Int) : X3 n t 0 true 0 = R3 t 0 true 0 := by kernel_rfl
theorem cq1_0 (n t : Int) : tabF (X3 n t 1 false) 0 2 = tabG (R3 t 1 false) 0 2 := by kernel_rfl
theorem eq1 (n t : Int) : X3 n t 1 true 1 = R3 t 1 true 1 := by kernel_rfl
theorem cq2_0 (n t : Int) : tabF (X3 n t 2 false) 0 3 = tabG (R3 t 2 false) 0 3 := by kernel_rfl
theorem eq2 (n t : Int) : X3 n t 2 true 2 = R3 t 2 true 2 := by kernel_rfl
theorem cq3_0 (n t : Int) : tabF (X3 n t 3 false) 0 4 = tabG (R3 t 3 false) 0 4 := by kernel_rfl
theorem eq3 (n t : Int) : X3 n t 3 true 3 = R3 t 3 true 3 := by kernel_rfl
theorem cq4_0 (n t : Int) : tabF (X3 n t 4 false) 0 5 = tabG (R3 t 4 false) 0 5 := by kernel_rfl
theorem eq4 (n t : Int) : X3 n t 4 true 4 = R3 t 4 true 4 := by kernel_rfl
theorem cq5_0 (n t : Int) : tabF (X3 n t 5 false) 0 6 = tabG (R3 t 5 false) 0 6 := by kernel_rfl
theorem eq5 (n t : Int) : X3 n t 5 true 5 = R3 t 5 true 5 := by kernel_rfl
theorem cq6_0 (n t : Int) : tabF (X3 n t 6 false) 0 7 = tabG (R3 t 6 false) 0 7 := by kernel_rfl
theorem eq6 (n t : Int) : X3 n t 6 true 6 = R3 t 6 true 6 := by kernel_rfl
theorem cq7_0 (n t : Int) : tabF (X3 n t 7 false) 0 8 = tabG (R3 t 7 false) 0 8 := by kernel_rfl
theorem eq7 (n t : Int) : X3 n t 7 true 7 = R3 t 7 true 7 := by kernel_rfl
theorem cq8_0 (n t : Int) : tabF (X3 n t 8 false) 0 9 = tabG (R3 t 8 false) 0 9 := by kernel_rfl
theorem eq8 (n t : Int) : X3 n t 8 true 8 = R3 t 8 true 8 := by kernel_rfl
theorem cq9_0 (n t : Int) : tabF (X3 n t 9 false) 0 10 = tabG (R3 t 9 false) 0 10 := by kernel_rfl
theorem eq9 (n t : Int) : X3 n t 9 true 9 = R3 t 9 true 9 := by kernel_rfl
theorem cq10_0 (n t : Int) : tabF (X3 n t 10 false) 0 11 = tabG (R3 t 10 false) 0 11 := by kernel_rfl
theorem eq10 (n t : Int) : X3 n t 10 true 10 = R3 t 10 true 10 := by kernel_rfl
theorem cq11_0 (n t : Int) : tabF (X3 n t 11 false) 0 12 = tabG (R3 t 11 false) 0 12 := by kernel_rfl
theorem eq11 (n t : Int) : X3 n t 11 true 11 = R3 t 11 true 11 := by kernel_rfl
theorem cq12_0 (n t : Int) : tabF (X3 n t 12 false) 0 13 = tabG (R3 t 12 false) 0 13 := by kernel_rfl
theorem eq12 (n t : Int) : X3 n t 12 true 12 = R3 t 12 true 12 := by kernel_rfl
theorem cq13_0 (n t : Int) : tabF (X3 n t 13 false) 0 14 = tabG (R3 t 13 false) 0 14 := by kernel_rfl
theorem eq13 (n t : Int) : X3 n t 13 true 13 = R3 t 13 true 13 := by kernel_rfl
theorem cq14_0 (n t : Int) : tabF (X3 n t 14 false) 0 12 = tabG (R3 t 14 false) 0 12 := by kernel_rfl
theorem cq14_1 (n t : Int) : tabF (X3 n t 14 false) 12 3 = tabG (R3 t 14 false) 12 3 := by kernel_rfl
theorem eq14 (n t : Int) : X3 n t 14 true 14 = R3 t 14 true 14 := by kernel_rfl
theorem cq15_0 (n t : Int) : tabF (X3 n t 15 false) 0 12 = tabG (R3 t 15 false) 0 12 := by kernel_rfl
theorem cq15_1 (n t : Int) : tabF (X3 n t 15 false) 12 4 = tabG (R3 t 15 false) 12 4 := by kernel_rfl
theorem eq15 (n t : Int) : X3 n t 15 true 15 = R3 t 15 true 15 := by kernel_rfl
theorem cq16_0 (n t : Int) : tabF (X3 n t 16 false) 0 13 = tabG (R3 t 16 false) 0 13 := by kernel_rfl
theorem cq16_1 (n t : Int) : tabF (X3 n t 16 false) 13 4 = tabG (R3 t 16 false) 13 4 := by kernel_rfl
theorem eq16 (n t : Int) : X3 n t 16 true 16 = R3 t 16 true 16 := by kernel_rfl
theorem cq17_0 (n t : Int) : tabF (X3 n t 17 false) 0 13 = tabG (R3 t 17 false) 0 13 := by kernel_rfl
theorem cq17_1 (n t : Int) : tabF (X3 n t 17 false) 13 5 = tabG (R3 t 17 false) 13 5 := by kernel_rfl
theorem eq17 (n t : Int) : X3 n t 17 true 17 = R3 t 17 true 17 := by kernel_rfl
theorem cq18_0 (n t : Int) : tabF (X3 n t 18 false) 0 14 = tabG (R3 t 18 false) 0 14 := by kernel_rfl
theorem cq18_1 (n t : Int) : tabF (X3 n t 18 false) 14 5 = tabG (R3 t 18 false) 14 5 := by kernel_rfl
theorem eq18 (n t : Int) : X3 n t 18 true 18 = R3 t 18 true 18 := by kernel_rfl
theorem cq19_0 (n t : Int) : tabF (X3 n t 19 false) 0 14 = tabG (R3 t 19 false) 0 14 := by kernel_rfl
theorem cq19_1 (n t : Int) : tabF (X3 n t 19 false) 14 6 = tabG (R3 t 19 false) 14 6 := by kernel_rfl
theorem eq19 (n t : Int) : X3 n t 19 true 19 = R3 t 19 true 19 := by kernel_rfl
theorem cq20_0 (n t : Int) : tabF (X3 n t 20 false) 0 15 = tabG (R3 t 20 false) 0 15 := by kernel_rfl
theorem cq20_1 (n t : Int) : tabF (X3 n t 20 false) 15 6 = tabG (R3 t 20 false) 15 6 := by kernel_rfl
theorem eq20 (n t : Int) : X3 n t 20 true 20 = R3 t 20 true 20 := by kernel_rfl
theorem cq21_0 (n t : Int) : tabF (X3 n t 21 false) 0 15 = tabG (R3 t 21 false) 0 15 := by kernel_rfl
theorem cq21_1 (n t : Int) : tabF (X3 n t 21 false) 15 7 = tabG (R3 t 21 false) 15 7 := by kernel_rfl
theorem eq21 (n t : Int) : X3 n t 21 true 21 = R3 t 21 true 21 := by kernel_rfl
end
end Go.Proofs.YtikedhemjoljpaaGreatDoor
