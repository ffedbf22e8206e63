/-
  armariumlaw22.CalmQuiet: a word that comes, whatever words are on their way. No condition.
-/
import Derived.Test.YtikedhemjoljpaaGreatDoorLawCQ0
namespace Go.Proofs.YtikedhemjoljpaaGreatDoor
noncomputable section
open Go Go.Eng
set_option maxRecDepth 1000000
theorem send_k1 : allB (fun j => chk smS [getE j, mayE j] (sendE 1 j)) 0 1 = true := by kernel_rfl
theorem send_k2 : allB (fun j => chk smS [getE j, mayE j] (sendE 2 j)) 0 2 = true := by kernel_rfl
theorem send_k3 : allB (fun j => chk smS [getE j, mayE j] (sendE 3 j)) 0 3 = true := by kernel_rfl
theorem send_k4 : allB (fun j => chk smS [getE j, mayE j] (sendE 4 j)) 0 4 = true := by kernel_rfl
theorem send_k5 : allB (fun j => chk smS [getE j, mayE j] (sendE 5 j)) 0 5 = true := by kernel_rfl
theorem send_k6 : allB (fun j => chk smS [getE j, mayE j] (sendE 6 j)) 0 6 = true := by kernel_rfl
theorem send_k7 : allB (fun j => chk smS [getE j, mayE j] (sendE 7 j)) 0 7 = true := by kernel_rfl
theorem send_k8 : allB (fun j => chk smS [getE j, mayE j] (sendE 8 j)) 0 8 = true := by kernel_rfl
theorem send_k9 : allB (fun j => chk smS [getE j, mayE j] (sendE 9 j)) 0 9 = true := by kernel_rfl
theorem send_k10 : allB (fun j => chk smS [getE j, mayE j] (sendE 10 j)) 0 10 = true := by kernel_rfl
theorem send_k11 : allB (fun j => chk smS [getE j, mayE j] (sendE 11 j)) 0 11 = true := by kernel_rfl
theorem send_k12 : allB (fun j => chk smS [getE j, mayE j] (sendE 12 j)) 0 12 = true := by kernel_rfl
theorem send_k13 : allB (fun j => chk smS [getE j, mayE j] (sendE 13 j)) 0 13 = true := by kernel_rfl
theorem send_k14 : allB (fun j => chk smS [getE j, mayE j] (sendE 14 j)) 0 14 = true := by kernel_rfl
theorem send_k15 : allB (fun j => chk smS [getE j, mayE j] (sendE 15 j)) 0 15 = true := by kernel_rfl
theorem send_k16 : allB (fun j => chk smS [getE j, mayE j] (sendE 16 j)) 0 16 = true := by kernel_rfl
theorem send_k17 : allB (fun j => chk smS [getE j, mayE j] (sendE 17 j)) 0 17 = true := by kernel_rfl
theorem send_k18 : allB (fun j => chk smS [getE j, mayE j] (sendE 18 j)) 0 18 = true := by kernel_rfl
theorem send_k19 : allB (fun j => chk smS [getE j, mayE j] (sendE 19 j)) 0 19 = true := by kernel_rfl
theorem send_k20 : allB (fun j => chk smS [getE j, mayE j] (sendE 20 j)) 0 20 = true := by kernel_rfl
theorem send_k21 : allB (fun j => chk smS [getE j, mayE j] (sendE 21 j)) 0 21 = true := by kernel_rfl
theorem send_k22 : allB (fun j => chk smS [getE j, mayE j] (sendE 22 j)) 0 22 = true := by kernel_rfl
theorem send_k23 : allB (fun j => chk smS [getE j, mayE j] (sendE 23 j)) 0 23 = true := by kernel_rfl
theorem send_k24 : allB (fun j => chk smS [getE j, mayE j] (sendE 24 j)) 0 24 = true := by kernel_rfl
theorem send_k25 : allB (fun j => chk smS [getE j, mayE j] (sendE 25 j)) 0 25 = true := by kernel_rfl
theorem send_k26 : allB (fun j => chk smS [getE j, mayE j] (sendE 26 j)) 0 26 = true := by kernel_rfl
theorem send_k27 : allB (fun j => chk smS [getE j, mayE j] (sendE 27 j)) 0 27 = true := by kernel_rfl
theorem send_k28 : allB (fun j => chk smS [getE j, mayE j] (sendE 28 j)) 0 28 = true := by kernel_rfl
theorem send_k29 : allB (fun j => chk smS [getE j, mayE j] (sendE 29 j)) 0 29 = true := by kernel_rfl
end
end Go.Proofs.YtikedhemjoljpaaGreatDoor
