/-
  armariumlaw22.CalmQuiet: words are written and read. No condition.
-/
import Derived.Test.YtikedhemjoljpaaGreatDoorLawCQ0
namespace Go.Proofs.YtikedhemjoljpaaGreatDoor
noncomputable section
open Go Go.Eng
set_option maxRecDepth 1000000
theorem qmay_k : allB (fun i => chk smS [Me13] (mayE i)) 0 29 = true := by kernel_rfl
theorem qmay_c (i : Nat) (h : i < 29) : EO (mayE i) := eo (l := [Me13]) smS_ok ⟨Me13_c, trivial⟩ (allB_ok qmay_k i (by omega) (by omega))
theorem qput_k0 : allB (fun i => chk smS (mayE i :: cP) (putE i)) 0 6 = true := by kernel_rfl
theorem qput_k1 : allB (fun i => chk smS (mayE i :: cP) (putE i)) 6 6 = true := by kernel_rfl
theorem qput_k2 : allB (fun i => chk smS (mayE i :: cP) (putE i)) 12 6 = true := by kernel_rfl
theorem qput_k3 : allB (fun i => chk smS (mayE i :: cP) (putE i)) 18 6 = true := by kernel_rfl
theorem qput_k4 : allB (fun i => chk smS (mayE i :: cP) (putE i)) 24 5 = true := by kernel_rfl
theorem qput_c (i : Nat) (h : i < 29) : EO (putE i) := by
  by_cases h0 : i < 6
  · exact eo smS_ok (l := mayE i :: cP) ⟨qmay_c i h, cP_c⟩ (allB_ok qput_k0 i (by omega) (by omega))
  by_cases h1 : i < 12
  · exact eo smS_ok (l := mayE i :: cP) ⟨qmay_c i h, cP_c⟩ (allB_ok qput_k1 i (by omega) (by omega))
  by_cases h2 : i < 18
  · exact eo smS_ok (l := mayE i :: cP) ⟨qmay_c i h, cP_c⟩ (allB_ok qput_k2 i (by omega) (by omega))
  by_cases h3 : i < 24
  · exact eo smS_ok (l := mayE i :: cP) ⟨qmay_c i h, cP_c⟩ (allB_ok qput_k3 i (by omega) (by omega))
  exact eo smS_ok (l := mayE i :: cP) ⟨qmay_c i h, cP_c⟩ (allB_ok qput_k4 i (by omega) (by omega))
theorem qget_k0 : allB (fun i => chk smS (putE i :: cG) (getE i)) 0 5 = true := by kernel_rfl
theorem qget_k1 : allB (fun i => chk smS (putE i :: cG) (getE i)) 5 5 = true := by kernel_rfl
theorem qget_k2 : allB (fun i => chk smS (putE i :: cG) (getE i)) 10 5 = true := by kernel_rfl
theorem qget_k3 : allB (fun i => chk smS (putE i :: cG) (getE i)) 15 5 = true := by kernel_rfl
theorem qget_k4 : allB (fun i => chk smS (putE i :: cG) (getE i)) 20 5 = true := by kernel_rfl
theorem qget_k5 : allB (fun i => chk smS (putE i :: cG) (getE i)) 25 4 = true := by kernel_rfl
theorem qget_c (i : Nat) (h : i < 29) : EO (getE i) := by
  by_cases h0 : i < 5
  · exact eo smS_ok (l := putE i :: cG) ⟨qput_c i h, cG_c⟩ (allB_ok qget_k0 i (by omega) (by omega))
  by_cases h1 : i < 10
  · exact eo smS_ok (l := putE i :: cG) ⟨qput_c i h, cG_c⟩ (allB_ok qget_k1 i (by omega) (by omega))
  by_cases h2 : i < 15
  · exact eo smS_ok (l := putE i :: cG) ⟨qput_c i h, cG_c⟩ (allB_ok qget_k2 i (by omega) (by omega))
  by_cases h3 : i < 20
  · exact eo smS_ok (l := putE i :: cG) ⟨qput_c i h, cG_c⟩ (allB_ok qget_k3 i (by omega) (by omega))
  by_cases h4 : i < 25
  · exact eo smS_ok (l := putE i :: cG) ⟨qput_c i h, cG_c⟩ (allB_ok qget_k4 i (by omega) (by omega))
  exact eo smS_ok (l := putE i :: cG) ⟨qput_c i h, cG_c⟩ (allB_ok qget_k5 i (by omega) (by omega))
end
end Go.Proofs.YtikedhemjoljpaaGreatDoor
