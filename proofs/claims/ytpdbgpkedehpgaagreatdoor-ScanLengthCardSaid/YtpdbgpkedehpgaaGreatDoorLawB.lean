/-
  armariumlaw15.begun: what serves every law of a scan. No condition.
-/
import Derived.Test.YtpdbgpkedehpgaaGreatDoorM3
import Derived.Test.YtpdbgpkedehpgaaGreatDoorEng11
import Derived.Test.YtpdbgpkedehpgaaGreatDoorBegC
namespace Go.Proofs.YtpdbgpkedehpgaaGreatDoor
open Go Go.Eng Nice
set_option maxRecDepth 1000000
theorem cut_len (s : List UInt8) (n : Int) : (cut s n).length ≤ n.toNat := by
  unfold cut; rw [List.length_take]; omega
theorem smP_ok {s : List UInt8} {cs : List Int} (h1 : s.length ≤ 1000000) (h2 : cs.length ≤ 140737488355328) : smP s cs = true := by
  unfold smP
  rw [decide_eq_true h1, decide_eq_true h2]; rfl
theorem reach_le : reach ≤ 140737488355328 := by decide
theorem five (a : Int) : ∃ j : Nat, (a.tmod 5 + 5).tmod 5 = (j : Int) ∧ j ≤ 4 ∧ -5 < a.tmod 5 ∧ a.tmod 5 < 5 := by
  have h1 := Int.tmod_lt_of_pos a (show (0 : Int) < 5 by decide)
  have h2 := Int.lt_tmod_of_pos a (show (0 : Int) < 5 by decide)
  have h3 := Int.tmod_nonneg (a := a.tmod 5 + 5) 5 (by omega)
  have h4 := Int.tmod_lt_of_pos (a.tmod 5 + 5) (show (0 : Int) < 5 by decide)
  exact ⟨((a.tmod 5 + 5).tmod 5).toNat, by omega, by omega, by omega, by omega⟩
theorem begun_c : PC 21 trueS := pure_true begun15_run
end Go.Proofs.YtpdbgpkedehpgaaGreatDoor
