/-
  Small laws for equations, closed begun, cut: contracts. No condition.
-/
import Derived.Test.YtnblkjapeiaedaaGreatDoorSym
import Derived.Test.YtnblkjapeiaedaaGreatDoorNiceK
import Derived.Test.YtnblkjapeiaedaaGreatDoorEng11
import Derived.Test.YtnblkjapeiaedaaGreatDoorBegD
namespace Nice
open Go Go.Eng
theorem xT {α : Type} (a b : α) : (bif true then a else b) = a := Eq.trans (cond_true a b) rfl
theorem xF {α : Type} (a b : α) : (bif false then a else b) = b := Eq.trans (cond_false a b) rfl
theorem xG {α : Type} (r : Option α) : gd [] r = r := Eq.trans gd_nil rfl
abbrev BO := Option (DenL [.bool])
def bO (b : Bool) : Option (DenL [.bool]) := some (b, ())
theorem cut_le (s : List UInt8) (k : Nat) : (cut s (k : Int)).length ≤ k := by
  unfold cut; rw [List.length_take]; exact Nat.min_le_left _ _
end Nice
namespace Go.Proofs.YtnblkjapeiaedaaGreatDoor
open Go Go.Eng Nice Go.RowKit
set_option maxRecDepth 1000000
noncomputable def ocut (x : DenL [.str, .int .i64]) : Option (DenL [.str]) := fO Tryz.prog (envS []) (shOf []) Tryz.f15 [.str, .int .i64] [.str] x
theorem ecut_g (N : Nat) (s : List UInt8) (n : Int) : fON Tryz.prog (envS []) (shOf []) Tryz.f15 [.str, .int .i64] [.str] N (s, n, ()) =
  (gd [decide ((0 : Int) ≤ min (s.length : Int) n), decide (min (s.length : Int) n ≤ (s.length : Int))] (some (List.take (min (s.length : Int) n).toNat s, ()))) := by kernel_rfl
theorem ocut_g (x : DenL [.str, .int .i64]) : ocut x = fON Tryz.prog (envS []) (shOf []) Tryz.f15 [.str, .int .i64] [.str] heads0 x := rfl
theorem cut_n (s : List UInt8) (n : Int) (h : 0 ≤ n) : ocut (s, n, ()) = some (cut s n, ()) := by
  rw [ocut_g, ecut_g]
  rw [gdT (by omega), gdT (Int.min_le_left _ _), gd_nil]
  have : List.take (min (s.length : Int) n).toNat s = cut s n := by
    unfold cut
    by_cases hn : n ≤ s.length
    · rw [Int.min_eq_right hn]
    · rw [Int.min_eq_left (by omega), List.take_of_length_le (by simp), List.take_of_length_le (by omega)]
  rw [this]
theorem cut_c : PC 15 cutS := (pureO (envS_ok (l := []) trivial) gl_ne Tryz.func15 (by kernel_rfl) (by decide)).nice fun ⟨s, n, ()⟩ h => cut_n s n (of_decide_eq_true h)
theorem begun_c : PC 13 trueS := pure_true begun17_run
end Go.Proofs.YtnblkjapeiaedaaGreatDoor
