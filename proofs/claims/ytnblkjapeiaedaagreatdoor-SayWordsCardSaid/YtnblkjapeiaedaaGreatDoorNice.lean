/-
  What the functions compute, in plain words; small laws for equations. No condition.
-/
import Derived.Test.YtnblkjapeiaedaaGreatDoorEng11
import Derived.Shelf.Strconv.AtoiAll
namespace Nice
open Go Go.Eng
def lo (c : UInt8) : UInt8 := if 65 ≤ c ∧ c ≤ 90 then c + 32 else c
def cut (s : List UInt8) (n : Int) : List UInt8 := s.take n.toNat

/-! ### for equations -/
theorem gd_nil {α : Type} {r : Option α} : gd [] r = r := rfl
theorem gdT {α : Type} {p : Prop} [Decidable p] {l : List Bool} {r : Option α} (h : p) : gd (decide p :: l) r = gd l r := by simp [gd, h]
theorem gdB {α : Type} {b : Bool} {l : List Bool} {r : Option α} (h : b = true) : gd (b :: l) r = gd l r := by simp [gd, h]
theorem inK_i64 {n : Int} : inK .i64 n ↔ -9223372036854775808 ≤ n ∧ n ≤ 9223372036854775807 := Iff.rfl
/-! ### contracts -/
abbrev HeadT : Ty := .pair .str (.pair .str .unit)
noncomputable def trueS : PSpec := ⟨[], [.bool], fun _ => true, fun _ => (true, ())⟩
end Nice
