/-
  What the functions compute, in plain words; small laws for equations. No condition.
-/
import Derived.Test.YtnblkjapeiaedaaGreatDoorEng11
import Derived.Shelf.Strconv.AtoiAll
namespace Nice
open Go Go.Eng
def lo (c : UInt8) : UInt8 := if 65 ≤ c ∧ c ≤ 90 then c + 32 else c
def isDig (c : UInt8) : Bool := decide (48 ≤ c ∧ c ≤ 57)
def allDig (s : List UInt8) : Bool := s.all isDig
def numV (s : List UInt8) : Nat := s.foldl (fun n c => n * 10 + (c.toNat - 48)) 0
def cut (s : List UInt8) (n : Int) : List UInt8 := s.take n.toNat

/-! ### for equations -/
theorem cdT {α : Type} {p : Prop} [Decidable p] {a b : α} (h : p) : (bif decide p then a else b) = a := by simp [h]
theorem cdF {α : Type} {p : Prop} [Decidable p] {a b : α} (h : ¬ p) : (bif decide p then a else b) = b := by simp [h]
theorem gd_nil {α : Type} {r : Option α} : gd [] r = r := rfl
theorem gdT {α : Type} {p : Prop} [Decidable p] {l : List Bool} {r : Option α} (h : p) : gd (decide p :: l) r = gd l r := by simp [gd, h]
theorem gdB {α : Type} {b : Bool} {l : List Bool} {r : Option α} (h : b = true) : gd (b :: l) r = gd l r := by simp [gd, h]
theorem inK_i64 {n : Int} : inK .i64 n ↔ -9223372036854775808 ≤ n ∧ n ≤ 9223372036854775807 := Iff.rfl
theorem inK_u8 {n : Int} : inK .u8 n ↔ 0 ≤ n ∧ n ≤ 255 := Iff.rfl
theorem wrap_u8 {n : Int} : IntKind.u8.wrap n = n % 256 := rfl
theorem getD_mid {α : Type} (a b : List α) (x d : α) : (a ++ x :: b).getD a.length d = x := by simp
theorem set_mid {α : Type} (a b : List α) (x y : α) : (a ++ x :: b).set a.length y = a ++ y :: b := by simp
theorem le8 {a c : UInt8} : a ≤ c ↔ a.toNat ≤ c.toNat := UInt8.le_iff_toNat_le
theorem isDig_iff {c : UInt8} : isDig c = true ↔ 48 ≤ c.toNat ∧ c.toNat ≤ 57 := by
  unfold isDig
  rw [decide_eq_true_iff, le8, le8]; rfl
/-! ### contracts -/
noncomputable def trueS : PSpec := ⟨[], [.bool], fun _ => true, fun _ => (true, ())⟩
noncomputable def cutS : PSpec := ⟨[.str, .int .i64], [.str], fun x => decide (0 ≤ x.2.1), fun x => (cut x.1 x.2.1, ())⟩
end Nice
