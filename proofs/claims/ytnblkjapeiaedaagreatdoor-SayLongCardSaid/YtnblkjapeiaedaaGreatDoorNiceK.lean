/-
  What the functions of asks compute, in plain words. No condition.
-/
import Derived.Test.YtnblkjapeiaedaaGreatDoorNice
import Derived.Shelf.GgClosure.StringsIndexFuncTop
import Derived.Shelf.Strconv.ParseIntPublic10
namespace Nice
open Go Go.Eng
def bndS (s : List UInt8) : Bool := decide (s.length ≤ 140737488355328)
def notDig (r : Nat) : Bool := decide (r < 48) || decide (57 < r)
def hasPre (s p : List UInt8) : Bool := decide (p.length ≤ s.length) && s.take p.length == p
def hasSuf (s p : List UInt8) : Bool := decide (p.length ≤ s.length) && s.drop (s.length - p.length) == p
def digsF : Nat → Nat → List UInt8 → List UInt8
  | 0, _, acc => acc
  | f + 1, n, acc => if n / 10 = 0 then UInt8.ofNat (48 + n % 10) :: acc else digsF f (n / 10) (UInt8.ofNat (48 + n % 10) :: acc)
def digs (u : Int) : List UInt8 := digsF 20 u.toNat []
def digits (n : Int) : List UInt8 := if n < 0 then 45 :: digs (-n) else digs n
theorem decode_ascii {s : ByteArray} {i : Nat} (h : (s.get! i).toNat < 128) : Utf8.decode s i = ((s.get! i).toNat, 1) := by
  unfold Utf8.decode
  simp only [Nat.add_zero]
  rw [if_pos (show (s.get! i).toNat < 0x80 from h)]
theorem decode_high {s : ByteArray} {i : Nat} (h : 128 ≤ (s.get! i).toNat) : 57 < (Utf8.decode s i).1 := by
  unfold Utf8.decode
  simp only [Nat.add_zero]
  rw [if_neg (show ¬ (s.get! i).toNat < 0x80 by omega)]
  have hr : 57 < Utf8.runeError := by decide
  have hge : ∀ (c : Nat) (b : Bool) (k : Nat), c ≥ k → 57 < k → 57 < c := fun c b k h1 h2 => by omega
  repeat' split
  all_goals first
    | exact hr
    | (rename_i h1; simp only [Bool.and_eq_true, decide_eq_true_eq] at h1; omega)
    | (rename_i h1; have h1 := of_decide_eq_true h1; omega)
    | (rename_i h1; omega)
theorem idx_l (s : ByteArray) : ∀ (f pos : Nat), s.size - pos ≤ f → decide (Lib.idxFuncFrom notDig true s f pos ≥ 0) = !((s.data.toList.drop pos).all isDig)
  | 0, pos, h => by
    have : s.data.toList.drop pos = [] := List.drop_eq_nil_of_le (by show s.data.toList.length ≤ pos; have : s.data.toList.length = s.size := rfl; omega)
    rw [this]; simp [Lib.idxFuncFrom]
  | f + 1, pos, h => by
    unfold Lib.idxFuncFrom
    by_cases hp : pos < s.size
    · rw [if_pos hp]
      have hp' : pos < s.data.toList.length := hp
      have hd : s.data.toList.drop pos = s.get! pos :: s.data.toList.drop (pos + 1) := by
        rw [List.drop_eq_getElem_cons hp']
        congr 1
        show _ = s.data[pos]!
        rw [getElem!_pos s.data pos hp]
        rfl
      rw [hd]
      simp only [List.all_cons]
      by_cases ha : (s.get! pos).toNat < 128
      · rw [decode_ascii ha]
        by_cases hdg : 48 ≤ (s.get! pos).toNat ∧ (s.get! pos).toNat ≤ 57
        · rw [if_neg (by simp only [notDig, Bool.or_eq_true, decide_eq_true_eq]; omega), isDig_iff.2 hdg, Bool.true_and]
          exact idx_l s f (pos + 1) (by omega)
        · have : isDig (s.get! pos) = false := by cases hb : isDig (s.get! pos); rfl; exact absurd (isDig_iff.1 hb) hdg
          rw [if_pos (by simp only [notDig, Bool.or_eq_true, decide_eq_true_eq]; omega), this]
          simp
      · have := decode_high (s := s) (i := pos) (by omega)
        have hd : isDig (s.get! pos) = false := by cases hb : isDig (s.get! pos); rfl; have := isDig_iff.1 hb; omega
        rw [if_pos (by simp only [notDig, Bool.or_eq_true, decide_eq_true_eq]; omega), hd]
        simp
    · rw [if_neg hp]
      have : s.data.toList.drop pos = [] := List.drop_eq_nil_of_le (by have : s.data.toList.length = s.size := rfl; omega)
      rw [this]; rfl
/-! ### contracts -/
noncomputable def hasPreS : PSpec := ⟨[.str, .str], [.bool], fun _ => true, fun x => (hasPre x.1 x.2.1, ())⟩
noncomputable def digsS : PSpec := ⟨[.int .u64], [.str], fun x => decide (0 ≤ x.1) && decide (x.1 < 18446744073709551616), fun x => (digs x.1, ())⟩
noncomputable def digitsS : PSpec := ⟨[.int .i64], [.str], fun x => decide (-9223372036854775808 ≤ x.1) && decide (x.1 ≤ 9223372036854775807), fun x => (digits x.1, ())⟩
/-! ### paths: no query, no heads, no body -/
end Nice
