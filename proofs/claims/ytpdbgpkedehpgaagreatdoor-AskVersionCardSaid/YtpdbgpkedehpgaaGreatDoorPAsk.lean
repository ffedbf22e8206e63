/-
  The plain law of versions' numbers. No program in sight. No condition.
-/
import Derived.Test.YtpdbgpkedehpgaaGreatDoorNiceK
import Derived.Lib.ParseIntBCases
namespace Nice
open Go Go.Eng
def valF (a : Nat) (s : List UInt8) : Nat := s.foldl (fun n c => n * 10 + (c.toNat - 48)) a
theorem valF_ge : ∀ (s : List UInt8) (a : Nat), a ≤ valF a s
  | [], a => Nat.le_refl _
  | c :: r, a => by
    have := valF_ge r (a * 10 + (c.toNat - 48))
    show a ≤ valF (a * 10 + (c.toNat - 48)) r
    omega
theorem parse_dig64 : ∀ (s : List UInt8) (a : Nat), allDig s = true → a ≤ 18446744073709551615 →
    (valF a s ≤ 18446744073709551615 → Lib.parseUintM 18446744073709551615 a s = .ok (valF a s)) ∧ (18446744073709551615 < valF a s → Lib.parseUintM 18446744073709551615 a s = .range)
  | [], a, _, ha => ⟨fun _ => rfl, fun h => by simp only [valF, List.foldl_nil] at h; omega⟩
  | c :: r, a, h, ha => by
    simp only [allDig, List.all_cons, Bool.and_eq_true] at h
    have hd := isDig_iff.1 h.1
    have hv : valF a (c :: r) = valF (a * 10 + (c.toNat - 48)) r := rfl
    have hg := valF_ge r (a * 10 + (c.toNat - 48))
    rw [hv]
    simp only [Lib.parseUintM, if_pos hd]
    by_cases h1 : 1844674407370955162 ≤ a
    · rw [if_pos h1]
      exact ⟨fun h => by omega, fun _ => rfl⟩
    · rw [if_neg h1]
      by_cases h2 : 18446744073709551615 < a * 10 + (c.toNat - 48)
      · rw [if_pos h2]
        exact ⟨fun h => by omega, fun _ => rfl⟩
      · rw [if_neg h2]
        exact parse_dig64 r _ h.2 (by omega)
theorem intN_dig {s : List UInt8} (h : allDig s = true) (h1 : s ≠ []) : (numV s < 9223372036854775808 → intN s = ((numV s : Int), true)) ∧ (9223372036854775808 ≤ numV s → (intN s).2 = false) := by
  cases s with
  | nil => exact absurd rfl h1
  | cons c r =>
    have hd : 48 ≤ c.toNat ∧ c.toNat ≤ 57 := by
      simp only [allDig, List.all_cons, Bool.and_eq_true] at h
      exact isDig_iff.1 h.1
    obtain ⟨p1, p2⟩ := parse_dig64 (c :: r) 0 h (by omega)
    have hv : valF 0 (c :: r) = numV (c :: r) := rfl
    rw [hv] at p1 p2
    have e43 : ¬ (c.toNat = 43 ∨ c.toNat = 45) := by omega
    have eB : Lib.parseUintB 64 (c :: r) = Lib.parseUintM 18446744073709551615 0 (c :: r) := by
      unfold Lib.parseUintB; rw [if_neg (by simp)]
    have e45 : ¬ c.toNat = 45 := by omega
    by_cases hr : numV (c :: r) ≤ 18446744073709551615
    · have e : Lib.parseIntB 64 (c :: r) = if 9223372036854775808 ≤ numV (c :: r) then .range else .ok (numV (c :: r) : Int) := by
        rw [Lib.parseIntB_plain 64 c r (by omega) (by omega), eB, p1 hr]
        rfl
      constructor
      · intro hlt
        unfold intN
        rw [e, if_neg (by omega)]
      · intro hge
        unfold intN
        rw [e, if_pos hge]
    · have e : Lib.parseIntB 64 (c :: r) = .range := by
        rw [Lib.parseIntB_plain 64 c r (by omega) (by omega), eB, p2 (by omega)]
        rfl
      constructor
      · intro hlt; omega
      · intro _; unfold intN; rw [e]
theorem numV_lt' (s : List UInt8) (h : allDig s = true) : ∀ a, valF a s < (a + 1) * 10 ^ s.length := by
  induction s with
  | nil => intro a; simp [valF]
  | cons c s ih =>
    intro a
    simp only [allDig, List.all_cons, Bool.and_eq_true] at h
    have hd := isDig_iff.1 h.1
    have := ih h.2 (a * 10 + (c.toNat - 48))
    refine Nat.lt_of_lt_of_le (show valF a (c :: s) < _ from this) ?_
    rw [List.length_cons, Nat.pow_succ, Nat.mul_comm (10 ^ s.length) 10, ← Nat.mul_assoc]
    exact Nat.mul_le_mul_right _ (by omega)
theorem valF_lo (s : List UInt8) : ∀ a, a * 10 ^ s.length ≤ valF a s := by
  induction s with
  | nil => intro a; simp [valF]
  | cons c s ih =>
    intro a
    have := ih (a * 10 + (c.toNat - 48))
    refine Nat.le_trans ?_ (show _ ≤ valF a (c :: s) from this)
    rw [List.length_cons, Nat.pow_succ, Nat.mul_comm (10 ^ s.length) 10, ← Nat.mul_assoc]
    exact Nat.mul_le_mul_right _ (by omega)
/-- thirteen digits are as many as a version's number has -/
theorem long_num {s : List UInt8} (h : allDig s = true) (h0 : s.getD 0 0 ≠ 48) (hl : 14 ≤ s.length) : 10000000000000 ≤ numV s := by
  cases s with
  | nil => simp at hl
  | cons c r =>
    simp only [allDig, List.all_cons, Bool.and_eq_true] at h
    have hd := isDig_iff.1 h.1
    have h0 : c ≠ 48 := h0
    have hc : c.toNat ≠ 48 := fun e => h0 (UInt8.toNat.inj e)
    have := valF_lo r (c.toNat - 48)
    have hp : (10 : Nat) ^ 13 ≤ 10 ^ r.length := Nat.pow_le_pow_right (by decide) (by simp at hl; omega)
    have e : numV (c :: r) = valF (c.toNat - 48) r := by
      show valF 0 (c :: r) = _
      show valF (0 * 10 + (c.toNat - 48)) r = _
      rw [Nat.zero_mul, Nat.zero_add]
    rw [e]
    have h1 : 1 * 10 ^ r.length ≤ (c.toNat - 48) * 10 ^ r.length := Nat.mul_le_mul_right _ (by omega)
    omega
/-- a version's number: told by the program, told by the document -/
theorem ver_eq (s : List UInt8) (h0 : s.getD 0 0 ≠ 48) :
    ((numN s s.length 1 1099511627776).2 = ((refNum s 13).2 && (!decide ((refNum s 13).1 < 1) && !decide ((refNum s 13).1 > 1099511627776)))) ∧ ((numN s s.length 1 1099511627776).2 = true → (numN s s.length 1 1099511627776).1 = (refNum s 13).1) := by
  unfold numN refNum
  cases hd : allDig s
  · simp
  by_cases hs : s = []
  · subst hs; simp [intN, Lib.parseIntB]
  have hl1 : 1 ≤ s.length := List.length_pos_iff.2 hs
  obtain ⟨i1, i2⟩ := intN_dig hd hs
  by_cases hl : s.length ≤ 13
  · have hlt := numV_lt' s hd 0
    have hp : (10 : Nat) ^ s.length ≤ 10 ^ 13 := Nat.pow_le_pow_right (by decide) hl
    have hv : valF 0 s = numV s := rfl
    have hn : numV s < 9223372036854775808 := by omega
    rw [i1 hn]
    simp only [Bool.true_and, decide_eq_true (show (s.length : Int) ≤ 13 by omega), cond_true, decide_eq_true hl1, decide_eq_true (Int.le_refl (s.length : Int))]
    refine ⟨?_, fun _ => trivial⟩
    by_cases a1 : (numV s : Int) ≥ 1
    · by_cases a2 : (numV s : Int) ≤ 1099511627776
      · rw [decide_eq_true a1, decide_eq_true a2, decide_eq_false (by omega), decide_eq_false (by omega)]; rfl
      · rw [decide_eq_true a1, decide_eq_false a2, decide_eq_false (by omega), decide_eq_true (by omega)]; rfl
    · rw [decide_eq_false a1, decide_eq_true (show (numV s : Int) < 1 by omega)]; rfl
  · have hlong := long_num hd h0 (by omega)
    simp only [Bool.true_and, decide_eq_false (show ¬ (s.length : Int) ≤ 13 by omega), cond_false, Bool.false_and, decide_eq_true (Int.le_refl (s.length : Int))]
    have key : ((intN s).2 && (decide ((intN s).1 ≥ 1) && decide ((intN s).1 ≤ 1099511627776))) = false := by
      by_cases hn : numV s < 9223372036854775808
      · rw [i1 hn, decide_eq_false (show ¬ (numV s : Int) ≤ 1099511627776 by omega), Bool.and_false, Bool.and_false]
      · rw [i2 (by omega)]; rfl
    rw [key]
    exact ⟨rfl, fun h => by cases h⟩
end Nice
