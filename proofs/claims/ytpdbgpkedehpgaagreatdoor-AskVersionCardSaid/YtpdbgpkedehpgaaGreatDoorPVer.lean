/-
  The plain law: the version that is asked is the number that is spelt, from 1 to 2^40. No program in sight. No condition.
-/
import Derived.Test.YtpdbgpkedehpgaaGreatDoorPAsk
namespace Nice
open Go Go.Eng
theorem dig_of {d : Nat} (h : d < 10) : isDig (UInt8.ofNat (48 + d)) = true := by
  have e : (UInt8.ofNat (48 + d)).toNat = 48 + d := by simp; omega
  exact isDig_iff.2 ⟨by omega, by omega⟩
/-- digits of a number: all are digits; they spell it; the first is no nought -/
theorem digsF_ok : ∀ (f n : Nat) (acc : List UInt8), 0 < f → n < 10 ^ f → allDig acc = true →
    allDig (digsF f n acc) = true ∧ (∀ a, valF a (digsF f n acc) = valF (a * 10 ^ ((digsF f n acc).length - acc.length) + n) acc) ∧ acc.length < (digsF f n acc).length ∧ (1 ≤ n → (digsF f n acc).getD 0 0 ≠ 48)
  | 0, n, acc, h, _, _ => absurd h (Nat.lt_irrefl 0)
  | f + 1, n, acc, _, hn, ha => by
    have hd : n % 10 < 10 := Nat.mod_lt _ (by decide)
    have e : (UInt8.ofNat (48 + n % 10)).toNat = 48 + n % 10 := by simp; omega
    have ha' : allDig (UInt8.ofNat (48 + n % 10) :: acc) = true := by
      simp only [allDig, List.all_cons, Bool.and_eq_true]
      exact ⟨dig_of hd, ha⟩
    have step : ∀ a, valF a (UInt8.ofNat (48 + n % 10) :: acc) = valF (a * 10 + n % 10) acc := fun a => by
      show valF (a * 10 + ((UInt8.ofNat (48 + n % 10)).toNat - 48)) acc = _
      rw [e]; congr 1; omega
    simp only [digsF]
    by_cases h : n / 10 = 0
    · rw [if_pos h]
      refine ⟨ha', fun a => ?_, by simp, fun h1 hh => ?_⟩
      · rw [step, List.length_cons, Nat.add_sub_cancel_left, Nat.pow_one]
        congr 1; omega
      · have hh : UInt8.ofNat (48 + n % 10) = 48 := hh
        have := congrArg UInt8.toNat hh
        rw [e] at this
        have h48 : (48 : UInt8).toNat = 48 := rfl
        omega
    · rw [if_neg h]
      have hf : 0 < f := by
        rcases Nat.eq_zero_or_pos f with h' | h'
        · subst h'; simp at hn; omega
        · exact h'
      obtain ⟨i1, i2, i3, i4⟩ := digsF_ok f (n / 10) (UInt8.ofNat (48 + n % 10) :: acc) hf (by rw [Nat.pow_succ] at hn; omega) ha'
      simp only [List.length_cons] at i2 i3
      refine ⟨i1, fun a => ?_, by omega, fun _ => i4 (by omega)⟩
      rw [i2, step]
      congr 1
      have e1 : (digsF f (n / 10) (UInt8.ofNat (48 + n % 10) :: acc)).length - acc.length = (digsF f (n / 10) (UInt8.ofNat (48 + n % 10) :: acc)).length - (acc.length + 1) + 1 := by omega
      rw [e1, Nat.pow_succ, ← Nat.mul_assoc, Nat.add_mul]
      omega
theorem digs_ok {n : Nat} (h : n < 18446744073709551616) : allDig (digs n) = true ∧ numV (digs n) = n ∧ 0 < (digs n).length ∧ (1 ≤ n → (digs n).getD 0 0 ≠ 48) := by
  obtain ⟨h1, h2, h3, h4⟩ := digsF_ok 20 n [] (by decide) (by omega) rfl
  have e : digs (n : Int) = digsF 20 n [] := rfl
  rw [e]
  refine ⟨h1, ?_, by simpa using h3, h4⟩
  have := h2 0
  simpa [numV, valF] using this
/-- what is asked by a number that is spelt -/
theorem version_law {n : Int} (h0 : -9223372036854775808 ≤ n) (h1 : n ≤ 9223372036854775807) :
    ((askV (vPre ++ digits n)).2 = 0 ↔ 1 ≤ n ∧ n ≤ 1099511627776) ∧ ((askV (vPre ++ digits n)).2 = 0 → (askV (vPre ++ digits n)).1.2.2.1 = n) := by
  have hk : isKey [107] = true := by decide
  have hq : (vPre ++ digits n == []) = false := by
    have : vPre ++ digits n ≠ [] := by simp [vPre]
    simpa using this
  have hc : cutPre (vPre ++ digits n) vPre = (digits n, true) := by
    unfold cutPre hasPre
    rw [decide_eq_true (by simp), List.take_left, List.drop_left]
    simp
  have key : askV (vPre ++ digits n) = bif (numN (digits n) (digits n).length 1 1099511627776).2 && !((digits n).getD 0 0 == 48) then ((1, [107], (numN (digits n) (digits n).length 1 1099511627776).1, [], 0, [], [], [], 0, false, ()), 0) else (zAsk, 400) := by
    unfold askV keyedN
    simp only [hk, cond_true, hq, cond_false, hc, Bool.true_and]
    rfl
  rw [key]
  have bad : ∀ (b : Bool), b = false → ¬ (1 ≤ n ∧ n ≤ 1099511627776) → ((bif b then (((1, [107], (numN (digits n) (digits n).length 1 1099511627776).1, [], 0, [], [], [], 0, false, ()) : Int × List UInt8 × Int × List UInt8 × Int × List UInt8 × List UInt8 × List UInt8 × Int × Bool × Unit), (0 : Int)) else (zAsk, 400)).2 = 0 ↔ 1 ≤ n ∧ n ≤ 1099511627776) ∧
      ((bif b then (((1, [107], (numN (digits n) (digits n).length 1 1099511627776).1, [], 0, [], [], [], 0, false, ()) : Int × List UInt8 × Int × List UInt8 × Int × List UInt8 × List UInt8 × List UInt8 × Int × Bool × Unit), (0 : Int)) else (zAsk, 400)).2 = 0 → (bif b then (((1, [107], (numN (digits n) (digits n).length 1 1099511627776).1, [], 0, [], [], [], 0, false, ()) : Int × List UInt8 × Int × List UInt8 × Int × List UInt8 × List UInt8 × List UInt8 × Int × Bool × Unit), (0 : Int)) else (zAsk, 400)).1.2.2.1 = n) := by
    rintro b rfl hn
    refine ⟨⟨fun h => ?_, fun h => absurd h hn⟩, fun h => ?_⟩ <;> exact absurd (show (400 : Int) = 0 from h) (by decide)
  by_cases hneg : n < 0
  · have e : digits n = 45 :: digs (-n) := by unfold digits; rw [if_pos hneg]
    refine bad _ ?_ (by omega)
    have : allDig (digits n) = false := by rw [e]; rfl
    unfold numN
    rw [this]; rfl
  · obtain ⟨m, rfl⟩ : ∃ m : Nat, n = (m : Int) := ⟨n.toNat, by omega⟩
    have e : digits (m : Int) = digs (m : Int) := by unfold digits; rw [if_neg hneg]
    obtain ⟨d1, d2, d3, d4⟩ := digs_ok (n := m) (by omega)
    obtain ⟨i1, -⟩ := intN_dig d1 (by intro h; rw [h] at d3; simp at d3)
    have i1 := i1 (by rw [d2]; omega)
    rw [d2] at i1
    have hN : numN (digits (m : Int)) (digits (m : Int)).length 1 1099511627776 = ((m : Int), decide ((m : Int) ≥ 1) && decide ((m : Int) ≤ 1099511627776)) := by
      rw [e]
      unfold numN
      rw [d1, i1]
      simp
    by_cases hin : 1 ≤ (m : Int) ∧ (m : Int) ≤ 1099511627776
    · have h48 : ((digits (m : Int)).getD 0 0 == 48) = false := by rw [e]; simpa using d4 (by omega)
      rw [hN, h48, decide_eq_true hin.1, decide_eq_true hin.2]
      exact ⟨⟨fun _ => hin, fun _ => rfl⟩, fun _ => rfl⟩
    · refine bad _ ?_ hin
      rw [hN]
      by_cases a : (m : Int) ≥ 1
      · rw [decide_eq_false (show ¬ (m : Int) ≤ 1099511627776 from fun h => hin ⟨a, h⟩), Bool.and_false, Bool.false_and]
      · rw [decide_eq_false a]; rfl
end Nice
