/-
  The plain law: heads are found whatever case they have; a length that is told is what is read. No program in sight. No condition.
-/
import Derived.Test.YtpdbgpkedehpgaaGreatDoorNice
import Derived.Lib.AtoiAllCases
namespace Nice
open Go Go.Eng
theorem lo_lo (c : UInt8) : lo (lo c) = lo c := by
  by_cases h : 65 ≤ c.toNat ∧ c.toNat ≤ 90
  · have e := lo_up h.1 h.2
    have hn : (lo c).toNat = c.toNat + 32 := by rw [e]; simp; omega
    exact lo_not (by rw [hn]; omega)
  · rw [lo_not h, lo_not h]
theorem lower_lower (s : List UInt8) : lower (lower s) = lower s := by
  simp only [lower, List.map_map]
  exact List.map_congr_left fun c _ => lo_lo c
theorem valueN_lower (n : List UInt8) : ∀ l, valueN l (lower n) = valueN l n
  | [] => rfl
  | h :: r => by simp only [valueN, lower_lower, valueN_lower n r]
theorem lower_len (s : List UInt8) : (lower s).length = s.length := by simp [lower]
theorem lower_clen : lower clen = clen := by decide
theorem heads_val : ∀ (l : List (List UInt8 × List UInt8 × Unit)) (v0 : List UInt8) (k0 : Nat) (v : List UInt8) (k : Nat), refHeads l v0 k0 = some (v, k) → k0 ≤ k ∧ (k = k0 → valueN l clen = ([], false) ∧ v = v0) ∧ (k = k0 + 1 → valueN l clen = (v, true))
  | [], v0, k0, v, k, h => by
    simp only [refHeads, Option.some.injEq, Prod.mk.injEq] at h
    obtain ⟨rfl, rfl⟩ := h
    exact ⟨Nat.le_refl _, fun _ => ⟨rfl, rfl⟩, fun h => by omega⟩
  | h0 :: r, v0, k0, v, k, h => by
    simp only [refHeads] at h
    cases hc : lower h0.1 == clen
    · rw [hc, cond_false] at h
      cases ht : lower h0.1 == tenc
      · rw [ht, cond_false] at h
        have := heads_val r v0 k0 v k h
        simpa only [valueN, lower_clen, hc, cond_false] using this
      · rw [ht] at h; cases h
    · rw [hc, cond_true] at h
      obtain ⟨h1, h2, -⟩ := heads_val r h0.2.1 (k0 + 1) v k h
      refine ⟨by omega, fun e => by omega, fun e => ?_⟩
      simp only [valueN, lower_clen, hc, cond_true]
      rw [(h2 e).2]
theorem parse_dig : ∀ (s : List UInt8) (a : Nat), allDig s = true → a * 10 ^ s.length + 10 ^ s.length ≤ 10 ^ 18 → Lib.parseUint10 a s = .ok (s.foldl (fun n c => n * 10 + (c.toNat - 48)) a)
  | [], a, _, _ => rfl
  | c :: r, a, h, hb => by
    simp only [allDig, List.all_cons, Bool.and_eq_true] at h
    have hd := isDig_iff.1 h.1
    have hp : 1 ≤ 10 ^ r.length := Nat.one_le_pow _ _ (by decide)
    have hb' : (a * 10 + 10) * 10 ^ r.length ≤ 10 ^ 18 := by
      rw [List.length_cons, Nat.pow_succ] at hb
      have e : (a * 10 + 10) * 10 ^ r.length = a * (10 ^ r.length * 10) + 10 ^ r.length * 10 := by
        rw [Nat.add_mul, Nat.mul_assoc, Nat.mul_comm 10 (10 ^ r.length)]
      omega
    have ha : a * 10 + 10 ≤ 10 ^ 18 := Nat.le_trans (Nat.le_mul_of_pos_right _ hp) hb'
    simp only [Lib.parseUint10]
    rw [if_pos hd, if_neg (by omega), if_neg (by omega)]
    rw [parse_dig r _ h.2 ?_]
    · rfl
    · refine Nat.le_trans ?_ hb'
      rw [← Nat.succ_mul]
      exact Nat.mul_le_mul_right _ (by omega)
theorem atoi_dig {s : List UInt8} (h : allDig s = true) (h1 : 1 ≤ s.length) (h6 : s.length ≤ 6) : atoiN s = ((numV s : Int), true) := by
  cases s with
  | nil => simp at h1
  | cons c r =>
    have hd : 48 ≤ c.toNat ∧ c.toNat ≤ 57 := by
      simp only [allDig, List.all_cons, Bool.and_eq_true] at h
      exact isDig_iff.1 h.1
    have hp : (10 : Nat) ^ (c :: r).length ≤ 10 ^ 6 := Nat.pow_le_pow_right (by decide) h6
    have e : Lib.parseMag (c :: r) = .ok (numV (c :: r)) := by
      unfold Lib.parseMag
      rw [if_neg (by simp), parse_dig (c :: r) 0 h (by omega)]
      rfl
    have hlt : numV (c :: r) < 10 ^ (c :: r).length := by
      have key : ∀ (s : List UInt8) (a : Nat), allDig s = true → s.foldl (fun n c => n * 10 + (c.toNat - 48)) a < (a + 1) * 10 ^ s.length := by
        intro s
        induction s with
        | nil => intro a _; simp
        | cons c s ih =>
          intro a h
          simp only [allDig, List.all_cons, Bool.and_eq_true] at h
          have hd := isDig_iff.1 h.1
          refine Nat.lt_of_lt_of_le (ih (a * 10 + (c.toNat - 48)) h.2) ?_
          rw [List.length_cons, Nat.pow_succ, Nat.mul_comm (10 ^ s.length) 10, ← Nat.mul_assoc]
          exact Nat.mul_le_mul_right _ (by omega)
      have := key (c :: r) 0 h
      simpa [numV] using this
    unfold atoiN
    rw [Lib.atoiAll_plain c r (by omega) (by omega), e]
    simp only [Lib.signless]
    rw [if_neg (by omega)]
/-- the law of lengths -/
theorem len_law (l : List (List UInt8 × List UInt8 × Unit)) (h : (refLen l).2 ≠ 400) : scanLen l = (refLen l).1 := by
  unfold refLen at h ⊢
  cases hh : refHeads l [] 0 with
  | none => rw [hh] at h; exact absurd rfl h
  | some x =>
    obtain ⟨v, k⟩ := x
    rw [hh] at h
    obtain ⟨-, h0, h1⟩ := heads_val l [] 0 v k hh
    simp only [refLenOut] at h ⊢
    by_cases hk : k = 0
    · rw [if_pos hk]
      unfold scanLen
      rw [(h0 hk).1]
      decide
    · rw [if_neg hk] at h ⊢
      by_cases hb : 1 < k ∨ (refNum v 6).2 = false
      · rw [if_pos hb] at h; exact absurd rfl h
      · rw [if_neg hb]
        have hk1 : k = 1 := by omega
        have hv := h1 hk1
        have ho : (refNum v 6).2 = true := by cases hx : (refNum v 6).2; exact absurd (.inr hx) hb; rfl
        unfold scanLen
        rw [hv]
        unfold refNum at ho ⊢
        cases hd : (allDig v && decide ((v.length : Int) ≤ 6))
        · rw [hd] at ho; cases ho
        · rw [hd] at ho
          simp only [cond_true, decide_eq_true_eq] at ho
          rw [Bool.and_eq_true, decide_eq_true_eq] at hd
          have ha := atoi_dig hd.1 ho (by omega)
          have h6 : v.length ≤ 6 := by omega
          have e : scanNum v = ((numV v : Int), true) := by unfold scanNum; rw [hd.1, cond_true, ha]; simp [h6]
          rw [e]
          simp only [cond_true]
          split <;> rfl
end Nice
