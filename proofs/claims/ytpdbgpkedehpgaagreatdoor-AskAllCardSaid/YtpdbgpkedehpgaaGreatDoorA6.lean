/-
  Part of the proof: LA LB LC. No condition.
-/
import Derived.Test.YtpdbgpkedehpgaaGreatDoorQA
import Derived.Test.YtpdbgpkedehpgaaGreatDoorA1
namespace Go.Proofs.YtpdbgpkedehpgaaGreatDoor
open Go Go.Eng Nice
set_option maxRecDepth 100000

theorem keyCh_iff {c : UInt8} : keyCh c = true ↔ (97 ≤ c.toNat ∧ c.toNat ≤ 122 ∨ 48 ≤ c.toNat ∧ c.toNat ≤ 57 ∨ c.toNat = 46 ∨ c.toNat = 45 ∨ c.toNat = 95 ∨ c.toNat = 47) := by
  unfold keyCh; rw [decide_eq_true_iff]
theorem keyCh_not {c : UInt8} : keyCh c = false ↔ ¬ (97 ≤ c.toNat ∧ c.toNat ≤ 122 ∨ 48 ≤ c.toNat ∧ c.toNat ≤ 57 ∨ c.toNat = 46 ∨ c.toNat = 45 ∨ c.toNat = 95 ∨ c.toNat = 47) := by
  unfold keyCh; rw [decide_eq_false_iff_not]
theorem beT {α : Type} {n m : Int} {a b : α} (h : n = m) : (bif n == m then a else b) = a := by subst h; rw [show (n == n) = true from beq_self_eq_true n]; rfl
theorem beF {α : Type} {n m : Int} {a b : α} (h : n ≠ m) : (bif n == m then a else b) = b := by rw [show (n == m) = false from beq_eq_false_iff_ne.2 h]; rfl
theorem bnT {α : Type} {n m : Int} {a b : α} (h : n ≠ m) : (bif n != m then a else b) = a := by rw [show (n != m) = true from bne_iff_ne.2 h]; rfl
theorem bnF {α : Type} {n m : Int} {a b : α} (h : n = m) : (bif n != m then a else b) = b := by rw [show (n != m) = false from by subst h; exact bne_self_eq_false n]; rfl
theorem key_cases (c : UInt8) : (c.toNat = 45 ∧ keyCh c = true) ∨ (c.toNat = 46 ∧ keyCh c = true) ∨ (c.toNat = 47 ∧ keyCh c = true) ∨ ((48 ≤ c.toNat ∧ c.toNat ≤ 57) ∧ keyCh c = true) ∨ (c.toNat = 95 ∧ keyCh c = true) ∨ ((97 ≤ c.toNat ∧ c.toNat ≤ 122) ∧ keyCh c = true) ∨
    (c.toNat < 45 ∧ keyCh c = false) ∨ ((57 < c.toNat ∧ c.toNat < 97 ∧ c.toNat ≠ 95) ∧ keyCh c = false) ∨ (122 < c.toNat ∧ keyCh c = false) := by
  by_cases h : keyCh c = true
  · have := keyCh_iff.1 h
    rw [h]
    simp only [and_true, reduceCtorEq, and_false, or_false]
    omega
  · have h : keyCh c = false := by simpa using h
    have := keyCh_not.1 h
    rw [h]
    simp only [and_true, reduceCtorEq, and_false, false_or]
    omega
theorem keyCh_n (c : UInt8) : okeyCh (c, ()) = some (keyCh c, ()) := by
  rw [ekeyCh]
  rcases key_cases c with ⟨h, e⟩ | ⟨h, e⟩ | ⟨h, e⟩ | ⟨h, e⟩ | ⟨h, e⟩ | ⟨h, e⟩ | ⟨h, e⟩ | ⟨h, e⟩ | ⟨h, e⟩ <;> rw [e] <;> simp (disch := omega) only [cdT, cdF, beT, beF]

theorem dKey_l (t2 : Bool) (s : List UInt8) (hl : s.length ≤ 140737488355328) : ∀ (rest done : List UInt8) (n : Nat), s = done ++ rest → rest.length < n → hdKey_0 n s t2 (s.length : Int) (done.length : Int) = some (rest.all keyCh && (decide (1 ≤ s.length) && decide (s.length ≤ 40)), ())
  | [], done, n, hs, hn => by
    obtain ⟨m, rfl⟩ : ∃ m, n = m + 1 := ⟨n - 1, by omega⟩
    have : s.length = done.length := by rw [hs]; simp
    rw [edKey_0, cdF (by omega)]
    simp only [List.all_nil, Bool.true_and]
    by_cases h1 : 1 ≤ s.length
    · rw [cdT (by omega)]
      by_cases h2 : s.length ≤ 40
      · rw [cdT (by omega)]; simp [h1, h2]
      · rw [cdF (by omega)]; simp [h1, h2]
    · rw [cdF (by omega)]; simp [h1]
  | c :: rest, done, n, hs, hn => by
    obtain ⟨m, rfl⟩ : ∃ m, n = m + 1 := ⟨n - 1, by omega⟩
    have hsl : s.length = done.length + (rest.length + 1) := by rw [hs]; simp
    simp only [List.length_cons] at hn
    have ih := dKey_l t2 s hl rest (done ++ [c]) m (by simp [hs]) (by omega)
    simp only [List.length_append, List.length_singleton, Int.natCast_add] at ih
    have hg : s.getD done.length 0 = c := by rw [hs, getD_mid]
    have hc := c.toNat_lt
    rw [edKey_0]
    simp only [Int.toNat_natCast, hg, UInt8.ofNat_toNat]
    rw [cdT (by omega)]
    cases hb : keyCh c
    · rw [cond_false]
      simp (disch := omega) only [gdT, gd_nil, inK_u8]
      simp [hb]
    · rw [cond_true]
      simp (disch := omega) only [gdT, gd_nil, inK_u8, inK_i64]
      simp only [List.all_cons, hb, Bool.true_and]
      exact ih
theorem dKey_n (s : List UInt8) (h : bndS s = true) : odKey (s, ()) = some (isKey s, ()) := by
  have h : s.length ≤ 140737488355328 := of_decide_eq_true h
  rw [edKey]
  exact dKey_l false s h s [] heads0 rfl (by unfold heads0; omega)
theorem rKey_l (t2 : Bool) (s : List UInt8) (hl : s.length ≤ 140737488355328) : ∀ (rest done : List UInt8) (n : Nat), s = done ++ rest → rest.length < n → hrKey_0 n s t2 (done.length : Int) = some (rest.all keyCh && (decide (1 ≤ s.length) && decide (s.length ≤ 40)), ())
  | [], done, n, hs, hn => by
    obtain ⟨m, rfl⟩ : ∃ m, n = m + 1 := ⟨n - 1, by omega⟩
    have : s.length = done.length := by rw [hs]; simp
    rw [erKey_0, cdF (by omega)]
    simp only [List.all_nil, Bool.true_and]
    by_cases h1 : 1 ≤ s.length
    · rw [cdT (by omega)]
      by_cases h2 : s.length ≤ 40
      · rw [cdT (by omega)]; simp [h1, h2]
      · rw [cdF (by omega)]; simp [h1, h2]
    · rw [cdF (by omega)]; simp [h1]
  | c :: rest, done, n, hs, hn => by
    obtain ⟨m, rfl⟩ : ∃ m, n = m + 1 := ⟨n - 1, by omega⟩
    have hsl : s.length = done.length + (rest.length + 1) := by rw [hs]; simp
    simp only [List.length_cons] at hn
    have ih := rKey_l t2 s hl rest (done ++ [c]) m (by simp [hs]) (by omega)
    simp only [List.length_append, List.length_singleton, Int.natCast_add] at ih
    have hg : s.getD done.length 0 = c := by rw [hs, getD_mid]
    have hc := c.toNat_lt
    rw [erKey_0]
    simp only [Int.toNat_natCast, hg]
    rcases key_cases c with ⟨h, e⟩ | ⟨h, e⟩ | ⟨h, e⟩ | ⟨h, e⟩ | ⟨h, e⟩ | ⟨h, e⟩ | ⟨h, e⟩ | ⟨h, e⟩ | ⟨h, e⟩ <;> simp (disch := omega) only [cdT, cdF, bnT, bnF, gdT, gd_nil, inK_i64] <;> simp only [List.all_cons, e, Bool.true_and, Bool.false_and] <;> first | rfl | exact ih
theorem rKey_n (s : List UInt8) (h : bndS s = true) : orKey (s, ()) = some (isKey s, ()) := by
  have h : s.length ≤ 140737488355328 := of_decide_eq_true h
  rw [erKey]
  exact rKey_l false s h s [] heads0 rfl (by unfold heads0; omega)
theorem anum_n (s : List UInt8) (most lo hi : Int) (h : bndS s = true) : oanum (s, most, lo, hi, ()) = some ((numN s most lo hi).1, (numN s most lo hi).2, ()) := by
  rw [eanum]
  have hp : (bndS s && (decide True && decide True)) = true := by rw [h]; rfl
  simp only [gdB hp, gd_nil, idxF_ge, numN]
  cases allDig s
  · simp only [Bool.not_false, cond_true, Bool.false_and]
  · simp only [Bool.not_true, cond_false, Bool.true_and]
    cases (intN s).2
    · simp only [cond_false, Bool.false_and]
    · simp only [cond_true, Bool.true_and]
      by_cases h1 : (s.length : Int) ≤ most
      · rw [cdT h1, decide_eq_true h1, Bool.true_and]
        by_cases h2 : (intN s).1 ≥ lo
        · rw [cdT h2, decide_eq_true h2, Bool.true_and]
          by_cases h3 : (intN s).1 ≤ hi
          · rw [cdT h3, decide_eq_true h3]
          · rw [cdF h3, decide_eq_false h3]
        · rw [cdF h2, decide_eq_false h2, Bool.false_and]
      · rw [cdF h1, decide_eq_false h1, Bool.false_and]
theorem hp_n (s p : List UInt8) : ohp (s, p, ()) = some (hasPre s p, ()) := by
  rw [ehp]
  unfold hasPre
  by_cases h : p.length ≤ s.length
  · rw [cdT (by omega), decide_eq_true h, Bool.true_and, gdT (by omega), gdT (by omega), gd_nil, gd_nil, Int.toNat_natCast]
    cases (s.take p.length == p) <;> rfl
  · rw [cdF (by omega), decide_eq_false h, Bool.false_and]
theorem hasPre_len {s p : List UInt8} (h : hasPre s p = true) : p.length ≤ s.length := by
  unfold hasPre at h
  rw [Bool.and_eq_true, decide_eq_true_eq] at h
  exact h.1
theorem cp_n (s p : List UInt8) : ocp (s, p, ()) = some ((cutPre s p).1, (cutPre s p).2, ()) := by
  rw [ecp]
  unfold cutPre
  cases hb : hasPre s p
  · rfl
  · have := hasPre_len hb
    rw [cond_true, cond_true, gdT (by omega), gd_nil, Int.toNat_natCast]
end Go.Proofs.YtpdbgpkedehpgaaGreatDoor
namespace Go.Proofs.YtpdbgpkedehpgaaGreatDoor
open Go Go.Eng Nice
set_option maxRecDepth 100000
theorem numN_pos {s : List UInt8} {most lo hi : Int} (h : (numN s most lo hi).2 = true) : 0 < s.length := by
  cases s with
  | nil => simp [numN, intN, Lib.parseIntB] at h
  | cons c r => simp
theorem cutPre_bnd {q p : List UInt8} (h : bndS q = true) : bndS (cutPre q p).1 = true := by
  have h : q.length ≤ 140737488355328 := of_decide_eq_true h
  refine decide_eq_true ?_
  unfold cutPre
  cases hasPre q p
  · exact h
  · simp only [cond_true, List.length_drop]; omega
/-! ### digits -/
end Go.Proofs.YtpdbgpkedehpgaaGreatDoor
namespace Go.Proofs.YtpdbgpkedehpgaaGreatDoor
open Go Go.Eng Nice
set_option maxRecDepth 100000
end Go.Proofs.YtpdbgpkedehpgaaGreatDoor
