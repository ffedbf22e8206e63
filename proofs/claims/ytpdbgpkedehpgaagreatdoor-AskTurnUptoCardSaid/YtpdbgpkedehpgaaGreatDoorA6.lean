/-
  Part of the proof: LA LB LC. No condition.
-/
import Derived.Test.YtpdbgpkedehpgaaGreatDoorQA
import Derived.Test.YtpdbgpkedehpgaaGreatDoorA1
namespace Go.Proofs.YtpdbgpkedehpgaaGreatDoor
open Go Go.Eng Nice
set_option maxRecDepth 100000

theorem keyCh_iff {c : UInt8} : keyCh c = true ↔ (97 ≤ c.toNat ∧ c.toNat ≤ 122 ∨ 48 ≤ c.toNat ∧ c.toNat ≤ 57 ∨ c.toNat = 46 ∨ c.toNat = 45 ∨ c.toNat = 95 ∨ c.toNat = 47) := by
  unfold keyCh; rw [decide_eq_true_iff]
theorem keyCh_not {c : UInt8} : keyCh c = false ↔ ¬ (97 ≤ c.toNat ∧ c.toNat ≤ 122 ∨ 48 ≤ c.toNat ∧ c.toNat ≤ 57 ∨ c.toNat = 46 ∨ c.toNat = 45 ∨ c.toNat = 95 ∨ c.toNat = 47) := by
  unfold keyCh; rw [decide_eq_false_iff_not]
theorem beT {α : Type} {n m : Int} {a b : α} (h : n = m) : (bif n == m then a else b) = a := by subst h; rw [show (n == n) = true from beq_self_eq_true n]; rfl
theorem beF {α : Type} {n m : Int} {a b : α} (h : n ≠ m) : (bif n == m then a else b) = b := by rw [show (n == m) = false from beq_eq_false_iff_ne.2 h]; rfl
theorem bnT {α : Type} {n m : Int} {a b : α} (h : n ≠ m) : (bif n != m then a else b) = a := by rw [show (n != m) = true from bne_iff_ne.2 h]; rfl
theorem bnF {α : Type} {n m : Int} {a b : α} (h : n = m) : (bif n != m then a else b) = b := by rw [show (n != m) = false from by subst h; exact bne_self_eq_false n]; rfl
theorem key_cases (c : UInt8) : (c.toNat = 45 ∧ keyCh c = true) ∨ (c.toNat = 46 ∧ keyCh c = true) ∨ (c.toNat = 47 ∧ keyCh c = true) ∨ ((48 ≤ c.toNat ∧ c.toNat ≤ 57) ∧ keyCh c = true) ∨ (c.toNat = 95 ∧ keyCh c = true) ∨ ((97 ≤ c.toNat ∧ c.toNat ≤ 122) ∧ keyCh c = true) ∨
    (c.toNat < 45 ∧ keyCh c = false) ∨ ((57 < c.toNat ∧ c.toNat < 97 ∧ c.toNat ≠ 95) ∧ keyCh c = false) ∨ (122 < c.toNat ∧ keyCh c = false) := by
  by_cases h : keyCh c = true
  · have := keyCh_iff.1 h
    rw [h]
    simp only [and_true, reduceCtorEq, and_false, or_false]
    omega
  · have h : keyCh c = false := by simpa using h
    have := keyCh_not.1 h
    rw [h]
    simp only [and_true, reduceCtorEq, and_false, false_or]
    omega
theorem keyCh_n (c : UInt8) : okeyCh (c, ()) = some (keyCh c, ()) := by
  rw [ekeyCh]
  rcases key_cases c with ⟨h, e⟩ | ⟨h, e⟩ | ⟨h, e⟩ | ⟨h, e⟩ | ⟨h, e⟩ | ⟨h, e⟩ | ⟨h, e⟩ | ⟨h, e⟩ | ⟨h, e⟩ <;> rw [e] <;> simp (disch := omega) only [cdT, cdF, beT, beF]

theorem dKey_l (t2 : Bool) (s : List UInt8) (hl : s.length ≤ 140737488355328) : ∀ (rest done : List UInt8) (n : Nat), s = done ++ rest → rest.length < n → hdKey_0 n s t2 (s.length : Int) (done.length : Int) = some (rest.all keyCh && (decide (1 ≤ s.length) && decide (s.length ≤ 40)), ())
  | [], done, n, hs, hn => by
    obtain ⟨m, rfl⟩ : ∃ m, n = m + 1 := ⟨n - 1, by omega⟩
    have : s.length = done.length := by rw [hs]; simp
    rw [edKey_0, cdF (by omega)]
    simp only [List.all_nil, Bool.true_and]
    by_cases h1 : 1 ≤ s.length
    · rw [cdT (by omega)]
      by_cases h2 : s.length ≤ 40
      · rw [cdT (by omega)]; simp [h1, h2]
      · rw [cdF (by omega)]; simp [h1, h2]
    · rw [cdF (by omega)]; simp [h1]
  | c :: rest, done, n, hs, hn => by
    obtain ⟨m, rfl⟩ : ∃ m, n = m + 1 := ⟨n - 1, by omega⟩
    have hsl : s.length = done.length + (rest.length + 1) := by rw [hs]; simp
    simp only [List.length_cons] at hn
    have ih := dKey_l t2 s hl rest (done ++ [c]) m (by simp [hs]) (by omega)
    simp only [List.length_append, List.length_singleton, Int.natCast_add] at ih
    have hg : s.getD done.length 0 = c := by rw [hs, getD_mid]
    have hc := c.toNat_lt
    rw [edKey_0]
    simp only [Int.toNat_natCast, hg, UInt8.ofNat_toNat]
    rw [cdT (by omega)]
    cases hb : keyCh c
    · rw [cond_false]
      simp (disch := omega) only [gdT, gd_nil, inK_u8]
      simp [hb]
    · rw [cond_true]
      simp (disch := omega) only [gdT, gd_nil, inK_u8, inK_i64]
      simp only [List.all_cons, hb, Bool.true_and]
      exact ih
theorem dKey_n (s : List UInt8) (h : bndS s = true) : odKey (s, ()) = some (isKey s, ()) := by
  have h : s.length ≤ 140737488355328 := of_decide_eq_true h
  rw [edKey]
  exact dKey_l false s h s [] heads0 rfl (by unfold heads0; omega)
theorem rKey_l (t2 : Bool) (s : List UInt8) (hl : s.length ≤ 140737488355328) : ∀ (rest done : List UInt8) (n : Nat), s = done ++ rest → rest.length < n → hrKey_0 n s t2 (done.length : Int) = some (rest.all keyCh && (decide (1 ≤ s.length) && decide (s.length ≤ 40)), ())
  | [], done, n, hs, hn => by
    obtain ⟨m, rfl⟩ : ∃ m, n = m + 1 := ⟨n - 1, by omega⟩
    have : s.length = done.length := by rw [hs]; simp
    rw [erKey_0, cdF (by omega)]
    simp only [List.all_nil, Bool.true_and]
    by_cases h1 : 1 ≤ s.length
    · rw [cdT (by omega)]
      by_cases h2 : s.length ≤ 40
      · rw [cdT (by omega)]; simp [h1, h2]
      · rw [cdF (by omega)]; simp [h1, h2]
    · rw [cdF (by omega)]; simp [h1]
  | c :: rest, done, n, hs, hn => by
    obtain ⟨m, rfl⟩ : ∃ m, n = m + 1 := ⟨n - 1, by omega⟩
    have hsl : s.length = done.length + (rest.length + 1) := by rw [hs]; simp
    simp only [List.length_cons] at hn
    have ih := rKey_l t2 s hl rest (done ++ [c]) m (by simp [hs]) (by omega)
    simp only [List.length_append, List.length_singleton, Int.natCast_add] at ih
    have hg : s.getD done.length 0 = c := by rw [hs, getD_mid]
    have hc := c.toNat_lt
    rw [erKey_0]
    simp only [Int.toNat_natCast, hg]
    rcases key_cases c with ⟨h, e⟩ | ⟨h, e⟩ | ⟨h, e⟩ | ⟨h, e⟩ | ⟨h, e⟩ | ⟨h, e⟩ | ⟨h, e⟩ | ⟨h, e⟩ | ⟨h, e⟩ <;> simp (disch := omega) only [cdT, cdF, bnT, bnF, gdT, gd_nil, inK_i64] <;> simp only [List.all_cons, e, Bool.true_and, Bool.false_and] <;> first | rfl | exact ih
theorem rKey_n (s : List UInt8) (h : bndS s = true) : orKey (s, ()) = some (isKey s, ()) := by
  have h : s.length ≤ 140737488355328 := of_decide_eq_true h
  rw [erKey]
  exact rKey_l false s h s [] heads0 rfl (by unfold heads0; omega)
theorem anum_n (s : List UInt8) (most lo hi : Int) (h : bndS s = true) : oanum (s, most, lo, hi, ()) = some ((numN s most lo hi).1, (numN s most lo hi).2, ()) := by
  rw [eanum]
  have hp : (bndS s && (decide True && decide True)) = true := by rw [h]; rfl
  simp only [gdB hp, gd_nil, idxF_ge, numN]
  cases allDig s
  · simp only [Bool.not_false, cond_true, Bool.false_and]
  · simp only [Bool.not_true, cond_false, Bool.true_and]
    cases (intN s).2
    · simp only [cond_false, Bool.false_and]
    · simp only [cond_true, Bool.true_and]
      by_cases h1 : (s.length : Int) ≤ most
      · rw [cdT h1, decide_eq_true h1, Bool.true_and]
        by_cases h2 : (intN s).1 ≥ lo
        · rw [cdT h2, decide_eq_true h2, Bool.true_and]
          by_cases h3 : (intN s).1 ≤ hi
          · rw [cdT h3, decide_eq_true h3]
          · rw [cdF h3, decide_eq_false h3]
        · rw [cdF h2, decide_eq_false h2, Bool.false_and]
      · rw [cdF h1, decide_eq_false h1, Bool.false_and]
theorem hp_n (s p : List UInt8) : ohp (s, p, ()) = some (hasPre s p, ()) := by
  rw [ehp]
  unfold hasPre
  by_cases h : p.length ≤ s.length
  · rw [cdT (by omega), decide_eq_true h, Bool.true_and, gdT (by omega), gdT (by omega), gd_nil, gd_nil, Int.toNat_natCast]
    cases (s.take p.length == p) <;> rfl
  · rw [cdF (by omega), decide_eq_false h, Bool.false_and]
theorem hasPre_len {s p : List UInt8} (h : hasPre s p = true) : p.length ≤ s.length := by
  unfold hasPre at h
  rw [Bool.and_eq_true, decide_eq_true_eq] at h
  exact h.1
theorem cp_n (s p : List UInt8) : ocp (s, p, ()) = some ((cutPre s p).1, (cutPre s p).2, ()) := by
  rw [ecp]
  unfold cutPre
  cases hb : hasPre s p
  · rfl
  · have := hasPre_len hb
    rw [cond_true, cond_true, gdT (by omega), gd_nil, Int.toNat_natCast]
end Go.Proofs.YtpdbgpkedehpgaaGreatDoor
namespace Go.Proofs.YtpdbgpkedehpgaaGreatDoor
open Go Go.Eng Nice
set_option maxRecDepth 100000
theorem numN_pos {s : List UInt8} {most lo hi : Int} (h : (numN s most lo hi).2 = true) : 0 < s.length := by
  cases s with
  | nil => simp [numN, intN, Lib.parseIntB] at h
  | cons c r => simp
theorem cutPre_bnd {q p : List UInt8} (h : bndS q = true) : bndS (cutPre q p).1 = true := by
  have h : q.length ≤ 140737488355328 := of_decide_eq_true h
  refine decide_eq_true ?_
  unfold cutPre
  cases hasPre q p
  · exact h
  · simp only [cond_true, List.length_drop]; omega
/-! ### digits -/
theorem digsF_len : ∀ (f n : Nat) (acc : List UInt8), (digsF f n acc).length ≤ f + acc.length
  | 0, n, acc => by simp [digsF]
  | f + 1, n, acc => by
    simp only [digsF]
    split
    · simp; omega
    · have := digsF_len f (n / 10) (UInt8.ofNat (48 + n % 10) :: acc)
      simp only [List.length_cons] at this
      omega
theorem u64w {n : Int} (h0 : 0 ≤ n) (h1 : n < 18446744073709551616) : IntKind.u64.wrap n = n := by
  show n % 18446744073709551616 = n
  exact Int.emod_eq_of_lt h0 h1
theorem rdigits_l (t2 : List UInt8) : ∀ (f n : Nat) (u : Nat) (acc : List UInt8), u < 18446744073709551616 → u < 10 ^ f → acc.length ≤ 100 - f → f ≤ 20 → 0 < f → f < n → hrdigits_0 n (u : Int) t2 acc = some (digsF f u acc, ())
  | 0, n, u, acc, _, _, _, _, h0, _ => absurd h0 (Nat.lt_irrefl 0)
  | f + 1, n, u, acc, hu, h10, hl, hf, _, hn => by
    obtain ⟨m, rfl⟩ : ∃ m, n = m + 1 := ⟨n - 1, by omega⟩
    have e1 : (u : Int).tmod 10 = ((u % 10 : Nat) : Int) := rfl
    have e2 : (u : Int).tdiv 10 = ((u / 10 : Nat) : Int) := rfl
    have e3 : UInt8.ofNat (IntKind.u8.wrap (IntKind.u64.wrap ((48 : Int) + ((u % 10 : Nat) : Int)))).toNat = UInt8.ofNat (48 + u % 10) := by
      rw [u64w (by omega) (by omega), wrap_u8]
      congr 1
      omega
    rw [erdigits_0]
    simp only [e1, e2, e3, List.length_singleton]
    rw [gdT (by omega), gd_nil, u64w (by omega) (by omega)]
    simp only [digsF]
    by_cases h : u / 10 = 0
    · rw [if_pos h, beT (by omega)]; rfl
    · rw [if_neg h, beF (by omega)]
      have hf0 : 0 < f := by
        rcases Nat.eq_zero_or_pos f with h' | h'
        · subst h'; simp at h10; omega
        · exact h'
      exact rdigits_l t2 f m (u / 10) (UInt8.ofNat (48 + u % 10) :: acc) (by omega) (by rw [Nat.pow_succ] at h10; omega) (by simp; omega) (by omega) hf0 (by omega)
theorem rdigits_n (u : Int) (h : (decide (0 ≤ u) && decide (u < 18446744073709551616)) = true) : ordigits (u, ()) = some (digs u, ()) := by
  rw [Bool.and_eq_true, decide_eq_true_eq, decide_eq_true_eq] at h
  obtain ⟨n, rfl⟩ : ∃ n : Nat, u = (n : Int) := ⟨u.toNat, by omega⟩
  rw [erdigits]
  have := rdigits_l [] 20 heads0 n [] (by omega) (by omega) (by simp) (by omega) (by omega) (by unfold heads0; omega)
  simpa [digs] using this
theorem digs_len (u : Int) : (digs u).length ≤ 20 := by
  have := digsF_len 20 u.toNat []
  simpa [digs] using this
theorem rDigits_n (n : Int) (h : (decide (-9223372036854775808 ≤ n) && decide (n ≤ 9223372036854775807)) = true) : orDigits (n, ()) = some (digits n, ()) := by
  rw [Bool.and_eq_true, decide_eq_true_eq, decide_eq_true_eq] at h
  rw [erDigits]
  unfold digits
  by_cases h0 : n < 0
  · rw [cdT h0, if_pos h0]
    have i1 : IntKind.u64.wrap ((0 : Int) - (n + 1)) = 0 - (n + 1) := u64w (by omega) (by omega)
    have e : IntKind.u64.wrap (IntKind.u64.wrap ((0 : Int) - (n + 1)) + 1) = -n := by
      rw [i1, u64w (by omega) (by omega)]; omega
    rw [e]
    have hl := digs_len (-n)
    rw [gdT (by omega), gdB (by rw [decide_eq_true (by omega), decide_eq_true (by omega)]; rfl), gdT (by rw [inK_i64]; omega), gdT (by rw [inK_i64]; omega), gd_nil]
    rfl
  · rw [cdF h0, if_neg h0, u64w (by omega) (by omega), gdB (by rw [decide_eq_true (by omega), decide_eq_true (by omega)]; rfl), gd_nil]
end Go.Proofs.YtpdbgpkedehpgaaGreatDoor
namespace Go.Proofs.YtpdbgpkedehpgaaGreatDoor
open Go Go.Eng Nice
set_option maxRecDepth 100000
end Go.Proofs.YtpdbgpkedehpgaaGreatDoor
