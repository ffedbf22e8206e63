/-
  What the functions of asks compute, second part. No condition.
-/
import Derived.Test.YtpdbgpkedehpgaaGreatDoorLA
namespace Go.Proofs.YtpdbgpkedehpgaaGreatDoor
open Go Go.Eng Nice
set_option maxRecDepth 100000
theorem numN_pos {s : List UInt8} {most lo hi : Int} (h : (numN s most lo hi).2 = true) : 0 < s.length := by
  cases s with
  | nil => simp [numN, intN, Lib.parseIntB] at h
  | cons c r => simp
theorem cutPre_bnd {q p : List UInt8} (h : bndS q = true) : bndS (cutPre q p).1 = true := by
  have h : q.length ≤ 140737488355328 := of_decide_eq_true h
  refine decide_eq_true ?_
  unfold cutPre
  cases hasPre q p
  · exact h
  · simp only [cond_true, List.length_drop]; omega
theorem keyed_n (a : Ty.Den AskT) (r : Ty.Den ReqT) (h : (keyedP r.1 r.2.2.1 a.2.1 && (a.1 == (0 : Int) && a.2.2.1 == (0 : Int))) = true) :
    okeyed (a, r, ()) = some (((keyedN r.1 r.2.2.1 a.2.1).1, a.2.1, (keyedN r.1 r.2.2.1 a.2.1).2.1, a.2.2.2), (keyedN r.1 r.2.2.1 a.2.1).2.2, ()) := by
  obtain ⟨k0, k, v0, b1, b2, b3, b4, b5, b6, b7, ⟨⟩⟩ := a
  obtain ⟨m, p, q, hs, b, ⟨⟩⟩ := r
  simp only [Bool.and_eq_true, keyedP, Bool.not_eq_true', beq_iff_eq] at h
  obtain ⟨⟨hm, hq, hk⟩, rfl, rfl⟩ := h
  rw [okeyed_g, ekeyed_g]
  have hc := cutPre_bnd (p := vPre) hq
  unfold keyedN
  dsimp only
  rw [show ([118, 101, 114, 115, 105, 111, 110, 61] : List UInt8) = vPre from rfl, gdB hk, gdB hk, gd_nil, gd_nil, hm, cond_false]
  cases isKey k
  · rfl
  · simp only [cond_true]
    simp only [gdB hc, gd_nil]
    generalize hn : numN (cutPre q vPre).fst ((cutPre q vPre).fst.length : Int) 1 1099511627776 = nn
    have hpos : nn.2 = true → 0 < (cutPre q vPre).1.length := fun h => numN_pos (by rw [hn]; exact h)
    generalize hcc : cutPre q vPre = c at *
    have h48 : ∀ {α : Type} (x y : α), (bif ((c.1.getD 0 0).toNat : Int) != 48 then x else y) = bif c.1.getD 0 0 == 48 then y else x := by
      intro α x y
      by_cases h : c.1.getD 0 0 = 48
      · rw [h]; rfl
      · rw [bnT (by intro e; exact h (UInt8.toNat.inj (show _ = (48 : UInt8).toNat by have : (48 : UInt8).toNat = 48 := rfl; omega))), show (c.1.getD 0 0 == 48) = false from by simpa using h]; rfl
    simp only [h48]
    cases hd : (m == [68, 69, 76, 69, 84, 69]) <;> cases hqq : (q == []) <;> simp only [cond_true, cond_false] <;>
    · cases h1 : nn.2 <;> cases h2 : c.2 <;> simp only [cond_true, cond_false, Bool.true_and, Bool.false_and]
      all_goals first
        | rfl
        | (have := hpos h1
           cases h3 : (c.1.getD 0 0 == 48) <;> simp (disch := omega) only [cond_true, cond_false, gdT, gd_nil, Bool.not_true, Bool.not_false])

/-! ### digits -/
theorem digsF_len : ∀ (f n : Nat) (acc : List UInt8), (digsF f n acc).length ≤ f + acc.length
  | 0, n, acc => by simp [digsF]
  | f + 1, n, acc => by
    simp only [digsF]
    split
    · simp; omega
    · have := digsF_len f (n / 10) (UInt8.ofNat (48 + n % 10) :: acc)
      simp only [List.length_cons] at this
      omega
theorem u64w {n : Int} (h0 : 0 ≤ n) (h1 : n < 18446744073709551616) : IntKind.u64.wrap n = n := by
  show n % 18446744073709551616 = n
  exact Int.emod_eq_of_lt h0 h1
theorem rdigits_l (t2 : List UInt8) : ∀ (f n : Nat) (u : Nat) (acc : List UInt8), u < 18446744073709551616 → u < 10 ^ f → acc.length ≤ 100 - f → f ≤ 20 → 0 < f → f < n → hrdigits_0 n (u : Int) t2 acc = some (digsF f u acc, ())
  | 0, n, u, acc, _, _, _, _, h0, _ => absurd h0 (Nat.lt_irrefl 0)
  | f + 1, n, u, acc, hu, h10, hl, hf, _, hn => by
    obtain ⟨m, rfl⟩ : ∃ m, n = m + 1 := ⟨n - 1, by omega⟩
    have e1 : (u : Int).tmod 10 = ((u % 10 : Nat) : Int) := rfl
    have e2 : (u : Int).tdiv 10 = ((u / 10 : Nat) : Int) := rfl
    have e3 : UInt8.ofNat (IntKind.u8.wrap (IntKind.u64.wrap ((48 : Int) + ((u % 10 : Nat) : Int)))).toNat = UInt8.ofNat (48 + u % 10) := by
      rw [u64w (by omega) (by omega), wrap_u8]
      congr 1
      omega
    rw [erdigits_0]
    simp only [e1, e2, e3, List.length_singleton]
    rw [gdT (by omega), gd_nil, u64w (by omega) (by omega)]
    simp only [digsF]
    by_cases h : u / 10 = 0
    · rw [if_pos h, beT (by omega)]; rfl
    · rw [if_neg h, beF (by omega)]
      have hf0 : 0 < f := by
        rcases Nat.eq_zero_or_pos f with h' | h'
        · subst h'; simp at h10; omega
        · exact h'
      exact rdigits_l t2 f m (u / 10) (UInt8.ofNat (48 + u % 10) :: acc) (by omega) (by rw [Nat.pow_succ] at h10; omega) (by simp; omega) (by omega) hf0 (by omega)
theorem rdigits_n (u : Int) (h : (decide (0 ≤ u) && decide (u < 18446744073709551616)) = true) : ordigits (u, ()) = some (digs u, ()) := by
  rw [Bool.and_eq_true, decide_eq_true_eq, decide_eq_true_eq] at h
  obtain ⟨n, rfl⟩ : ∃ n : Nat, u = (n : Int) := ⟨u.toNat, by omega⟩
  rw [erdigits]
  have := rdigits_l [] 20 heads0 n [] (by omega) (by omega) (by simp) (by omega) (by omega) (by unfold heads0; omega)
  simpa [digs] using this
theorem digs_len (u : Int) : (digs u).length ≤ 20 := by
  have := digsF_len 20 u.toNat []
  simpa [digs] using this
theorem rDigits_n (n : Int) (h : (decide (-9223372036854775808 ≤ n) && decide (n ≤ 9223372036854775807)) = true) : orDigits (n, ()) = some (digits n, ()) := by
  rw [Bool.and_eq_true, decide_eq_true_eq, decide_eq_true_eq] at h
  rw [erDigits]
  unfold digits
  by_cases h0 : n < 0
  · rw [cdT h0, if_pos h0]
    have i1 : IntKind.u64.wrap ((0 : Int) - (n + 1)) = 0 - (n + 1) := u64w (by omega) (by omega)
    have e : IntKind.u64.wrap (IntKind.u64.wrap ((0 : Int) - (n + 1)) + 1) = -n := by
      rw [i1, u64w (by omega) (by omega)]; omega
    rw [e]
    have hl := digs_len (-n)
    rw [gdT (by omega), gdB (by rw [decide_eq_true (by omega), decide_eq_true (by omega)]; rfl), gdT (by rw [inK_i64]; omega), gdT (by rw [inK_i64]; omega), gd_nil]
    rfl
  · rw [cdF h0, if_neg h0, u64w (by omega) (by omega), gdB (by rw [decide_eq_true (by omega), decide_eq_true (by omega)]; rfl), gd_nil]
theorem aOf_n (q : List UInt8) (hs : List (List UInt8 × List UInt8 × Unit)) (h : bndS q = true) : oaOf (([71, 69, 84], [47, 111, 47, 107], q, hs, [], ()), ()) = some ((askV q).1, (askV q).2, ()) := by
  rw [eaOf]
  have h1 : hasPre [47, 111, 47, 107] [47, 111, 47] = true := by decide
  have h2 : (keyedP [71, 69, 84] q [107] && ((0 : Int) == (0 : Int) && (0 : Int) == (0 : Int))) = true := by
    unfold keyedP; rw [h]; decide
  rw [h1]
  simp only [show List.drop 3 ([47, 111, 47, 107] : List UInt8) = [107] from rfl, Bool.not_true, cond_false]
  rw [gdB h2, gdB h2, gd_nil, gd_nil]
  unfold askV
  cases (keyedN [71, 69, 84] q [107]).2.2 <;> rfl
end Go.Proofs.YtpdbgpkedehpgaaGreatDoor
