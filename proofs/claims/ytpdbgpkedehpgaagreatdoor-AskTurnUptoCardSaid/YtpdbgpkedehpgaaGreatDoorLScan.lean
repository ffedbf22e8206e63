/-
  What the functions of heads compute: the plain words, out of the equations. No condition.
-/
import Derived.Test.YtpdbgpkedehpgaaGreatDoorQV
namespace Go.Proofs.YtpdbgpkedehpgaaGreatDoor
open Go Go.Eng Nice
set_option maxRecDepth 100000

theorem cap_n (c : UInt8) : ocap (c, ()) = some (isCap c, ()) := by
  rw [ocap_g, ecap_g]
  by_cases h1 : 65 ≤ c.toNat
  · by_cases h2 : c.toNat ≤ 90
    · rw [isCap_iff.2 ⟨h1, h2⟩]; simp (disch := omega) only [cdT]
    · rw [show isCap c = false by cases hb : isCap c; rfl; exact absurd (isCap_iff.1 hb).2 h2]; simp (disch := omega) only [cdT, cdF]
  · rw [show isCap c = false by cases hb : isCap c; rfl; exact absurd (isCap_iff.1 hb).1 h1]; simp (disch := omega) only [cdT, cdF]
theorem dig_n (c : UInt8) : odig (c, ()) = some (isDig c, ()) := by
  rw [odig_g, edig_g]
  by_cases h1 : 48 ≤ c.toNat
  · by_cases h2 : c.toNat ≤ 57
    · rw [isDig_iff.2 ⟨h1, h2⟩]; simp (disch := omega) only [cdT]
    · rw [show isDig c = false by cases hb : isDig c; rfl; exact absurd (isDig_iff.1 hb).2 h2]; simp (disch := omega) only [cdT, cdF]
  · rw [show isDig c = false by cases hb : isDig c; rfl; exact absurd (isDig_iff.1 hb).1 h1]; simp (disch := omega) only [cdT, cdF]

theorem rlower_l (t2 : List UInt8) : ∀ (rest done : List UInt8) (n : Nat), done.length + rest.length ≤ 140737488355328 → rest.length < n → hrlower_0 n t2 (done ++ rest) (done.length : Int) = some (done ++ rest.map lo, ())
  | [], done, n, hl, hn => by
    obtain ⟨m, rfl⟩ : ∃ m, n = m + 1 := ⟨n - 1, by omega⟩
    rw [erlower_0, cdF (by simp)]
    simp
  | c :: rest, done, n, hl, hn => by
    obtain ⟨m, rfl⟩ : ∃ m, n = m + 1 := ⟨n - 1, by omega⟩
    simp only [List.length_cons] at hl hn
    have hc := c.toNat_lt
    have ih := fun x => rlower_l t2 rest (done ++ [x]) m (by simp; omega) (by omega)
    simp only [List.append_assoc, List.singleton_append, List.length_append, List.length_singleton, Int.natCast_add] at ih
    rw [erlower_0]
    simp only [List.length_append, List.length_cons, Int.toNat_natCast, getD_mid, set_mid]
    by_cases h1 : 65 ≤ c.toNat
    · by_cases h2 : c.toNat ≤ 90
      · simp (disch := omega) only [cdT, gdT, gd_nil, inK_i64, inK_u8, wrap_u8]
        have e : UInt8.ofNat ((((c.toNat : Int) + 32) % 256).toNat) = lo c := by rw [lo_up h1 h2]; congr 1; omega
        rw [e]; exact ih _
      · simp (disch := omega) only [cdT, cdF, gdT, gd_nil, inK_i64]
        have := ih c; simpa [lo_not (show ¬ (65 ≤ c.toNat ∧ c.toNat ≤ 90) by omega)] using this
    · simp (disch := omega) only [cdT, cdF, gdT, gd_nil, inK_i64]
      have := ih c; simpa [lo_not (show ¬ (65 ≤ c.toNat ∧ c.toNat ≤ 90) by omega)] using this
theorem rlower_n (s : List UInt8) (h : lowerP s = true) : orlower (s, ()) = some (lower s, ()) := by
  have h : s.length ≤ 140737488355328 := of_decide_eq_true h
  rw [orlower_g, erlower_g]
  exact rlower_l [] s [] heads0 (by simpa using h) (by unfold heads0; omega)

theorem slower_l (t2 : List UInt8) (len : Nat) : ∀ (rest done : List UInt8) (n : Nat), len = done.length + rest.length → len ≤ 140737488355328 → rest.length < n → hslower_0 n t2 (done ++ rest) (len : Int) (done.length : Int) = some (done ++ rest.map lo, ())
  | [], done, n, he, hl, hn => by
    obtain ⟨m, rfl⟩ : ∃ m, n = m + 1 := ⟨n - 1, by omega⟩
    simp only [List.length_nil] at he
    rw [eslower_0, cdF (by omega)]
    simp
  | c :: rest, done, n, he, hl, hn => by
    obtain ⟨m, rfl⟩ : ∃ m, n = m + 1 := ⟨n - 1, by omega⟩
    simp only [List.length_cons] at he hn
    have hc := c.toNat_lt
    have ih := fun x => slower_l t2 len rest (done ++ [x]) m (by simp; omega) hl (by omega)
    simp only [List.append_assoc, List.singleton_append, List.length_append, List.length_singleton, Int.natCast_add] at ih
    rw [eslower_0]
    simp only [List.length_append, List.length_cons, Int.toNat_natCast, getD_mid, set_mid, UInt8.ofNat_toNat]
    cases hb : isCap c
    · have h0 : ¬ (65 ≤ c.toNat ∧ c.toNat ≤ 90) := fun h => by rw [isCap_iff.2 h] at hb; cases hb
      simp (disch := omega) only [cdT, gdT, gd_nil, inK_i64, inK_u8, cond_false]
      have := ih c; simpa [lo_not h0] using this
    · obtain ⟨h1, h2⟩ := isCap_iff.1 hb
      simp (disch := omega) only [cdT, gdT, gd_nil, inK_i64, inK_u8, cond_true, wrap_u8]
      have e : UInt8.ofNat ((((c.toNat : Int) + 97) % 256 - 65) % 256).toNat = lo c := by rw [lo_up h1 h2]; congr 1; omega
      rw [e]; exact ih _
theorem slower_n (s : List UInt8) (h : lowerP s = true) : oslower (s, ()) = some (lower s, ()) := by
  have h : s.length ≤ 140737488355328 := of_decide_eq_true h
  rw [oslower_g, eslower_g]
  exact slower_l [] s.length s [] heads0 (by simp) h (by unfold heads0; omega)

theorem sval_l (t1 : List UInt8) (t4 : List UInt8) (t5 : Bool) (h1 : lowerP t1 = true) (len : Nat) : ∀ (rest done : List (List UInt8 × List UInt8 × Unit)) (n : Nat), len = done.length + rest.length → len ≤ 140737488355328 → rest.all (fun h => lowerP h.1) = true → rest.length < n →
    hsval_0 n t1 t4 t5 (done ++ rest) (len : Int) (done.length : Int) = some ((valueN rest t1).1, (valueN rest t1).2, ())
  | [], done, n, he, hl, ha, hn => by
    obtain ⟨m, rfl⟩ : ∃ m, n = m + 1 := ⟨n - 1, by omega⟩
    simp only [List.length_nil] at he
    rw [esval_0, cdF (by omega)]
    rfl
  | c :: rest, done, n, he, hl, ha, hn => by
    obtain ⟨m, rfl⟩ : ∃ m, n = m + 1 := ⟨n - 1, by omega⟩
    simp only [List.length_cons] at he hn
    simp only [List.all_cons, Bool.and_eq_true] at ha
    have ih := sval_l t1 t4 t5 h1 len rest (done ++ [c]) m (by simp; omega) hl ha.2 (by omega)
    simp only [List.append_assoc, List.singleton_append, List.length_append, List.length_singleton, Int.natCast_add] at ih
    rw [esval_0]
    simp only [List.length_append, List.length_cons, Int.toNat_natCast, getD_mid]
    simp (disch := omega) only [cdT, gdT, gd_nil]
    cases hb : lower c.1 == lower t1
    · simp (disch := first | omega | assumption | exact ha.1) only [gdT, gdB, gd_nil, inK_i64, cond_false]
      simp only [valueN, hb, cond_false]
      exact ih
    · simp (disch := first | omega | assumption | exact ha.1) only [gdB, gd_nil, cond_true]
      simp only [valueN, hb, cond_true]
theorem sval_n (r : Ty.Den ReqT) (s : List UInt8) (h : valueP r.2.2.2.1 s = true) : osval (r, s, ()) = some ((valueN r.2.2.2.1 s).1, (valueN r.2.2.2.1 s).2, ()) := by
  unfold valueP at h
  simp only [Bool.and_eq_true, decide_eq_true_eq] at h
  rw [osval_g, esval_g]
  exact sval_l s [] false h.2.1 _ r.2.2.2.1 [] heads0 (by simp) h.1 h.2.2 (by unfold heads0; omega)
theorem rval_l (t1 : List UInt8) (a b c' d : List UInt8) (t4 : List UInt8) (t5 : Bool) (h1 : lowerP t1 = true) : ∀ (rest done : List (List UInt8 × List UInt8 × Unit)) (n : Nat), done.length + rest.length ≤ 140737488355328 → rest.all (fun h => lowerP h.1) = true → rest.length < n →
    hrval_0 n t1 a b c' (done ++ rest) d t4 t5 (done.length : Int) = some ((valueN rest t1).1, (valueN rest t1).2, ())
  | [], done, n, hl, ha, hn => by
    obtain ⟨m, rfl⟩ : ∃ m, n = m + 1 := ⟨n - 1, by omega⟩
    rw [erval_0, cdF (by simp)]
    rfl
  | c :: rest, done, n, hl, ha, hn => by
    obtain ⟨m, rfl⟩ : ∃ m, n = m + 1 := ⟨n - 1, by omega⟩
    simp only [List.length_cons] at hl hn
    simp only [List.all_cons, Bool.and_eq_true] at ha
    have ih := rval_l t1 a b c' d t4 t5 h1 rest (done ++ [c]) m (by simp; omega) ha.2 (by omega)
    simp only [List.append_assoc, List.singleton_append, List.length_append, List.length_singleton, Int.natCast_add] at ih
    rw [erval_0]
    simp only [List.length_append, List.length_cons, Int.toNat_natCast, getD_mid]
    simp (disch := omega) only [cdT, gdT]
    cases hb : lower c.1 == lower t1
    · simp (disch := first | omega | assumption | exact ha.1) only [gdT, gdB, gd_nil, inK_i64, cond_false]
      simp only [valueN, hb, cond_false]
      exact ih
    · simp (disch := first | omega | assumption | exact ha.1) only [gdT, gdB, gd_nil, cond_true]
      simp only [valueN, hb, cond_true]
theorem rval_n (r : Ty.Den ReqT) (s : List UInt8) (h : valueP r.2.2.2.1 s = true) : orval (r, s, ()) = some ((valueN r.2.2.2.1 s).1, (valueN r.2.2.2.1 s).2, ()) := by
  unfold valueP at h
  simp only [Bool.and_eq_true, decide_eq_true_eq] at h
  rw [orval_g, erval_g]
  exact rval_l s _ _ _ _ [] false h.2.1 r.2.2.2.1 [] heads0 (by simpa using h.1) h.2.2 (by unfold heads0; omega)

theorem cut_n (s : List UInt8) (n : Int) (h : 0 ≤ n) : ocut (s, n, ()) = some (cut s n, ()) := by
  rw [ocut_g, ecut_g]
  rw [gdT (by omega), gdT (Int.min_le_left _ _), gd_nil]
  have : List.take (min (s.length : Int) n).toNat s = cut s n := by
    unfold cut
    by_cases hn : n ≤ s.length
    · rw [Int.min_eq_right hn]
    · rw [Int.min_eq_left (by omega), List.take_of_length_le (by simp), List.take_of_length_le (by omega)]
  rw [this]
theorem numV_lt (s : List UInt8) (h : allDig s = true) : numV s < 10 ^ s.length := by
  have key : ∀ (s : List UInt8) (a : Nat), allDig s = true → s.foldl (fun n c => n * 10 + (c.toNat - 48)) a < (a + 1) * 10 ^ s.length := by
    intro s
    induction s with
    | nil => intro a _; simp
    | cons c s ih =>
      intro a h
      simp only [allDig, List.all_cons, Bool.and_eq_true] at h
      have hd := isDig_iff.1 h.1
      have := ih (a * 10 + (c.toNat - 48)) h.2
      refine Nat.lt_of_lt_of_le this ?_
      rw [List.length_cons, Nat.pow_succ, Nat.mul_comm (10 ^ s.length) 10, ← Nat.mul_assoc]
      exact Nat.mul_le_mul_right _ (by omega)
  have := key s 0 h
  simpa [numV] using this
theorem pow10_le {k n : Nat} (h : k ≤ n) : (10 : Nat) ^ k ≤ 10 ^ n := Nat.pow_le_pow_right (by decide) h
theorem numV_snoc (s : List UInt8) (c : UInt8) : numV (s ++ [c]) = numV s * 10 + (c.toNat - 48) := by simp [numV]
theorem allDig_snoc {s : List UInt8} {c : UInt8} (h1 : allDig s = true) (h2 : isDig c = true) : allDig (s ++ [c]) = true := by simp only [allDig, List.all_append, List.all_cons, List.all_nil, Bool.and_true, Bool.and_eq_true] at h1 ⊢; exact ⟨h1, h2⟩
theorem rnum_l (t4 : Int) (t5 : Bool) (most : Int) (hm : most ≤ 18) (s : List UInt8) (hl : s.length ≤ 140737488355328) : ∀ (rest done : List UInt8) (n : Nat), s = done ++ rest → allDig done = true → done.length ≤ 18 → rest.length < n → (0 < done.length → (done.length : Int) ≤ most) →
    hrnum_0 n s most t4 t5 (numV done : Int) (done.length : Int) = some ((bif allDig rest && decide (rest = [] ∨ (s.length : Int) ≤ most) then ((numV s : Int), decide (1 ≤ s.length), ()) else (0, false, ())))
  | [], done, n, hs, hd, hl18, hn, hmo => by
    obtain ⟨m, rfl⟩ : ∃ m, n = m + 1 := ⟨n - 1, by omega⟩
    rw [List.append_nil] at hs
    subst hs
    rw [ernum_0, cdF (by omega)]
    by_cases h1 : 1 ≤ s.length
    · rw [cdT (by omega)]; simp [allDig, h1]
    · rw [cdF (by omega)]; simp [allDig, h1]
  | c :: rest, done, n, hs, hd, hl18, hn, hmo => by
    obtain ⟨m, rfl⟩ : ∃ m, n = m + 1 := ⟨n - 1, by omega⟩
    have hsl : s.length = done.length + (rest.length + 1) := by rw [hs]; simp
    simp only [List.length_cons] at hn
    have hg : s.getD done.length 0 = c := by rw [hs, getD_mid]
    have hc := c.toNat_lt
    rw [ernum_0]
    simp only [Int.toNat_natCast, hg, UInt8.ofNat_toNat]
    rw [cdT (by omega)]
    cases hb : isDig c
    · simp (disch := first | omega | (simp only [inK_u8, inK_i64, wrap_u8]; omega)) only [gdT, gd_nil, cond_false]
      simp [allDig, hb]
    · have hcd := isDig_iff.1 hb
      rw [cond_true]
      by_cases hk : most ≤ (done.length : Int)
      · rw [cdT (by omega)]
        simp (disch := first | omega | (simp only [inK_u8, inK_i64, wrap_u8]; omega)) only [gdT, gd_nil]
        rw [show (allDig (c :: rest) && decide (c :: rest = [] ∨ (s.length : Int) ≤ most)) = false by
          rw [Bool.and_eq_false_iff]; right; simp; omega]
        rfl
      · have hv := numV_lt done hd
        have hp := pow10_le (show done.length ≤ 17 by omega)
        have ih := rnum_l t4 t5 most hm s hl rest (done ++ [c]) m (by simp [hs]) (allDig_snoc hd hb) (by simp; omega) (by omega) (fun _ => by simp; omega)
        rw [numV_snoc] at ih
        simp only [List.length_append, List.length_singleton, Int.natCast_add, Int.natCast_mul] at ih
        rw [cdF (by omega)]
        simp (disch := first | omega | (simp only [inK_u8, inK_i64, wrap_u8]; omega)) only [gdT, gd_nil]
        rw [show IntKind.u8.wrap ((c.toNat : Int) - 48) = ((c.toNat - 48 : Nat) : Int) by rw [wrap_u8]; omega]
        refine Eq.trans ih ?_
        have e1 : allDig (c :: rest) = allDig rest := by simp [allDig, hb]
        rw [e1]
        cases rest with
        | nil =>
          have : (s.length : Int) ≤ most := by simp at hsl; omega
          simp [this]
        | cons d r => simp
theorem rnum_n (s : List UInt8) (most : Int) (h : refNumP s most = true) : ornum (s, most, ()) = some ((refNum s most).1, (refNum s most).2, ()) := by
  unfold refNumP at h
  simp only [Bool.and_eq_true, decide_eq_true_eq] at h
  rw [ornum_g, ernum_g]
  have := rnum_l 0 false most h.2 s h.1 s [] heads0 rfl rfl (by simp) (by unfold heads0; omega) (fun h => by simp at h)
  refine Eq.trans this ?_
  unfold refNum
  cases s with
  | nil =>
    by_cases hm : (0 : Int) ≤ most <;> simp [allDig, numV, hm]
  | cons c r =>
    cases allDig (c :: r)
    · rfl
    · by_cases hm : ((c :: r).length : Int) ≤ most
      · rw [decide_eq_true (show c :: r = [] ∨ ((c :: r).length : Int) ≤ most from .inr hm), decide_eq_true hm]; rfl
      · rw [decide_eq_false (show ¬ (c :: r = [] ∨ ((c :: r).length : Int) ≤ most) by simp at hm ⊢; exact hm), decide_eq_false hm]; rfl

end Go.Proofs.YtpdbgpkedehpgaaGreatDoor
