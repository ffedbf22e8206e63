/-
  Part of the proof: PGetA PNum PGetB PGetC PGetD. No condition.
-/
import Derived.Test.YtnblkjapeiaedaaGreatDoorP5
namespace Nice
open Go Go.Eng
/-! ### literals -/
theorem pre_iff {s p : List UInt8} : hasPre s p = true ↔ ∃ t, s = p ++ t := by
  unfold hasPre
  rw [Bool.and_eq_true, decide_eq_true_eq, beq_iff_eq]
  constructor
  · rintro ⟨_, e⟩
    refine ⟨s.drop p.length, ?_⟩
    conv => lhs; rw [← List.take_append_drop p.length s, e]
  · rintro ⟨t, rfl⟩
    exact ⟨by simp, by simp⟩
theorem pre_app (l t : List UInt8) : hasPre (l ++ t) l = true := pre_iff.2 ⟨t, rfl⟩
theorem litE_app (l t : List UInt8) : litE (l ++ t) l = 0 := by unfold litE; rw [pre_app]; rfl
theorem litK_app (l t : List UInt8) : litK (l ++ t) l = (l.length : Int) := by unfold litK; rw [pre_app]; rfl
theorem lit_cases (r l : List UInt8) : litE r l = 0 ∨ litE r l = 1 ∨ litE r l = 2 := by
  unfold litE
  cases hasPre r l
  · cases hasPre l r
    · exact .inr (.inl rfl)
    · exact .inr (.inr rfl)
  · exact .inl rfl
theorem lit_inv {r l : List UInt8} (h : litE r l = 0) : ∃ t, r = l ++ t := by
  unfold litE at h
  cases e : hasPre r l
  · rw [e] at h
    cases e2 : hasPre l r <;> rw [e2] at h <;> exact absurd h (by decide)
  · exact pre_iff.1 e
/-- a proper beginning -/
def PP (r w : List UInt8) : Prop := ∃ u, u ≠ [] ∧ r ++ u = w
theorem pp_app {r a b : List UInt8} (h : PP r (a ++ b)) : PP r a ∨ ∃ r', r = a ++ r' ∧ PP r' b := by
  obtain ⟨u, hu, e⟩ := h
  rcases List.append_eq_append_iff.1 e with ⟨x, e1, e2⟩ | ⟨x, e1, e2⟩
  · by_cases hx : x = []
    · subst hx
      rw [List.append_nil] at e1
      exact .inr ⟨[], by rw [e1, List.append_nil], u, hu, e2⟩
    · exact .inl ⟨x, hx, e1.symm⟩
  · exact .inr ⟨x, e1, u, hu, e2.symm⟩
theorem pp_len {r w : List UInt8} (h : PP r w) : r.length < w.length := by
  obtain ⟨u, hu, rfl⟩ := h
  have : 0 < u.length := List.length_pos_iff.2 hu
  rw [List.length_append]; omega
theorem litE_pp {r l : List UInt8} (h : PP r l) : litE r l = 2 := by
  have hl := pp_len h
  obtain ⟨u, hu, rfl⟩ := h
  unfold litE
  cases e : hasPre r (r ++ u)
  · rw [pre_app]; rfl
  · have := hasPre_len e
    omega
/-! ### the first line -/
def stats : List Int := [200, 204, 400, 404, 405, 412, 413, 414, 431, 503, 507]
def vals : Nat → Int → List Int
  | 0, _ => []
  | k + 1, t => bif wordsN t == [] then vals k (t + 1) else t :: vals k (t + 1)
theorem vals_all : vals 400 200 = stats := by kernel_rfl
def staL (st : Int) (r : List UInt8) : List Int → Int → Int × Int × Int
  | [], e => (0, st, e)
  | t :: ts, e => bif litE r (lineT t) == 0 then (litK r (lineT t), t, 0) else bif litE r (lineT t) == 2 then staL st r ts 2 else staL st r ts e
theorem staF_L (st : Int) (r : List UInt8) : ∀ (k : Nat) (t e : Int), staF st r k t e = staL st r (vals k t) e
  | 0, _, _ => rfl
  | k + 1, t, e => by
    unfold staF vals
    cases h : wordsN t == []
    · rw [xF, xF, staF_L st r k, staF_L st r k]; rfl
    · rw [xT, xT, staF_L st r k]
theorem st_dist : stats.all (fun n => stats.all fun t => n == t || !((lineT n).take 3 == (lineT t).take 3)) = true := by kernel_rfl
theorem st_len3 : stats.all (fun n => decide (3 ≤ (lineT n).length)) = true := by kernel_rfl
theorem st_words : stats.all (fun n => !(wordsN n == [])) = true := by kernel_rfl
theorem st_ne {n t : Int} (hn : n ∈ stats) (ht : t ∈ stats) (h : n ≠ t) (x y : List UInt8) : lineT n ++ x ≠ lineT t ++ y := by
  intro e
  have h1 : 3 ≤ (lineT n).length := of_decide_eq_true (List.all_eq_true.1 st_len3 n hn)
  have h2 : 3 ≤ (lineT t).length := of_decide_eq_true (List.all_eq_true.1 st_len3 t ht)
  have h3 := List.all_eq_true.1 (List.all_eq_true.1 st_dist n hn) t ht
  have e := congrArg (List.take 3) e
  rw [List.take_append_of_le_length h1, List.take_append_of_le_length h2] at e
  rw [e, beq_eq_false_iff_ne.2 h] at h3
  simp at h3
theorem staL_fwd {st n : Int} (hn : n ∈ stats) (x : List UInt8) : ∀ (ts : List Int) (e : Int), n ∈ ts → (∀ t, t ∈ ts → t ∈ stats) → staL st (lineT n ++ x) ts e = (((lineT n).length : Int), n, 0)
  | [], _, h, _ => absurd h (by simp)
  | t :: ts, e, h, hs => by
    unfold staL
    by_cases ht : t = n
    · subst ht
      rw [litE_app, litK_app]; rfl
    · have h0 : (litE (lineT n ++ x) (lineT t) == 0) = false := beq_eq_false_iff_ne.2 fun h => by
        obtain ⟨y, hy⟩ := lit_inv h
        exact st_ne hn (hs t (List.mem_cons_self ..)) (fun e => ht e.symm) x y hy
      have hm : n ∈ ts := by
        rcases List.mem_cons.1 h with h | h
        · exact absurd h.symm ht
        · exact h
      have h2 := fun t ht => hs t (List.mem_cons_of_mem _ ht)
      rw [h0, xF, staL_fwd hn x ts 2 hm h2, staL_fwd hn x ts e hm h2]
      cases litE (lineT n ++ x) (lineT t) == 2 <;> rfl
theorem staL_inv {st : Int} {r : List UInt8} : ∀ (ts : List Int) (e : Int), e ≠ 0 → (staL st r ts e).2.2 = 0 → ∃ n x, n ∈ ts ∧ r = lineT n ++ x ∧ staL st r ts e = (((lineT n).length : Int), n, 0)
  | [], e, he, h => absurd h he
  | t :: ts, e, he, h => by
    unfold staL at h ⊢
    cases h0 : litE r (lineT t) == 0
    · rw [h0, xF] at h
      rw [xF]
      cases h2 : litE r (lineT t) == 2
      · rw [h2, xF] at h
        obtain ⟨n, x, a, b, c⟩ := staL_inv ts e he h
        exact ⟨n, x, List.mem_cons_of_mem _ a, b, by rw [xF]; exact c⟩
      · rw [h2, xT] at h
        obtain ⟨n, x, a, b, c⟩ := staL_inv ts 2 (by decide) h
        exact ⟨n, x, List.mem_cons_of_mem _ a, b, by rw [xT]; exact c⟩
    · obtain ⟨x, rfl⟩ := lit_inv (beq_iff_eq.1 h0)
      exact ⟨t, x, List.mem_cons_self .., rfl, by rw [xT, litK_app]⟩
theorem staL_pp {st n : Int} {r : List UInt8} (hn : n ∈ stats) (hp : PP r (lineT n)) : ∀ (ts : List Int) (e : Int), (∀ t, t ∈ ts → t ∈ stats) → (e = 2 ∨ n ∈ ts) → (staL st r ts e).2.2 = 2
  | [], e, _, h => by
    rcases h with h | h
    · exact h
    · exact absurd h (by simp)
  | t :: ts, e, hs, h => by
    unfold staL
    have h2 := fun t ht => hs t (List.mem_cons_of_mem _ ht)
    by_cases ht : t = n
    · subst ht
      rw [litE_pp hp]
      show (staL st r ts 2).2.2 = 2
      exact staL_pp hn hp ts 2 h2 (.inl rfl)
    · have h0 : (litE r (lineT t) == 0) = false := beq_eq_false_iff_ne.2 fun h => by
        obtain ⟨y, hy⟩ := lit_inv h
        obtain ⟨u, _, hu⟩ := hp
        refine st_ne hn (hs t (List.mem_cons_self ..)) (fun e => ht e.symm) [] (y ++ u) ?_
        rw [List.append_nil, ← hu, hy, List.append_assoc]
      rw [h0, xF]
      cases litE r (lineT t) == 2
      · refine staL_pp hn hp ts e h2 (h.imp_right fun h => ?_)
        rcases List.mem_cons.1 h with h | h
        · exact absurd h.symm ht
        · exact h
      · exact staL_pp hn hp ts 2 h2 (.inl rfl)
theorem staL_err {st : Int} {r : List UInt8} : ∀ (ts : List Int) (e : Int), (e = 1 ∨ e = 2) → ((staL st r ts e).2.2 = 0 ∨ (staL st r ts e).2.2 = 1 ∨ (staL st r ts e).2.2 = 2)
  | [], e, h => .inr h
  | t :: ts, e, h => by
    unfold staL
    cases litE r (lineT t) == 0
    · cases litE r (lineT t) == 2
      · exact staL_err ts e h
      · exact staL_err ts 2 (.inr rfl)
    · exact .inl rfl
theorem statT_eq (n : Int) : statT n = lineB ++ lineT n := by unfold statT lineT; simp only [List.append_assoc]
theorem staN_eq (st : Int) (x : List UInt8) : staN st (lineB ++ x) = (9 + (staL st x stats 1).1, (staL st x stats 1).2) := by
  unfold staN
  rw [litE_app, litK_app]
  show ((9 : Int) + (staF st ((lineB ++ x).drop 9) 400 200 1).1, (staF st ((lineB ++ x).drop 9) 400 200 1).2) = _
  have e : (lineB ++ x).drop 9 = x := rfl
  rw [e, staF_L, vals_all]
theorem lineB_len : lineB.length = 9 := rfl
theorem staN_fwd {n : Int} (hn : n ∈ stats) (st : Int) (x : List UInt8) : staN st (statT n ++ x) = (((statT n).length : Int), n, 0) := by
  rw [statT_eq, List.append_assoc, staN_eq, staL_fwd hn x stats 1 hn fun _ h => h, List.length_append, lineB_len]
  show ((9 : Int) + _, _) = _
  rw [Int.natCast_add]; rfl
theorem staN_inv {st : Int} {r : List UInt8} (h : (staN st r).2.2 = 0) : ∃ n x, n ∈ stats ∧ r = statT n ++ x ∧ staN st r = (((statT n).length : Int), n, 0) := by
  rcases Int.decEq (litE r lineB) 0 with h0 | h0
  · have e : staN st r = (litK r lineB, st, litE r lineB) := by unfold staN; rw [bne_iff_ne.2 h0]; rfl
    rw [e] at h
    exact absurd h h0
  · obtain ⟨x, rfl⟩ := lit_inv h0
    rw [staN_eq] at h
    obtain ⟨n, y, a, b, c⟩ := staL_inv stats 1 (by decide) h
    subst b
    refine ⟨n, y, a, by rw [statT_eq, List.append_assoc], ?_⟩
    have := staN_fwd a st y
    rw [statT_eq, List.append_assoc] at this
    rw [this, statT_eq]
theorem staN_pp {st n : Int} {r : List UInt8} (hn : n ∈ stats) (hp : PP r (statT n)) : (staN st r).2.2 = 2 := by
  rw [statT_eq] at hp
  rcases pp_app hp with h | ⟨x, rfl, h⟩
  · have h0 := litE_pp h
    unfold staN
    rw [h0]; rfl
  · rw [staN_eq]
    exact staL_pp hn h stats 1 (fun _ h => h) (.inr hn)
theorem staN_err (st : Int) (r : List UInt8) : (staN st r).2.2 = 0 ∨ (staN st r).2.2 = 1 ∨ (staN st r).2.2 = 2 := by
  rcases Int.decEq (litE r lineB) 0 with h0 | h0
  · have e : staN st r = (litK r lineB, st, litE r lineB) := by unfold staN; rw [bne_iff_ne.2 h0]; rfl
    rw [e]
    exact lit_cases r lineB
  · obtain ⟨x, rfl⟩ := lit_inv h0
    rw [staN_eq]
    exact staL_err stats 1 (.inl rfl)
end Nice
namespace Nice
open Go Go.Eng
theorem numV_snoc (s : List UInt8) (c : UInt8) : numV (s ++ [c]) = numV s * 10 + (c.toNat - 48) := by
  unfold numV; rw [List.foldl_append]; rfl
theorem allDig_snoc (s : List UInt8) (c : UInt8) : allDig (s ++ [c]) = (allDig s && isDig c) := by
  unfold allDig; rw [List.all_append]; simp
theorem digOf {k : Nat} (h : k < 10) : (UInt8.ofNat (48 + k)).toNat = 48 + k := by
  rw [UInt8.toNat_ofNat']; omega
theorem isDig_of {k : Nat} (h : k < 10) : isDig (UInt8.ofNat (48 + k)) = true := by
  rw [isDig_iff, digOf h]; omega
theorem dec_ok (u : Nat) : allDig (Lib.decDigits u) = true ∧ numV (Lib.decDigits u) = u ∧ Lib.decDigits u ≠ [] ∧ (1 ≤ u → (Lib.decDigits u).getD 0 0 ≠ 48) := by
  induction u using Nat.strongRecOn with
  | _ u ih =>
    by_cases h : u < 10
    · rw [Lib.decDigits_one h]
      refine ⟨?_, ?_, by simp, fun h1 e => ?_⟩
      · show (isDig (UInt8.ofNat (48 + u)) && true) = true
        rw [isDig_of h]; rfl
      · show 0 * 10 + ((UInt8.ofNat (48 + u)).toNat - 48) = u
        rw [digOf h]; omega
      · have := congrArg UInt8.toNat (show UInt8.ofNat (48 + u) = 48 from e)
        rw [digOf h] at this
        have e2 : (48 : UInt8).toNat = 48 := rfl
        omega
    · obtain ⟨i1, i2, i3, i4⟩ := ih (u / 10) (by omega)
      rw [Lib.decDigits, dif_neg h]
      refine ⟨?_, ?_, by simp, fun _ => ?_⟩
      · rw [allDig_snoc, i1, isDig_of (by omega)]; rfl
      · rw [numV_snoc, i2, digOf (by omega)]; omega
      · have := i4 (by omega)
        revert this i3
        generalize Lib.decDigits (u / 10) = d
        intro i3 this
        cases d with
        | nil => exact absurd rfl i3
        | cons c r => exact this
theorem fmtN_nat (u : Nat) : fmtN (u : Int) = Lib.decDigits u := by
  show Lib.itoa (u : Int) = _
  unfold Lib.itoa; rw [if_neg (by omega)]; rfl
theorem parse_dig : ∀ (s : List UInt8) (a : Nat), allDig s = true → a * 10 ^ s.length + 10 ^ s.length ≤ 10 ^ 18 → Lib.parseUint10 a s = .ok (s.foldl (fun n c => n * 10 + (c.toNat - 48)) a)
  | [], a, _, _ => rfl
  | c :: r, a, h, hb => by
    simp only [allDig, List.all_cons, Bool.and_eq_true] at h
    have hd := isDig_iff.1 h.1
    have hp : 1 ≤ 10 ^ r.length := Nat.one_le_pow _ _ (by decide)
    have hb' : (a * 10 + 10) * 10 ^ r.length ≤ 10 ^ 18 := by
      rw [List.length_cons, Nat.pow_succ] at hb
      have e : (a * 10 + 10) * 10 ^ r.length = a * (10 ^ r.length * 10) + 10 ^ r.length * 10 := by
        rw [Nat.add_mul, Nat.mul_assoc, Nat.mul_comm 10 (10 ^ r.length)]
      omega
    have ha : a * 10 + 10 ≤ 10 ^ 18 := Nat.le_trans (Nat.le_mul_of_pos_right _ hp) hb'
    simp only [Lib.parseUint10]
    rw [if_pos hd, if_neg (by omega), if_neg (by omega)]
    rw [parse_dig r _ h.2 ?_]
    · rfl
    · refine Nat.le_trans ?_ hb'
      rw [← Nat.succ_mul]
      exact Nat.mul_le_mul_right _ (by omega)
theorem fold_lt : ∀ (s : List UInt8) (a : Nat), allDig s = true → s.foldl (fun n c => n * 10 + (c.toNat - 48)) a < (a + 1) * 10 ^ s.length := by
  intro s
  induction s with
  | nil => intro a _; simp
  | cons c s ih =>
    intro a h
    simp only [allDig, List.all_cons, Bool.and_eq_true] at h
    have hd := isDig_iff.1 h.1
    refine Nat.lt_of_lt_of_le (ih (a * 10 + (c.toNat - 48)) h.2) ?_
    rw [List.length_cons, Nat.pow_succ, Nat.mul_comm (10 ^ s.length) 10, ← Nat.mul_assoc]
    exact Nat.mul_le_mul_right _ (by omega)
theorem numV_lt {s : List UInt8} (h : allDig s = true) : numV s < 10 ^ s.length := by
  have := fold_lt s 0 h
  simpa [numV] using this
theorem fold_ge : ∀ (s : List UInt8) (a : Nat), a ≤ s.foldl (fun n c => n * 10 + (c.toNat - 48)) a
  | [], a => Nat.le_refl _
  | c :: s, a => Nat.le_trans (by omega) (fold_ge s (a * 10 + (c.toNat - 48)))
theorem numV_app_le (a b : List UInt8) : numV a ≤ numV (a ++ b) := by
  unfold numV
  rw [List.foldl_append]
  exact fold_ge b _
/-- up to 17 digits -/
theorem atoi_dig {s : List UInt8} (h : allDig s = true) (h1 : 1 ≤ s.length) (h6 : s.length ≤ 17) : atoiN s = ((numV s : Int), true) := by
  cases s with
  | nil => simp at h1
  | cons c r =>
    have hd : 48 ≤ c.toNat ∧ c.toNat ≤ 57 := by
      simp only [allDig, List.all_cons, Bool.and_eq_true] at h
      exact isDig_iff.1 h.1
    have hp : (10 : Nat) ^ (c :: r).length ≤ 10 ^ 17 := Nat.pow_le_pow_right (by decide) h6
    have e : Lib.parseMag (c :: r) = .ok (numV (c :: r)) := by
      unfold Lib.parseMag
      rw [if_neg (by simp), parse_dig (c :: r) 0 h (by omega)]
      rfl
    have hlt := numV_lt h
    unfold atoiN
    rw [Lib.atoiAll_plain c r (by omega) (by omega), e]
    simp only [Lib.signless]
    rw [if_neg (by omega)]
theorem atoi_nil : (atoiN []).1 = 0 := by kernel_rfl
/-- no nought ahead -/
def plainD (d : List UInt8) : Prop := d ≠ [] ∧ (d.length = 1 ∨ d.getD 0 0 ≠ 48)
theorem numV_pos {d : List UInt8} (h : allDig d = true) (h0 : d ≠ []) (h1 : d.getD 0 0 ≠ 48) : 1 ≤ numV d := by
  cases d with
  | nil => exact absurd rfl h0
  | cons c r =>
    simp only [allDig, List.all_cons, Bool.and_eq_true] at h
    have hd := isDig_iff.1 h.1
    have hc : c.toNat ≠ 48 := fun e => h1 (UInt8.toNat_inj.1 e)
    have := fold_ge r (0 * 10 + (c.toNat - 48))
    show 1 ≤ r.foldl (fun n c => n * 10 + (c.toNat - 48)) (0 * 10 + (c.toNat - 48))
    omega
theorem dec_inv : ∀ (k : Nat) (d : List UInt8), d.length = k → allDig d = true → plainD d → Lib.decDigits (numV d) = d := by
  intro k
  induction k with
  | zero => intro d hl _ hp; exact absurd (List.eq_nil_of_length_eq_zero hl) hp.1
  | succ k ih =>
    intro d hl ha hp
    obtain ⟨e, c, rfl⟩ : ∃ e c, d = e ++ [c] := ⟨d.dropLast, d.getLast hp.1, (List.dropLast_concat_getLast hp.1).symm⟩
    rw [List.length_append, List.length_singleton] at hl
    rw [allDig_snoc, Bool.and_eq_true] at ha
    have hc := isDig_iff.1 ha.2
    have hof : UInt8.ofNat (48 + (c.toNat - 48)) = c := by rw [show 48 + (c.toNat - 48) = c.toNat by omega]; exact UInt8.ofNat_toNat
    rw [numV_snoc]
    by_cases he : e = []
    · subst he
      show Lib.decDigits (0 * 10 + (c.toNat - 48)) = [c]
      rw [Lib.decDigits_one (by omega), show 48 + (0 * 10 + (c.toNat - 48)) = 48 + (c.toNat - 48) by omega, hof]
    · have hl2 : e.length ≠ 0 := fun h => he (List.eq_nil_of_length_eq_zero h)
      have hg : (e ++ [c]).getD 0 0 = e.getD 0 0 := by
        cases e with
        | nil => exact absurd rfl he
        | cons x r => rfl
      have h48 : e.getD 0 0 ≠ 48 := by
        rcases hp.2 with h | h
        · rw [List.length_append, List.length_singleton] at h; omega
        · rw [hg] at h; exact h
      have hpos := numV_pos ha.1 he h48
      rw [Lib.decDigits, dif_neg (by omega), show (numV e * 10 + (c.toNat - 48)) / 10 = numV e by omega, show (numV e * 10 + (c.toNat - 48)) % 10 = c.toNat - 48 by omega, ih e (by omega) ha.1 ⟨he, .inr h48⟩, hof]
theorem dec_plain (u : Nat) : plainD (Lib.decDigits u) := by
  obtain ⟨_, _, h3, h4⟩ := dec_ok u
  refine ⟨h3, ?_⟩
  by_cases h : u < 10
  · exact .inl (by rw [Lib.decDigits_one h]; rfl)
  · exact .inr (h4 (by omega))
theorem dec_len {k : Nat} (h : k ≤ 20000) : (Lib.decDigits k).length ≤ 5 := by
  rw [Lib.decDigits_length]
  have key : ∀ (m u : Nat), u < 10 ^ (m + 1) → Lib.nDigits u ≤ m + 1 := by
    intro m
    induction m with
    | zero => intro u hu; rw [Lib.nDigits_small (by simpa using hu)]; exact Nat.le_refl _
    | succ m ih =>
      intro u hu
      by_cases h1 : u < 10
      · rw [Lib.nDigits_small h1]; omega
      · rw [Lib.nDigits_big h1]
        have := ih (u / 10) (by rw [Nat.pow_succ] at hu; omega)
        omega
  exact key 4 k (by omega)
end Nice
namespace Nice
open Go Go.Eng
theorem split_run (p : UInt8 → Bool) : ∀ r : List UInt8, ∃ a b, r = a ++ b ∧ a.all p = true ∧ b.takeWhile p = []
  | [] => ⟨[], [], rfl, rfl, rfl⟩
  | c :: r => by
    obtain ⟨a, b, e, h1, h2⟩ := split_run p r
    cases hc : p c
    · exact ⟨[], c :: r, rfl, rfl, by rw [List.takeWhile_cons, hc]; rfl⟩
    · exact ⟨c :: a, b, by rw [e]; rfl, by rw [List.all_cons, hc, h1]; rfl, h2⟩
theorem run_app (k : Nat) {a b : List UInt8} (ha : a.all (kindB k) = true) (hb : b.takeWhile (kindB k) = []) : runLN k (a ++ b) = (a.length : Int) := by
  unfold runLN
  rw [List.takeWhile_append_of_pos (fun c hc => List.all_eq_true.1 ha c hc), hb, List.append_nil]
theorem stop_cons {p : UInt8 → Bool} {c : UInt8} {t : List UInt8} (h : p c = false) : (c :: t).takeWhile p = [] := by rw [List.takeWhile_cons, h]; rfl
theorem kind137 : kindB 137 = isDig := by funext c; rfl
theorem pre32 : ∀ s : List UInt8, hasPre s [32] = (decide (1 ≤ s.length) && s.getD 0 0 == 32)
  | [] => rfl
  | c :: r => by
    unfold hasPre
    have e : (List.take ([32] : List UInt8).length (c :: r) == [32]) = (c == 32) := by
      show ([c] == [32]) = _
      cases h : c == 32
      · rw [beq_eq_false_iff_ne] at h ⊢
        intro e; exact h (List.cons.inj e).1
      · rw [beq_iff_eq.1 h]; rfl
    rw [e]; rfl
theorem suf32 (s : List UInt8) : hasSuf s [32] = (decide (1 ≤ s.length) && s.getD (s.length - 1) 0 == 32) := by
  unfold hasSuf
  by_cases h : 1 ≤ s.length
  · have hl : s.length - 1 < s.length := by omega
    have e : s.drop (s.length - ([32] : List UInt8).length) = [s.getD (s.length - 1) 0] := by
      show s.drop (s.length - 1) = _
      rw [List.drop_eq_getElem_cons hl, List.getD_eq_getElem?_getD, List.getElem?_eq_getElem hl]
      rw [show s.length - 1 + 1 = s.length by omega, List.drop_length]; rfl
    rw [e]
    show (decide (1 ≤ s.length) && _) = _
    congr 1
    cases h : s.getD (s.length - 1) 0 == 32
    · rw [beq_eq_false_iff_ne] at h ⊢
      intro e; exact h (List.cons.inj e).1
    · rw [beq_iff_eq.1 h]; rfl
  · rw [show decide (([32] : List UInt8).length ≤ s.length) = false from decide_eq_false h, decide_eq_false h]; rfl
theorem nat32 (c : UInt8) : (c.toNat == 32) = (c == 32) := by
  rw [Bool.eq_iff_iff, beq_iff_eq, beq_iff_eq]
  exact ⟨fun h => UInt8.toNat_inj.1 h, fun h => by rw [h]; rfl⟩
theorem ends_eq (v : List UInt8) : endsB v = (!hasPre v [32] && !hasSuf v [32]) := by
  rw [pre32, suf32]
  unfold endsB
  rw [nat32, nat32]
  cases v with
  | nil => rfl
  | cons c r => 
    rw [decide_eq_true (show 1 ≤ (c :: r).length by rw [List.length_cons]; omega)]
    rfl
/-- a value -/
structure ValK (v : List UInt8) : Prop where
  l : v.length ≤ 100
  p : v.all prB = true
  h : hasPre v [32] = false
  s : hasSuf v [32] = false
/-- a name -/
structure NamK (n : List UInt8) : Prop where
  l0 : 1 ≤ n.length
  l : n.length ≤ 30
  p : n.all tokB = true
  r : resN n = false
theorem headB_iff {n v : List UInt8} : headB (n, v, ()) = true ↔ NamK n ∧ ValK v := by
  unfold headB
  rw [trim_ends, ends_eq]
  simp only [Bool.and_eq_true, decide_eq_true_eq, Bool.not_eq_true']
  constructor
  · rintro ⟨⟨⟨a, b⟩, c, d⟩, e, f, g, h⟩
    exact ⟨⟨a, b, c, d⟩, ⟨e, f, g, h⟩⟩
  · rintro ⟨⟨a, b, c, d⟩, ⟨e, f, g, h⟩⟩
    exact ⟨⟨⟨a, b⟩, c, d⟩, e, f, g, h⟩
/-! ### values -/
theorem valC_eq {v x : List UInt8} (h1 : v.all prB = true) (h2 : x.takeWhile prB = []) : valC (v ++ x) = bif decide (v.length > 100) then (0, [], 1) else bif hasPre v [32] then (0, [], 1) else bif x == [] then (bif v.length == 100 && hasSuf v [32] then (0, [], 1) else (0, [], 2)) else bif hasSuf v [32] then (0, [], 1) else ((v.length : Int) + litK x [13, 10], v, litE x [13, 10]) := by
  unfold valC valM
  rw [run_app 66 (by rw [kind66]; exact h1) (by rw [kind66]; exact h2)]
  have e1 : (v ++ x).take ((v.length : Int)).toNat = v := by show (v ++ x).take v.length = v; simp
  have e2 : (v ++ x).drop ((v.length : Int)).toNat = x := by show (v ++ x).drop v.length = x; simp
  have e3 : ((v.length : Int) == ((v ++ x).length : Int)) = (x == []) := by
    rw [Bool.eq_iff_iff, beq_iff_eq, beq_iff_eq, List.length_append]
    constructor
    · intro h; exact List.eq_nil_of_length_eq_zero (by omega)
    · rintro rfl; simp
  have e4 : decide ((v.length : Int) > 100) = decide (v.length > 100) := decide_eq_decide.2 (by omega)
  have e5 : ((v.length : Int) == 100) = (v.length == 100) := by rw [Bool.eq_iff_iff, beq_iff_eq, beq_iff_eq]; omega
  rw [e1, e2, e3, e4, e5]
theorem valC_fwd {v : List UInt8} (k : ValK v) (x : List UInt8) : valC (v ++ ([13, 10] ++ x)) = ((v.length : Int) + 2, v, 0) := by
  rw [valC_eq (x := [13, 10] ++ x) k.p (stop_cons (c := 13) (t := 10 :: x) rfl), cdF (by have := k.l; omega), k.h, k.s, litE_app, litK_app]
  rfl
theorem all_sub {p : UInt8 → Bool} {a b c : List UInt8} (h : a ++ b = c) (hc : c.all p = true) : a.all p = true := by
  rw [← h, List.all_append, Bool.and_eq_true] at hc
  exact hc.1
theorem pre_sub {a b c w : List UInt8} (h : a ++ b = c) (hc : hasPre c w = false) : hasPre a w = false := by
  cases e : hasPre a w
  · rfl
  · obtain ⟨t, rfl⟩ := pre_iff.1 e
    rw [← h, List.append_assoc, pre_app] at hc
    cases hc
theorem pp_head {r : List UInt8} {c : UInt8} {t : List UInt8} (h : PP r (c :: t)) : r = [] ∨ ∃ r', r = c :: r' ∧ PP r' t := by
  obtain ⟨u, hu, e⟩ := h
  cases r with
  | nil => exact .inl rfl
  | cons d r' =>
    have e2 := List.cons.inj e
    obtain ⟨e3, e4⟩ := e2
    subst e3
    exact .inr ⟨r', rfl, u, hu, e4⟩
theorem valC_pp {v r : List UInt8} (k : ValK v) (hp : PP r (v ++ [13, 10])) : (valC r).2.2 = 2 := by
  rcases pp_app hp with h | ⟨x, rfl, h⟩
  · have hl := pp_len h
    have hk := k.l
    obtain ⟨u, hu, e⟩ := h
    have e0 := valC_eq (v := r) (x := []) (all_sub e k.p) rfl
    rw [List.append_nil] at e0
    rw [e0, cdF (by omega), pre_sub e k.h, show (r.length == 100) = false from beq_eq_false_iff_ne.2 (by omega)]
    rfl
  · rcases pp_head h with rfl | ⟨y, rfl, h'⟩
    · rw [valC_eq k.p rfl, cdF (by have := k.l; omega), k.h, k.s, Bool.and_false]
      rfl
    · rw [valC_eq k.p (stop_cons rfl), cdF (by have := k.l; omega), k.h, k.s, litE_pp h]
      rfl
theorem valC_inv {r : List UInt8} (h : (valC r).2.2 = 0) : ∃ v x, ValK v ∧ r = v ++ ([13, 10] ++ x) ∧ valC r = ((v.length : Int) + 2, v, 0) := by
  obtain ⟨v, x, rfl, h1, h2⟩ := split_run prB r
  have e := valC_eq h1 h2
  rw [e] at h
  cases c1 : decide (v.length > 100)
  case true => rw [c1] at h; exact absurd (show (1 : Int) = 0 from h) (by decide)
  cases c2 : hasPre v [32]
  case true => rw [c1, c2] at h; exact absurd (show (1 : Int) = 0 from h) (by decide)
  cases c3 : x == []
  case true =>
    rw [c1, c2, c3] at h
    cases c4 : v.length == 100 && hasSuf v [32]
    · rw [c4] at h; exact absurd (show (2 : Int) = 0 from h) (by decide)
    · rw [c4] at h; exact absurd (show (1 : Int) = 0 from h) (by decide)
  cases c4 : hasSuf v [32]
  case true => rw [c1, c2, c3, c4] at h; exact absurd (show (1 : Int) = 0 from h) (by decide)
  rw [c1, c2, c3, c4] at h
  obtain ⟨y, rfl⟩ := lit_inv (show litE x [13, 10] = 0 from h)
  have k : ValK v := ⟨by have := of_decide_eq_false c1; omega, h1, c2, c4⟩
  exact ⟨v, y, k, rfl, valC_fwd k y⟩
theorem valC_err (r : List UInt8) : (valC r).2.2 = 0 ∨ (valC r).2.2 = 1 ∨ (valC r).2.2 = 2 := by
  obtain ⟨v, x, rfl, h1, h2⟩ := split_run prB r
  rw [valC_eq h1 h2]
  cases decide (v.length > 100)
  case true => exact .inr (.inl rfl)
  cases hasPre v [32]
  case true => exact .inr (.inl rfl)
  cases x == []
  case true =>
    cases v.length == 100 && hasSuf v [32]
    · exact .inr (.inr rfl)
    · exact .inr (.inl rfl)
  cases hasSuf v [32]
  case true => exact .inr (.inl rfl)
  exact lit_cases x [13, 10]
/-! ### lengths -/
theorem sizN_eq (bo : Int) {d x : List UInt8} (h1 : d.all isDig = true) (h2 : x.takeWhile isDig = []) : sizN bo ([58, 32] ++ (d ++ x)) =
    bif decide (d.length > 5) then (2, bo, 1) else bif decide (d.length > 1) && d.getD 0 0 == 48 then (2, bo, 1) else bif decide ((atoiN d).1 > 20000) then (2, (atoiN d).1, 1) else bif x == [] then (2, (atoiN d).1, 2) else bif d == [] then (2, (atoiN d).1, 1) else (2 + (d.length : Int) + litK x crlf2, (atoiN d).1, litE x crlf2) := by
  unfold sizN
  rw [litE_app, litK_app]
  show sizM bo (([58, 32] ++ (d ++ x)).drop 2) (runLN 137 (([58, 32] ++ (d ++ x)).drop 2)) 2 = _
  have e0 : ([58, 32] ++ (d ++ x) : List UInt8).drop 2 = d ++ x := rfl
  rw [e0, run_app 137 (by rw [kind137]; exact h1) (by rw [kind137]; exact h2)]
  unfold sizM sizV
  have e1 : (d ++ x).take ((d.length : Int)).toNat = d := by show (d ++ x).take d.length = d; simp
  have e2 : (d ++ x).drop ((d.length : Int)).toNat = x := by show (d ++ x).drop d.length = x; simp
  have e3 : ((d.length : Int) == ((d ++ x).length : Int)) = (x == []) := by
    rw [Bool.eq_iff_iff, beq_iff_eq, beq_iff_eq, List.length_append]
    constructor
    · intro h; exact List.eq_nil_of_length_eq_zero (by omega)
    · rintro rfl; simp
  have e4 : decide ((d.length : Int) > 5) = decide (d.length > 5) := decide_eq_decide.2 (by omega)
  have e5 : ((d.length : Int) == 0) = (d == []) := by
    rw [Bool.eq_iff_iff, beq_iff_eq, beq_iff_eq]
    constructor
    · intro h; exact List.eq_nil_of_length_eq_zero (by omega)
    · rintro rfl; rfl
  have e6 : (decide ((d.length : Int) > 1) && (((d ++ x).getD 0 0).toNat : Int) == 48) = (decide (d.length > 1) && d.getD 0 0 == 48) := by
    by_cases hl : d.length > 1
    · rw [decide_eq_true hl, decide_eq_true (show (d.length : Int) > 1 by omega), Bool.true_and, Bool.true_and]
      cases d with
      | nil => simp at hl
      | cons c r =>
        show ((c.toNat : Int) == 48) = (c == 48)
        rw [Bool.eq_iff_iff, beq_iff_eq, beq_iff_eq]
        constructor
        · intro h; exact UInt8.toNat_inj.1 (show c.toNat = 48 by omega)
        · rintro rfl; rfl
    · rw [decide_eq_false hl, decide_eq_false (show ¬ (d.length : Int) > 1 by omega)]; rfl
  rw [e1, e2, e3, e4, e5, e6]
theorem dig_sub {a b : List UInt8} {k : Nat} (h : a ++ b = Lib.decDigits k) (hk : k ≤ 20000) : a.all isDig = true ∧ a.length ≤ 5 ∧ (decide (a.length > 1) && a.getD 0 0 == 48) = false ∧ (atoiN a).1 ≤ 20000 := by
  obtain ⟨d1, d2, d3, d4⟩ := dec_ok k
  have hl := dec_len hk
  have ha : allDig a = true := all_sub h d1
  have hle : a.length ≤ 5 := by rw [← h, List.length_append] at hl; omega
  refine ⟨ha, hle, ?_, ?_⟩
  · by_cases h1 : a.length > 1
    · rw [decide_eq_true h1, Bool.true_and, beq_eq_false_iff_ne]
      intro e
      have hp := dec_plain k
      rw [← h] at hp
      rcases hp.2 with h2 | h2
      · rw [List.length_append] at h2; omega
      · refine h2 ?_
        cases a with
        | nil => simp at h1
        | cons c r => exact e
    · rw [decide_eq_false h1]; rfl
  · by_cases h0 : a = []
    · subst h0; rw [atoi_nil]; decide
    · have h1 : 1 ≤ a.length := List.length_pos_iff.2 h0
      rw [atoi_dig ha h1 (by omega)]
      have := numV_app_le a b
      rw [h, d2] at this
      show (numV a : Int) ≤ 20000
      omega
theorem sizN_fwd (bo : Int) {k : Nat} (hk : k ≤ 20000) (x : List UInt8) : sizN bo ([58, 32] ++ (Lib.decDigits k ++ (crlf2 ++ x))) = (2 + ((Lib.decDigits k).length : Int) + 4, (k : Int), 0) := by
  obtain ⟨d1, d2, d3, d4⟩ := dec_ok k
  obtain ⟨s1, s2, s3, s4⟩ := dig_sub (a := Lib.decDigits k) (b := []) (by rw [List.append_nil]) hk
  have h1 : 1 ≤ (Lib.decDigits k).length := List.length_pos_iff.2 d3
  rw [sizN_eq bo (x := crlf2 ++ x) d1 (stop_cons (c := 13) rfl), cdF (by omega), s3, xF, cdF (by omega), litE_app, litK_app, show (Lib.decDigits k == []) = false from beq_eq_false_iff_ne.2 d3, atoi_dig d1 h1 (by omega), d2]
  rfl
theorem sizN_pp (bo : Int) {k : Nat} {r : List UInt8} (hk : k ≤ 20000) (hp : PP r ([58, 32] ++ (Lib.decDigits k ++ crlf2))) : (sizN bo r).2.2 = 2 := by
  rcases pp_app hp with h | ⟨x, rfl, h⟩
  · have := litE_pp h
    unfold sizN
    rw [this]; rfl
  · rcases pp_app h with h1 | ⟨y, rfl, h2⟩
    · obtain ⟨u, hu, e⟩ := h1
      obtain ⟨s1, s2, s3, s4⟩ := dig_sub e hk
      have := sizN_eq bo (d := x) (x := []) s1 rfl
      rw [List.append_nil] at this
      rw [this, cdF (by omega), s3, xF, cdF (by omega)]
      rfl
    · obtain ⟨d1, d2, d3, d4⟩ := dec_ok k
      obtain ⟨s1, s2, s3, s4⟩ := dig_sub (a := Lib.decDigits k) (b := []) (by rw [List.append_nil]) hk
      rcases pp_head (show PP y (13 :: [10, 13, 10]) from h2) with rfl | ⟨z, rfl, h'⟩
      · rw [sizN_eq bo d1 rfl, cdF (by omega), s3, xF, cdF (by omega)]
        rfl
      · rw [sizN_eq bo d1 (stop_cons rfl), cdF (by omega), s3, xF, cdF (by omega), show (Lib.decDigits k == []) = false from beq_eq_false_iff_ne.2 d3, litE_pp h2]
        rfl
theorem sizN_inv {bo : Int} {r : List UInt8} (h : (sizN bo r).2.2 = 0) : ∃ (k : Nat) (x : List UInt8), k ≤ 20000 ∧ r = [58, 32] ++ (Lib.decDigits k ++ (crlf2 ++ x)) ∧ sizN bo r = (2 + ((Lib.decDigits k).length : Int) + 4, (k : Int), 0) := by
  rcases Int.decEq (litE r [58, 32]) 0 with h0 | h0
  · have e : sizN bo r = (litK r [58, 32], bo, litE r [58, 32]) := by unfold sizN; rw [bne_iff_ne.2 h0]; rfl
    rw [e] at h
    exact absurd h h0
  · obtain ⟨r1, rfl⟩ := lit_inv h0
    obtain ⟨d, x, rfl, h1, h2⟩ := split_run isDig r1
    rw [sizN_eq bo h1 h2] at h
    cases c1 : decide (d.length > 5)
    case true => rw [c1] at h; exact absurd (show (1 : Int) = 0 from h) (by decide)
    cases c2 : decide (d.length > 1) && d.getD 0 0 == 48
    case true => rw [c1, c2] at h; exact absurd (show (1 : Int) = 0 from h) (by decide)
    cases c3 : decide ((atoiN d).1 > 20000)
    case true => rw [c1, c2, c3] at h; exact absurd (show (1 : Int) = 0 from h) (by decide)
    cases c4 : x == []
    case true => rw [c1, c2, c3, c4] at h; exact absurd (show (2 : Int) = 0 from h) (by decide)
    cases c5 : d == []
    case true => rw [c1, c2, c3, c4, c5] at h; exact absurd (show (1 : Int) = 0 from h) (by decide)
    rw [c1, c2, c3, c4, c5] at h
    obtain ⟨y, rfl⟩ := lit_inv (show litE x crlf2 = 0 from h)
    have hd : d ≠ [] := beq_eq_false_iff_ne.1 c5
    have hl : 1 ≤ d.length := List.length_pos_iff.2 hd
    have hl5 := of_decide_eq_false c1
    have hp : plainD d := ⟨hd, by
      by_cases h1 : d.length > 1
      · rw [decide_eq_true h1, Bool.true_and, beq_eq_false_iff_ne] at c2
        exact .inr c2
      · exact .inl (by omega)⟩
    have hi := dec_inv d.length d rfl h1 hp
    have hv := of_decide_eq_false c3
    rw [atoi_dig h1 hl (by omega)] at hv
    have hk : numV d ≤ 20000 := by
      have hv : ¬ (numV d : Int) > 20000 := hv
      omega
    have hf := sizN_fwd bo hk y
    rw [hi] at hf
    exact ⟨numV d, y, hk, by rw [hi], by rw [hi]; exact hf⟩
theorem sizN_err (bo : Int) (r : List UInt8) : (sizN bo r).2.2 = 0 ∨ (sizN bo r).2.2 = 1 ∨ (sizN bo r).2.2 = 2 := by
  rcases Int.decEq (litE r [58, 32]) 0 with h0 | h0
  · have e : sizN bo r = (litK r [58, 32], bo, litE r [58, 32]) := by unfold sizN; rw [bne_iff_ne.2 h0]; rfl
    rw [e]
    exact lit_cases r [58, 32]
  · obtain ⟨r1, rfl⟩ := lit_inv h0
    obtain ⟨d, x, rfl, h1, h2⟩ := split_run isDig r1
    rw [sizN_eq bo h1 h2]
    cases decide (d.length > 5)
    case true => exact .inr (.inl rfl)
    cases decide (d.length > 1) && d.getD 0 0 == 48
    case true => exact .inr (.inl rfl)
    cases decide ((atoiN d).1 > 20000)
    case true => exact .inr (.inl rfl)
    cases x == []
    case true => exact .inr (.inr rfl)
    cases d == []
    case true => exact .inr (.inl rfl)
    exact lit_cases x crlf2
end Nice
namespace Nice
open Go Go.Eng
theorem hedN_eq (st bo : Int) (hs : List HeadD) {nm x : List UInt8} (h1 : nm.all tokB = true) (h2 : x.takeWhile tokB = []) : hedN st bo hs (nm ++ x) =
    bif decide (nm.length > 30) then (0, bo, hs, false, 1) else bif x == [] then (0, bo, hs, false, cutRE st hs (nm ++ x)) else bif nm == [] then (0, bo, hs, false, 1) else bif x.getD 0 0 != 58 then (0, bo, hs, false, 1)
    else bif nm == lengthW && st != 204 then ((nm.length : Int) + (sizN bo x).1, (sizN bo x).2.1, hs, true, (sizN bo x).2.2) else hedT bo hs nm x (nm.length : Int) := by
  unfold hedN
  rw [run_app 64 (by rw [kind64]; exact h1) (by rw [kind64]; exact h2)]
  unfold hedM
  have e1 : (nm ++ x).take ((nm.length : Int)).toNat = nm := by show (nm ++ x).take nm.length = nm; simp
  have e2 : (nm ++ x).drop ((nm.length : Int)).toNat = x := by show (nm ++ x).drop nm.length = x; simp
  have e3 : ((nm.length : Int) == ((nm ++ x).length : Int)) = (x == []) := by
    rw [Bool.eq_iff_iff, beq_iff_eq, beq_iff_eq, List.length_append]
    constructor
    · intro h; exact List.eq_nil_of_length_eq_zero (by omega)
    · rintro rfl; simp
  have e4 : decide ((nm.length : Int) > 30) = decide (nm.length > 30) := decide_eq_decide.2 (by omega)
  have e5 : ((nm.length : Int) == 0) = (nm == []) := by
    rw [Bool.eq_iff_iff, beq_iff_eq, beq_iff_eq]
    constructor
    · intro h; exact List.eq_nil_of_length_eq_zero (by omega)
    · rintro rfl; rfl
  have e6 : (nm ++ x).getD ((nm.length : Int)).toNat 0 = x.getD 0 0 := by
    show (nm ++ x).getD nm.length 0 = _
    rw [List.getD_eq_getElem?_getD, List.getElem?_append_right (Nat.le_refl _), Nat.sub_self, List.getD_eq_getElem?_getD]
  have e7 : (((x.getD 0 0).toNat : Int) != 58) = (x.getD 0 0 != 58) := by
    unfold bne
    congr 1
    rw [Bool.eq_iff_iff, beq_iff_eq, beq_iff_eq]
    constructor
    · intro h; exact UInt8.toNat_inj.1 (show (x.getD 0 0).toNat = 58 by omega)
    · intro h; rw [h]; rfl
  rw [e1, e2, e3, e4, e5, e6, e7]
theorem lengthW_res : resN lengthW = true := by kernel_rfl
theorem lengthW_tok : lengthW.all tokB = true := by kernel_rfl
theorem nam_len {n : List UInt8} (k : NamK n) : (n == lengthW) = false := by
  rw [beq_eq_false_iff_ne]
  rintro rfl
  have := k.r
  rw [lengthW_res] at this; cases this
theorem nam_ne {n : List UInt8} (k : NamK n) : (n == []) = false := by
  rw [beq_eq_false_iff_ne]
  rintro rfl
  have := k.l0
  simp at this
theorem hdT_eq (n v : List UInt8) : hdT (n, v, ()) = n ++ ([58, 32] ++ (v ++ [13, 10])) := by
  unfold hdT; simp only [List.append_assoc]
theorem hed_fwd (st bo : Int) {hs : List HeadD} {h : HeadD} (hb : headB h = true) (hl : hs.length < 10) (x : List UInt8) : hedN st bo hs (hdT h ++ x) = (((hdT h).length : Int), bo, hs ++ [h], false, 0) := by
  obtain ⟨n, v, ⟨⟩⟩ := h
  obtain ⟨kn, kv⟩ := headB_iff.1 hb
  have e : hdT (n, v, ()) ++ x = n ++ ([58, 32] ++ (v ++ ([13, 10] ++ x))) := by rw [hdT_eq]; simp only [List.append_assoc]
  have el : ((hdT (n, v, ())).length : Int) = (n.length : Int) + 2 + ((v.length : Int) + 2) := by
    rw [hdT_eq]
    simp only [List.length_append, List.length_cons, List.length_nil]
    omega
  rw [e, hedN_eq st bo hs (x := [58, 32] ++ (v ++ ([13, 10] ++ x))) kn.p (stop_cons (c := 58) rfl), cdF (by have := kn.l; omega), nam_ne kn, nam_len kn]
  show hedT bo hs n ([58, 32] ++ (v ++ ([13, 10] ++ x))) (n.length : Int) = _
  unfold hedT
  rw [kn.r, xF, cdF (by omega), litE_app, litK_app]
  show hedV bo hs n (([58, 32] ++ (v ++ ([13, 10] ++ x))).drop 2) ((n.length : Int) + 2) = _
  have e0 : ([58, 32] ++ (v ++ ([13, 10] ++ x)) : List UInt8).drop 2 = v ++ ([13, 10] ++ x) := rfl
  rw [e0]
  unfold hedV
  rw [valC_fwd kv x, el]
  rfl
theorem cut_lt (st : Int) {hs : List HeadD} (r : List UInt8) (h : hs.length < 10) : cutRE st hs r = 2 := by
  unfold cutRE; rw [cdT (by omega)]
theorem hed_pp (st bo : Int) {hs : List HeadD} {h : HeadD} {r : List UInt8} (hb : headB h = true) (hl : hs.length < 10) (hp : PP r (hdT h)) : (hedN st bo hs r).2.2.2.2 = 2 := by
  obtain ⟨n, v, ⟨⟩⟩ := h
  obtain ⟨kn, kv⟩ := headB_iff.1 hb
  rw [hdT_eq] at hp
  rcases pp_app hp with h | ⟨y, rfl, h⟩
  · have hlt := pp_len h
    have hk := kn.l
    obtain ⟨u, hu, e⟩ := h
    have := hedN_eq st bo hs (nm := r) (x := []) (all_sub e kn.p) rfl
    rw [List.append_nil] at this
    rw [this, cdF (by omega), cut_lt st r hl]
    rfl
  · rcases pp_app h with h' | ⟨z, rfl, h'⟩
    · rcases pp_head h' with rfl | ⟨w, rfl, h2⟩
      · rw [hedN_eq st bo hs kn.p rfl, cdF (by have := kn.l; omega), cut_lt st _ hl]
        rfl
      · rw [hedN_eq st bo hs kn.p (stop_cons rfl), cdF (by have := kn.l; omega), nam_ne kn, nam_len kn]
        show (hedT bo hs n (58 :: w) (n.length : Int)).2.2.2.2 = 2
        unfold hedT
        rw [kn.r, xF, cdF (by omega), litE_pp h']
        rfl
    · rw [hedN_eq st bo hs (x := [58, 32] ++ z) kn.p (stop_cons (c := 58) rfl), cdF (by have := kn.l; omega), nam_ne kn, nam_len kn]
      show (hedT bo hs n ([58, 32] ++ z) (n.length : Int)).2.2.2.2 = 2
      unfold hedT
      rw [kn.r, xF, cdF (by omega), litE_app, litK_app]
      show (hedV bo hs n z ((n.length : Int) + 2)).2.2.2.2 = 2
      unfold hedV
      rw [valC_pp kv h']
      rfl
theorem hed_inv {st bo : Int} {hs : List HeadD} {r : List UInt8} (h0 : (hedN st bo hs r).2.2.2.1 = false) (h : (hedN st bo hs r).2.2.2.2 = 0) : ∃ hd x, headB hd = true ∧ hs.length < 10 ∧ r = hdT hd ++ x := by
  obtain ⟨n, x, rfl, h1, h2⟩ := split_run tokB r
  rw [hedN_eq st bo hs h1 h2] at h0 h
  cases c1 : decide (n.length > 30)
  case true => rw [c1] at h; exact absurd (show (1 : Int) = 0 from h) (by decide)
  cases c2 : x == []
  case true => rw [c1, c2] at h; exact absurd (show cutRE st hs (n ++ x) = 0 from h) (cutRE_ne st hs _)
  cases c3 : n == []
  case true => rw [c1, c2, c3] at h; exact absurd (show (1 : Int) = 0 from h) (by decide)
  cases c4 : x.getD 0 0 != 58
  case true => rw [c1, c2, c3, c4] at h; exact absurd (show (1 : Int) = 0 from h) (by decide)
  cases c5 : n == lengthW && st != 204
  case true => rw [c1, c2, c3, c4, c5] at h0; exact absurd (show true = false from h0) (by decide)
  rw [c1, c2, c3, c4, c5] at h
  have h : (hedT bo hs n x (n.length : Int)).2.2.2.2 = 0 := h
  unfold hedT at h
  cases c6 : resN n
  case true => rw [c6] at h; exact absurd (show (1 : Int) = 0 from h) (by decide)
  cases c7 : decide ((hs.length : Int) ≥ 10)
  case true => rw [c6, c7] at h; exact absurd (show (1 : Int) = 0 from h) (by decide)
  rw [c6, c7, xF, xF] at h
  rcases Int.decEq (litE x [58, 32]) 0 with e | e
  · rw [bne_iff_ne.2 e] at h
    exact absurd (show litE x [58, 32] = 0 from h) e
  · obtain ⟨y, rfl⟩ := lit_inv e
    rw [litE_app, litK_app] at h
    have h : (hedV bo hs n y ((n.length : Int) + 2)).2.2.2.2 = 0 := h
    unfold hedV at h
    have hv : (valC y).2.2 = 0 := by
      cases e : (valC y).2.2 == 0
      · rw [e] at h; exact h
      · exact beq_iff_eq.1 e
    obtain ⟨v, z, kv, rfl, _⟩ := valC_inv hv
    have kn : NamK n := ⟨List.length_pos_iff.2 (beq_eq_false_iff_ne.1 c3), by have := of_decide_eq_false c1; omega, h1, c6⟩
    refine ⟨(n, v, ()), z, headB_iff.2 ⟨kn, kv⟩, by have := of_decide_eq_false c7; omega, ?_⟩
    rw [hdT_eq]; simp only [List.append_assoc]
theorem hed_err (st bo : Int) (hs : List HeadD) (r : List UInt8) : (hedN st bo hs r).2.2.2.2 = 0 ∨ (hedN st bo hs r).2.2.2.2 = 1 ∨ (hedN st bo hs r).2.2.2.2 = 2 := by
  obtain ⟨n, x, rfl, h1, h2⟩ := split_run tokB r
  rw [hedN_eq st bo hs h1 h2]
  cases decide (n.length > 30)
  case true => exact .inr (.inl rfl)
  cases x == []
  case true =>
    show cutRE st hs (n ++ x) = 0 ∨ cutRE st hs (n ++ x) = 1 ∨ cutRE st hs (n ++ x) = 2
    unfold cutRE
    cases decide ((hs.length : Int) < 10)
    · cases (bif st != 204 then hasPre lengthW (n ++ x) else n ++ x == [])
      · exact .inr (.inl rfl)
      · exact .inr (.inr rfl)
    · exact .inr (.inr rfl)
  cases n == []
  case true => exact .inr (.inl rfl)
  cases x.getD 0 0 != 58
  case true => exact .inr (.inl rfl)
  cases n == lengthW && st != 204
  case true => exact sizN_err bo x
  show (hedT bo hs n x (n.length : Int)).2.2.2.2 = 0 ∨ (hedT bo hs n x (n.length : Int)).2.2.2.2 = 1 ∨ (hedT bo hs n x (n.length : Int)).2.2.2.2 = 2
  unfold hedT
  cases resN n
  case true => exact .inr (.inl rfl)
  cases decide ((hs.length : Int) ≥ 10)
  case true => exact .inr (.inl rfl)
  cases litE x [58, 32] != 0
  case true => exact lit_cases x [58, 32]
  show (hedV bo hs n (x.drop (litK x [58, 32]).toNat) ((n.length : Int) + litK x [58, 32])).2.2.2.2 = 0 ∨ _ ∨ _
  unfold hedV
  have := valC_err (x.drop (litK x [58, 32]).toNat)
  cases (valC (x.drop (litK x [58, 32]).toNat)).2.2 == 0
  · exact this
  · exact this
/-! ### the length's line -/
def endL (k : Nat) : List UInt8 := lengthW ++ ([58, 32] ++ (Lib.decDigits k ++ crlf2))
theorem lenT_eq (k : Nat) : lenT (k : Int) ++ [13, 10] = endL k := by
  unfold lenT endL
  rw [fmtN_nat, show lenW0 = lengthW ++ [58, 32] from rfl]
  simp only [List.append_assoc]
  rfl
theorem hed_siz {st : Int} (bo : Int) (hs : List HeadD) (hst : (st != 204) = true) (x : List UInt8) : hedN st bo hs (lengthW ++ (58 :: x)) = (14 + (sizN bo (58 :: x)).1, (sizN bo (58 :: x)).2.1, hs, true, (sizN bo (58 :: x)).2.2) := by
  rw [hedN_eq st bo hs lengthW_tok (stop_cons rfl), hst]
  rfl
theorem siz_fwd {st : Int} (bo : Int) (hs : List HeadD) (hst : (st != 204) = true) {k : Nat} (hk : k ≤ 20000) (x : List UInt8) : hedN st bo hs (endL k ++ x) = (((endL k).length : Int), (k : Int), hs, true, 0) := by
  have e : endL k ++ x = lengthW ++ ([58, 32] ++ (Lib.decDigits k ++ (crlf2 ++ x))) := by unfold endL; simp only [List.append_assoc]
  have el : ((endL k).length : Int) = 14 + (2 + ((Lib.decDigits k).length : Int) + 4) := by
    unfold endL
    simp only [List.length_append]
    show ((14 + (2 + ((Lib.decDigits k).length + 4)) : Nat) : Int) = _
    omega
  rw [e]
  refine Eq.trans (hed_siz bo hs hst (32 :: (Lib.decDigits k ++ (crlf2 ++ x)))) ?_
  have := sizN_fwd bo hk x
  have this : sizN bo (58 :: (32 :: (Lib.decDigits k ++ (crlf2 ++ x)))) = _ := this
  rw [this, el]
theorem siz_pp {st : Int} (bo : Int) (hs : List HeadD) (hst : (st != 204) = true) {k : Nat} (hk : k ≤ 20000) {r : List UInt8} (hp : PP r (endL k)) : (hedN st bo hs r).2.2.2.2 = 2 := by
  have hc : ∀ r', hasPre lengthW r' = true → cutRE st hs r' = 2 := fun r' h => by
    unfold cutRE
    rw [hst, xT, h]
    cases decide ((hs.length : Int) < 10) <;> rfl
  rcases pp_app hp with h | ⟨y, rfl, h⟩
  · have hlt := pp_len h
    obtain ⟨u, hu, e⟩ := h
    have := hedN_eq st bo hs (nm := r) (x := []) (all_sub e lengthW_tok) rfl
    rw [List.append_nil] at this
    have hl : lengthW.length = 14 := rfl
    rw [this, cdF (by omega), hc r (by rw [← e]; exact pre_app r u)]
    rfl
  · rcases pp_head h with rfl | ⟨z, rfl, h'⟩
    · rw [hedN_eq st bo hs lengthW_tok rfl, hc _ (by rw [List.append_nil]; exact pre_iff.2 ⟨[], by rw [List.append_nil]⟩)]
      rfl
    · rw [hed_siz bo hs hst]
      exact sizN_pp bo hk h
theorem siz_inv {st bo : Int} {hs : List HeadD} {r : List UInt8} (h0 : (hedN st bo hs r).2.2.2.1 = true) (h : (hedN st bo hs r).2.2.2.2 = 0) : (st != 204) = true ∧ ∃ (k : Nat) (x : List UInt8), k ≤ 20000 ∧ r = endL k ++ x := by
  obtain ⟨n, x, rfl, h1, h2⟩ := split_run tokB r
  rw [hedN_eq st bo hs h1 h2] at h0 h
  cases c1 : decide (n.length > 30)
  case true => rw [c1] at h0; exact absurd (show false = true from h0) (by decide)
  cases c2 : x == []
  case true => rw [c1, c2] at h0; exact absurd (show false = true from h0) (by decide)
  cases c3 : n == []
  case true => rw [c1, c2, c3] at h0; exact absurd (show false = true from h0) (by decide)
  cases c4 : x.getD 0 0 != 58
  case true => rw [c1, c2, c3, c4] at h0; exact absurd (show false = true from h0) (by decide)
  cases c5 : n == lengthW && st != 204
  case false =>
    rw [c1, c2, c3, c4, c5] at h0
    have h0 : (hedT bo hs n x (n.length : Int)).2.2.2.1 = true := h0
    unfold hedT at h0
    cases c6 : resN n
    case true => rw [c6] at h0; exact absurd (show false = true from h0) (by decide)
    cases c7 : decide ((hs.length : Int) ≥ 10)
    case true => rw [c6, c7] at h0; exact absurd (show false = true from h0) (by decide)
    cases c8 : litE x [58, 32] != 0
    case true => rw [c6, c7, c8] at h0; exact absurd (show false = true from h0) (by decide)
    rw [c6, c7, c8] at h0
    have h0 : (hedV bo hs n (x.drop (litK x [58, 32]).toNat) ((n.length : Int) + litK x [58, 32])).2.2.2.1 = true := h0
    unfold hedV at h0
    cases c9 : (valC (x.drop (litK x [58, 32]).toNat)).2.2 == 0 <;> (rw [c9] at h0; exact absurd (show false = true from h0) (by decide))
  rw [c1, c2, c3, c4, c5] at h
  rw [Bool.and_eq_true] at c5
  obtain ⟨k, y, hk, rfl, _⟩ := sizN_inv (show (sizN bo x).2.2 = 0 from h)
  refine ⟨c5.2, k, y, hk, ?_⟩
  rw [beq_iff_eq.1 c5.1]
  unfold endL
  simp only [List.append_assoc]
/-! ### all lines -/
def endH (st : Int) (k : Nat) : List UInt8 := bif st != 204 then endL k else [13, 10]
def endK (st bo : Int) (k : Nat) : Int := bif st != 204 then (k : Int) else bo
theorem hdsF_step (st : Int) (k : Nat) (bo : Int) (hs : List HeadD) (r : List UInt8) (h0 : (st == 204 && hasPre r [13]) = false) {h : HR} (e : hedN st bo hs r = h) :
    hdsF st (k + 1) bo hs r = bif h.2.2.2.1 || (h.2.2.2.2 != 0) then (h.1, h.2.1, h.2.2.1, h.2.2.2.2) else (h.1 + (hdsF st k h.2.1 h.2.2.1 (r.drop h.1.toNat)).1, (hdsF st k h.2.1 h.2.2.1 (r.drop h.1.toNat)).2) := by
  rw [hdsF, h0, e]
  rfl
theorem no13 {n x : List UInt8} (k : NamK n) : hasPre (n ++ x) [13] = false := by
  cases e : hasPre (n ++ x) [13]
  · rfl
  · obtain ⟨t, ht⟩ := pre_iff.1 e
    have hp := k.p
    cases n with
    | nil => have := k.l0; simp at this
    | cons c m =>
      have hc : c = 13 := (List.cons.inj ht).1
      subst hc
      rw [List.all_cons, show tokB 13 = false from rfl] at hp
      cases hp
theorem no13P {h : HeadD} (hb : headB h = true) {r u : List UInt8} (e : r ++ u = hdT h) : hasPre r [13] = false := by
  obtain ⟨n, v, ⟨⟩⟩ := h
  obtain ⟨kn, kv⟩ := headB_iff.1 hb
  rw [hdT_eq] at e
  exact pre_sub e (no13 kn)
theorem no13T {h : HeadD} (hb : headB h = true) (x : List UInt8) : hasPre (hdT h ++ x) [13] = false := by
  obtain ⟨n, v, ⟨⟩⟩ := h
  obtain ⟨kn, kv⟩ := headB_iff.1 hb
  rw [hdT_eq, List.append_assoc]
  exact no13 kn
theorem hds_fwd {st : Int} {n : Nat} (hn : n ≤ 20000) (x : List UInt8) : ∀ (l : List HeadD) (k : Nat) (bo : Int) (hs : List HeadD), (∀ h, h ∈ l → headB h = true) → hs.length + l.length ≤ 10 → l.length < k →
    hdsF st k bo hs (hdsT l ++ (endH st n ++ x)) = (((hdsT l ++ endH st n).length : Int), endK st bo n, hs ++ l, 0)
  | [], k, bo, hs, hh, hl, hk => by
    obtain ⟨k, rfl⟩ : ∃ m, k = m + 1 := ⟨k - 1, by simp only [List.length_nil] at hk; omega⟩
    show hdsF st (k + 1) bo hs (endH st n ++ x) = (((endH st n).length : Int), _, hs ++ [], 0)
    rw [List.append_nil]
    unfold endH endK
    cases hst : st != 204
    · have : (st == 204) = true := by
        unfold bne at hst
        simpa using hst
      show hdsF st (k + 1) bo hs ([13, 10] ++ x) = _
      rw [hdsF, this, show hasPre ([13, 10] ++ x) [13] = true from pre_iff.2 ⟨10 :: x, rfl⟩, litE_app, litK_app]
      rfl
    · have : (st == 204) = false := by
        unfold bne at hst
        simpa using hst
      show hdsF st (k + 1) bo hs (endL n ++ x) = _
      rw [hdsF_step st k bo hs _ (by rw [this]; rfl) (siz_fwd bo hs hst hn x)]
      rfl
  | h :: l, k, bo, hs, hh, hl, hk => by
    obtain ⟨k, rfl⟩ : ∃ m, k = m + 1 := ⟨k - 1, by simp only [List.length_cons] at hk; omega⟩
    simp only [List.length_cons] at hl hk
    have hb := hh h (List.mem_cons_self ..)
    have e : hdsT (h :: l) ++ (endH st n ++ x) = hdT h ++ (hdsT l ++ (endH st n ++ x)) := by
      show (hdT h ++ hdsT l) ++ _ = _
      rw [List.append_assoc]
    rw [e, hdsF_step st k bo hs _ (by rw [no13T hb]; exact Bool.and_false _) (hed_fwd st bo hb (by omega) _)]
    show ((((hdT h).length : Int) + (hdsF st k bo (hs ++ [h]) ((hdT h ++ (hdsT l ++ (endH st n ++ x))).drop (hdT h).length)).1, (hdsF st k bo (hs ++ [h]) ((hdT h ++ (hdsT l ++ (endH st n ++ x))).drop (hdT h).length)).2) : DR) = _
    rw [List.drop_left, hds_fwd hn x l k bo (hs ++ [h]) (fun h hm => hh h (List.mem_cons_of_mem _ hm)) (by rw [List.length_append, List.length_singleton]; omega) (by omega)]
    show ((((hdT h).length : Int) + ((hdsT l ++ endH st n).length : Int), endK st bo n, hs ++ [h] ++ l, 0) : DR) = (((hdT h ++ hdsT l ++ endH st n).length : Int), endK st bo n, hs ++ h :: l, 0)
    have e3 : ((hdT h ++ (hdsT l ++ endH st n)).length : Int) = ((hdT h).length : Int) + ((hdsT l ++ endH st n).length : Int) := by rw [List.length_append]; omega
    rw [List.append_assoc hs, List.append_assoc (hdT h), e3]
    rfl
theorem hds_pp {st : Int} {n : Nat} (hn : n ≤ 20000) : ∀ (l : List HeadD) (k : Nat) (bo : Int) (hs : List HeadD) (r : List UInt8), (∀ h, h ∈ l → headB h = true) → hs.length + l.length ≤ 10 → l.length < k → PP r (hdsT l ++ endH st n) → (hdsF st k bo hs r).2.2.2 = 2
  | [], k, bo, hs, r, hh, hl, hk, hp => by
    obtain ⟨k, rfl⟩ : ∃ m, k = m + 1 := ⟨k - 1, by simp only [List.length_nil] at hk; omega⟩
    have hp : PP r (endH st n) := hp
    unfold endH at hp
    cases hst : st != 204
    · have h204 : (st == 204) = true := by
        unfold bne at hst
        simpa using hst
      rw [hst] at hp
      have hp : PP r [13, 10] := hp
      rcases pp_head hp with rfl | ⟨z, rfl, h'⟩
      · have e := hedN_eq st bo hs (nm := []) (x := []) rfl rfl
        have hc : cutRE st hs ([] ++ []) = 2 := by
          unfold cutRE
          rw [hst]
          cases decide ((hs.length : Int) < 10) <;> rfl
        rw [hc, List.nil_append] at e
        rw [hdsF_step st k bo hs _ (by rw [show hasPre [] [13] = false from rfl]; exact Bool.and_false _) e]
        rfl
      · rw [hdsF, h204, show hasPre (13 :: z) [13] = true from pre_iff.2 ⟨z, rfl⟩, litE_pp hp]
        rfl
    · have h204 : (st == 204) = false := by
        unfold bne at hst
        simpa using hst
      rw [hst] at hp
      have e := siz_pp bo hs hst hn hp
      rw [hdsF_step st k bo hs r (by rw [h204]; rfl) rfl, e]
      cases (hedN st bo hs r).2.2.2.1 <;> rfl
  | h :: l, k, bo, hs, r, hh, hl, hk, hp => by
    obtain ⟨k, rfl⟩ : ∃ m, k = m + 1 := ⟨k - 1, by simp only [List.length_cons] at hk; omega⟩
    simp only [List.length_cons] at hl hk
    have hb := hh h (List.mem_cons_self ..)
    have hp : PP r (hdT h ++ hdsT l ++ endH st n) := hp
    rw [List.append_assoc] at hp
    rcases pp_app hp with h' | ⟨y, rfl, h'⟩
    · have e := hed_pp st bo (hs := hs) hb (by omega) h'
      obtain ⟨u, _, hu⟩ := h'
      rw [hdsF_step st k bo hs r (by rw [no13P hb hu]; exact Bool.and_false _) rfl, e]
      cases (hedN st bo hs r).2.2.2.1 <;> rfl
    · rw [hdsF_step st k bo hs _ (by rw [no13T hb]; exact Bool.and_false _) (hed_fwd st bo hb (by omega) _)]
      show (hdsF st k bo (hs ++ [h]) ((hdT h ++ y).drop (hdT h).length)).2.2.2 = 2
      rw [List.drop_left]
      exact hds_pp hn l k bo (hs ++ [h]) y (fun h hm => hh h (List.mem_cons_of_mem _ hm)) (by rw [List.length_append, List.length_singleton]; omega) (by omega) h'
theorem hds_inv {st : Int} : ∀ (k : Nat) (bo : Int) (hs : List HeadD) (r : List UInt8), hs.length ≤ 10 → (hdsF st k bo hs r).2.2.2 = 0 →
    ∃ (l : List HeadD) (n : Nat) (x : List UInt8), (∀ h, h ∈ l → headB h = true) ∧ hs.length + l.length ≤ 10 ∧ l.length < k ∧ n ≤ 20000 ∧ r = hdsT l ++ (endH st n ++ x)
  | 0, bo, hs, r, _, h => absurd (show (1 : Int) = 0 from h) (by decide)
  | k + 1, bo, hs, r, hl, h => by
    cases c0 : st == 204 && hasPre r [13]
    · rw [hdsF_step st k bo hs r c0 rfl] at h
      have he : (hedN st bo hs r).2.2.2.2 = 0 := by
        cases e : (hedN st bo hs r).2.2.2.2 != 0
        · exact bne_eq_false_iff_eq.1 e
        · rw [e, Bool.or_true] at h
          exact h
      cases c1 : (hedN st bo hs r).2.2.2.1
      · obtain ⟨hd, x, hb, hlt, rfl⟩ := hed_inv c1 he
        rw [hed_fwd st bo hb hlt x] at h
        have h : (hdsF st k bo (hs ++ [hd]) ((hdT hd ++ x).drop (hdT hd).length)).2.2.2 = 0 := h
        rw [List.drop_left] at h
        obtain ⟨l, n, y, i1, i2, i3, i4, rfl⟩ := hds_inv k bo (hs ++ [hd]) x (by rw [List.length_append, List.length_singleton]; omega) h
        rw [List.length_append, List.length_singleton] at i2
        refine ⟨hd :: l, n, y, fun h hm => ?_, by rw [List.length_cons]; omega, by rw [List.length_cons]; omega, i4, ?_⟩
        · rcases List.mem_cons.1 hm with rfl | hm
          · exact hb
          · exact i1 h hm
        · show _ = (hdT hd ++ hdsT l) ++ _
          rw [List.append_assoc]
      · obtain ⟨hst, n, x, hn, rfl⟩ := siz_inv c1 he
        refine ⟨[], n, x, fun h hm => absurd hm (by simp), by simpa using hl, by simp, hn, ?_⟩
        unfold endH
        rw [hst]
        rfl
    · rw [Bool.and_eq_true] at c0
      have hx : litE r [13, 10] = 0 := by
        rw [hdsF, c0.1, c0.2] at h
        exact h
      obtain ⟨x, rfl⟩ := lit_inv hx
      refine ⟨[], 0, x, fun h hm => absurd hm (by simp), by simpa using hl, by simp, by decide, ?_⟩
      unfold endH bne
      rw [c0.1]
      rfl
theorem hds_err (st : Int) : ∀ (k : Nat) (bo : Int) (hs : List HeadD) (r : List UInt8), (hdsF st k bo hs r).2.2.2 = 0 ∨ (hdsF st k bo hs r).2.2.2 = 1 ∨ (hdsF st k bo hs r).2.2.2 = 2
  | 0, _, _, _ => .inr (.inl rfl)
  | k + 1, bo, hs, r => by
    cases c0 : st == 204 && hasPre r [13]
    · rw [hdsF_step st k bo hs r c0 rfl]
      cases (hedN st bo hs r).2.2.2.1 || ((hedN st bo hs r).2.2.2.2 != 0)
      · exact hds_err st k _ _ _
      · exact hed_err st bo hs r
    · rw [hdsF, c0]
      exact lit_cases r [13, 10]
end Nice
namespace Nice
open Go Go.Eng
def zA : AnsD := (0, [], [], ())
/-- behind the first line: the status, the bytes read, what is left -/
def getH (c : Bool) (st k : Int) (r : List UInt8) (d : DR) : AnsD × Int × Int :=
  bif d.2.2.2 != 0 then (zA, 0, d.2.2.2) else bif c then ((st, d.2.2.1, [], ()), k + d.1, 0)
  else bif decide (((r.drop d.1.toNat).length : Int) < d.2.1) then (zA, 0, 2) else ((st, d.2.2.1, (r.drop d.1.toNat).take d.2.1.toNat, ()), k + d.1 + d.2.1, 0)
def getS (c : Bool) (s : List UInt8) (a : Int × Int × Int) : AnsD × Int × Int :=
  bif a.2.2 != 0 then (zA, 0, a.2.2) else getH c a.2.1 a.1 (s.drop a.1.toNat) (hdsF a.2.1 11 0 [] (s.drop a.1.toNat))
def getN (s : List UInt8) (c : Bool) : AnsD × Int × Int := getS c s (staN 0 s)
theorem may_iff {n : Int} {hs : List HeadD} {b : List UInt8} : amayB (n, hs, b, ()) = true ↔ n ∈ stats ∧ hs.length ≤ 10 ∧ (∀ h, h ∈ hs → headB h = true) ∧ b.length ≤ 20000 ∧ ((n != 204) = false → b = []) := by
  constructor
  · intro h
    obtain ⟨a1, a2, a3, a4⟩ := amay_len h
    refine ⟨st_mem a1, a2, a3, a4, fun h204 => ?_⟩
    unfold amayB at h
    simp only [Bool.and_eq_true] at h
    have h5 := h.2.2.2.2
    have : (n == 204) = true := by
      unfold bne at h204
      simpa using h204
    rw [this] at h5
    exact beq_iff_eq.1 h5
  · rintro ⟨a1, a2, a3, a4, a5⟩
    unfold amayB
    have w := List.all_eq_true.1 st_words n a1
    have an : anyN hs = false := by
      unfold anyN
      rw [List.any_eq_false]
      intro h hm
      rw [a3 h hm]
      decide
    have l5 : (!(n == 204) || b == []) = true := by
      cases hn : n == 204
      · rfl
      · rw [a5 (by unfold bne; rw [hn]; rfl)]; rfl
    show (!(wordsN n == []) && (decide (hs.length ≤ 10) && (!anyN hs && (decide (b.length ≤ 20000) && (!(n == 204) || b == []))))) = true
    rw [w, decide_eq_true a2, an, decide_eq_true a4, l5]
    rfl
theorem endT_eq (n : Int) (b : List UInt8) (c : Bool) : endT n b c = endH n b.length ++ (bif c then [] else b) := by
  unfold endT endH
  rw [lenT_eq]
theorem aput_eq {a : AnsD} (h : amayB a = true) (c : Bool) : aputN a c = statT a.1 ++ (hdsT a.2.1 ++ (endH a.1 a.2.2.1.length ++ (bif c then [] else a.2.2.1))) := by
  unfold aputN
  rw [h, xT, endT_eq]
  simp only [List.append_assoc]
theorem getS_ok (c : Bool) {st : Int} {p x : List UInt8} : getS c (p ++ x) ((p.length : Int), st, 0) = getH c st (p.length : Int) x (hdsF st 11 0 [] x) := by
  show getH c st (p.length : Int) ((p ++ x).drop p.length) (hdsF st 11 0 [] ((p ++ x).drop p.length)) = _
  rw [List.drop_left]
theorem get_fwd {a : AnsD} (h : amayB a = true) (c : Bool) (x : List UInt8) : getN (aputN a c ++ x) c = ((a.1, a.2.1, bif c then [] else a.2.2.1, ()), ((aputN a c).length : Int), 0) := by
  obtain ⟨n, hs, b, ⟨⟩⟩ := a
  obtain ⟨m1, m2, m3, m4, m5⟩ := may_iff.1 h
  rw [aput_eq h]
  show getN (statT n ++ (hdsT hs ++ (endH n b.length ++ (bif c then [] else b))) ++ x) c = ((n, hs, bif c then [] else b, ()), ((statT n ++ (hdsT hs ++ (endH n b.length ++ (bif c then [] else b)))).length : Int), 0)
  have e : statT n ++ (hdsT hs ++ (endH n b.length ++ (bif c then [] else b))) ++ x = statT n ++ (hdsT hs ++ (endH n b.length ++ ((bif c then [] else b) ++ x))) := by simp only [List.append_assoc]
  rw [e]
  unfold getN
  rw [staN_fwd m1, getS_ok, hds_fwd m4 _ hs 11 0 [] m3 (by simpa using m2) (by omega)]
  unfold getH
  have ed : (hdsT hs ++ (endH n b.length ++ ((bif c then [] else b) ++ x))).drop ((((hdsT hs ++ endH n b.length).length : Int), endK n 0 b.length, [] ++ hs, (0 : Int)) : DR).1.toNat = (bif c then [] else b) ++ x := by
    show (hdsT hs ++ (endH n b.length ++ ((bif c then [] else b) ++ x))).drop (hdsT hs ++ endH n b.length).length = _
    rw [← List.append_assoc (hdsT hs), List.drop_left]
  rw [ed]
  cases c
  · have ek : endK n 0 b.length = (b.length : Int) := by
      unfold endK
      cases hn : n != 204
      · rw [m5 hn]; rfl
      · rfl
    show (bif decide (((b ++ x).length : Int) < endK n 0 b.length) then (zA, 0, 2) else ((n, [] ++ hs, (b ++ x).take (endK n 0 b.length).toNat, ()), ((statT n).length : Int) + ((hdsT hs ++ endH n b.length).length : Int) + endK n 0 b.length, (0 : Int)) : AnsD × Int × Int) = ((n, hs, b, ()), ((statT n ++ (hdsT hs ++ (endH n b.length ++ b))).length : Int), 0)
    rw [ek, cdF (by rw [List.length_append]; omega)]
    show ((n, hs, (b ++ x).take b.length, ()), _, (0 : Int)) = (_, _, (0 : Int))
    rw [List.take_left]
    simp only [List.length_append, Int.natCast_add]
    congr 2
    omega
  · show ((n, [] ++ hs, [], ()), ((statT n).length : Int) + ((hdsT hs ++ endH n b.length).length : Int), (0 : Int)) = ((n, hs, [], ()), ((statT n ++ (hdsT hs ++ (endH n b.length ++ []))).length : Int), 0)
    simp only [List.length_append, Int.natCast_add, List.nil_append, List.length_nil]
    congr 2
theorem get_pp {a : AnsD} (h : amayB a = true) (c : Bool) {r : List UInt8} (hp : PP r (aputN a c)) : getN r c = (zA, 0, 2) := by
  obtain ⟨n, hs, b, ⟨⟩⟩ := a
  obtain ⟨m1, m2, m3, m4, m5⟩ := may_iff.1 h
  rw [aput_eq h] at hp
  have hp : PP r (statT n ++ (hdsT hs ++ (endH n b.length ++ (bif c then [] else b)))) := hp
  unfold getN
  rcases pp_app hp with h1 | ⟨y, rfl, h1⟩
  · have e := staN_pp (st := 0) m1 h1
    unfold getS
    rw [e]
    rfl
  · rw [staN_fwd m1, getS_ok]
    rw [← List.append_assoc] at h1
    rcases pp_app h1 with h2 | ⟨z, rfl, h2⟩
    · have e := hds_pp m4 hs 11 0 [] y m3 (by simpa using m2) (by omega) h2
      unfold getH
      rw [e]
      rfl
    · cases c
      · have h2 : PP z b := h2
        have hl := pp_len h2
        have ek : endK n 0 b.length = (b.length : Int) := by
          unfold endK
          cases hn : n != 204
          · rw [m5 hn]; rfl
          · rfl
        rw [List.append_assoc, hds_fwd m4 z hs 11 0 [] m3 (by simpa using m2) (by omega)]
        unfold getH
        have ed : (hdsT hs ++ (endH n b.length ++ z)).drop ((((hdsT hs ++ endH n b.length).length : Int), endK n 0 b.length, [] ++ hs, (0 : Int)) : DR).1.toNat = z := by
          show (hdsT hs ++ (endH n b.length ++ z)).drop (hdsT hs ++ endH n b.length).length = _
          rw [← List.append_assoc (hdsT hs), List.drop_left]
        rw [ed]
        show (bif decide ((z.length : Int) < endK n 0 b.length) then (zA, 0, 2) else _ : AnsD × Int × Int) = _
        rw [ek, cdT (by omega)]
      · obtain ⟨u, hu, e⟩ := h2
        exact absurd (List.append_eq_nil_iff.1 e).2 hu
theorem get_inv {s : List UInt8} {c : Bool} (h : (getN s c).2.2 = 0) : ∃ (a : AnsD) (x : List UInt8), amayB a = true ∧ s = aputN a c ++ x := by
  unfold getN at h
  have hs : (staN 0 s).2.2 = 0 := by
    cases e : (staN 0 s).2.2 != 0
    · exact bne_eq_false_iff_eq.1 e
    · unfold getS at h
      rw [e] at h
      exact h
  obtain ⟨n, y, hn, rfl, e⟩ := staN_inv hs
  rw [e, getS_ok] at h
  have hd : (hdsF n 11 0 [] y).2.2.2 = 0 := by
    cases e : (hdsF n 11 0 [] y).2.2.2 != 0
    · exact bne_eq_false_iff_eq.1 e
    · unfold getH at h
      rw [e] at h
      exact h
  obtain ⟨l, k, z, i1, i2, i3, i4, rfl⟩ := hds_inv 11 0 [] y (by decide) hd
  rw [hds_fwd i4 z l 11 0 [] i1 i2 i3] at h
  have i2 : l.length ≤ 10 := by simpa using i2
  cases c
  · unfold getH at h
    have ed : (hdsT l ++ (endH n k ++ z)).drop ((((hdsT l ++ endH n k).length : Int), endK n 0 k, [] ++ l, (0 : Int)) : DR).1.toNat = z := by
      show (hdsT l ++ (endH n k ++ z)).drop (hdsT l ++ endH n k).length = _
      rw [← List.append_assoc (hdsT l), List.drop_left]
    rw [ed] at h
    have h : (bif decide ((z.length : Int) < endK n 0 k) then (zA, 0, 2) else ((n, [] ++ l, z.take (endK n 0 k).toNat, ()), ((statT n).length : Int) + ((hdsT l ++ endH n k).length : Int) + endK n 0 k, (0 : Int)) : AnsD × Int × Int).2.2 = 0 := h
    cases hz : decide ((z.length : Int) < endK n 0 k)
    case true => rw [hz] at h; exact absurd (show (2 : Int) = 0 from h) (by decide)
    have hz := of_decide_eq_false hz
    unfold endK at hz
    cases h204 : n != 204
    · have hm : amayB (n, l, [], ()) = true := may_iff.2 ⟨hn, i2, i1, by decide, fun _ => rfl⟩
      refine ⟨(n, l, [], ()), z, hm, ?_⟩
      rw [aput_eq hm]
      show _ = statT n ++ (hdsT l ++ (endH n 0 ++ [])) ++ z
      unfold endH
      rw [h204]
      simp only [List.append_assoc, List.nil_append, cond_false]
    · rw [h204] at hz
      have hz : k ≤ z.length := by have hz : ¬ (z.length : Int) < (k : Int) := hz; omega
      have hl : (z.take k).length = k := by rw [List.length_take]; omega
      have hm : amayB (n, l, z.take k, ()) = true := may_iff.2 ⟨hn, i2, i1, by omega, fun h => by rw [h204] at h; cases h⟩
      refine ⟨(n, l, z.take k, ()), z.drop k, hm, ?_⟩
      rw [aput_eq hm]
      show _ = statT n ++ (hdsT l ++ (endH n (z.take k).length ++ z.take k)) ++ z.drop k
      rw [hl]
      simp only [List.append_assoc, List.take_append_drop]
  · cases h204 : n != 204
    · have hm : amayB (n, l, [], ()) = true := may_iff.2 ⟨hn, i2, i1, by decide, fun _ => rfl⟩
      refine ⟨(n, l, [], ()), z, hm, ?_⟩
      rw [aput_eq hm]
      show _ = statT n ++ (hdsT l ++ (endH n 0 ++ [])) ++ z
      unfold endH
      rw [h204]
      simp only [List.append_assoc, List.nil_append, cond_false]
    · have hl : (List.replicate k (0 : UInt8)).length = k := List.length_replicate
      have hm : amayB (n, l, List.replicate k 0, ()) = true := may_iff.2 ⟨hn, i2, i1, by omega, fun h => by rw [h204] at h; cases h⟩
      refine ⟨(n, l, List.replicate k 0, ()), z, hm, ?_⟩
      rw [aput_eq hm]
      show _ = statT n ++ (hdsT l ++ (endH n (List.replicate k (0 : UInt8)).length ++ [])) ++ z
      rw [hl]
      simp only [List.append_assoc, List.nil_append]
theorem get_err {s : List UInt8} {c : Bool} (h : (getN s c).2.2 ≠ 0) : (getN s c).1 = zA ∧ (getN s c).2.1 = 0 ∧ ((getN s c).2.2 = 1 ∨ (getN s c).2.2 = 2) := by
  unfold getN getS at h ⊢
  have e1 := staN_err 0 s
  cases e : (staN 0 s).2.2 != 0
  · rw [e, xF] at h
    rw [xF]
    unfold getH at h ⊢
    have e2 := hds_err (staN 0 s).2.1 11 0 [] (s.drop (staN 0 s).1.toNat)
    generalize (hdsF (staN 0 s).2.1 11 0 [] (s.drop (staN 0 s).1.toNat)) = d at h e2 ⊢
    cases e3 : d.2.2.2 != 0
    · rw [e3, xF] at h
      rw [xF]
      cases c
      · rw [xF] at h ⊢
        revert h
        cases decide ((((s.drop (staN 0 s).1.toNat).drop d.1.toNat).length : Int) < d.2.1)
        · intro h; exact absurd rfl h
        · intro _; exact ⟨rfl, rfl, .inr rfl⟩
      · exact absurd rfl h
    · rw [xT]
      refine ⟨rfl, rfl, ?_⟩
      have := bne_iff_ne.1 e3
      rcases e2 with e2 | e2
      · exact absurd e2 this
      · exact e2
  · rw [xT]
    refine ⟨rfl, rfl, ?_⟩
    have := bne_iff_ne.1 e
    rcases e1 with e1 | e1
    · exact absurd e1 this
    · exact e1
end Nice
