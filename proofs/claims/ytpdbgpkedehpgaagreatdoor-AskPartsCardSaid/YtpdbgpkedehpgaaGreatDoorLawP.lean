/-
  AskParts: the plain law and the contract of the function. No condition.
-/
import Derived.Test.YtpdbgpkedehpgaaGreatDoorQLP
namespace Nice
open Go Go.Eng
theorem ix6 (v : Int) : 0 ≤ (v.tmod 6 + 6).tmod 6 ∧ (v.tmod 6 + 6).tmod 6 ≤ 5 ∧ -9223372036854775808 ≤ v.tmod 6 + 6 ∧ v.tmod 6 + 6 ≤ 9223372036854775807 := by
  have h1 : -6 < v.tmod 6 ∧ v.tmod 6 < 6 := by
    rcases Int.le_total 0 v with h | h
    · rw [Int.tmod_eq_emod_of_nonneg h]; omega
    · obtain ⟨u, rfl⟩ : ∃ u, v = -u := ⟨-v, by omega⟩
      rw [Int.neg_tmod, Int.tmod_eq_emod_of_nonneg (by omega)]; omega
  have h2 : (v.tmod 6 + 6).tmod 6 = (v.tmod 6 + 6) % 6 := Int.tmod_eq_emod_of_nonneg (by omega)
  rw [h2]
  omega
theorem conds_nil : condsP [] = true := by decide
theorem ofP_list {t : List UInt8} (h : t.length ≤ 1000) : ofP (getW, oW, t, [], [], ()) = true := by
  unfold ofP
  rw [conds_nil]
  rw [show shortS t = true from decide_eq_true (by omega)]
  exact (by decide : (true && (true && bndS oW)) = true)
theorem ofN_list (t : List UInt8) : (ofN (getW, oW, t, [], [], ())).2 = 0 ∨ (ofN (getW, oW, t, [], [], ())).2 = 400 := by
  have e : ofN (getW, oW, t, [], [], ()) = listOut false t [] := rfl
  rw [e]
  unfold listOut
  cases (listedN (bAsk false) t).2 && ([] : List UInt8) == []
  · exact .inr rfl
  · exact .inl rfl
theorem cut_le {s : List UInt8} {n : Nat} : (cut s (n : Int)).length ≤ n := by
  unfold cut; rw [List.length_take]; omega
theorem digits_len {n : Int} : (digits n).length ≤ 21 := by
  have key : ∀ (f k : Nat) (acc : List UInt8), (digsF f k acc).length ≤ f + acc.length := by
    intro f
    induction f with
    | zero => intro k acc; simp [digsF]
    | succ f ih =>
      intro k acc
      simp only [digsF]
      split
      · simp; omega
      · have := ih (k / 10) (UInt8.ofNat (48 + k % 10) :: acc)
        simp only [List.length_cons] at this
        omega
  unfold digits digs
  split
  · have := key 20 (-n).toNat []
    simp only [List.length_cons, List.length_nil] at this ⊢; omega
  · have := key 20 n.toNat []
    simp only [List.length_nil] at this; omega
end Nice
namespace Go.Proofs.YtpdbgpkedehpgaaGreatDoor
open Go Go.Eng Nice
set_option maxRecDepth 100000
theorem parts_fin (t : List UInt8) (h : t.length ≤ 1000) (x : AskD × Int) (hx : ofN (getW, oW, t, [], [], ()) = x) :
    x.2 = 0 ∨ x.2 = 400 := by rw [← hx]; exact ofN_list t
theorem lawParts_l (od : List (Ty.Den (.int .i64))) (t8 : Bool) (a0 a1 a2 a3 a4 a5 : List UInt8) (h0 : a0.length ≤ 60) (h1 : a1.length ≤ 60) (h2 : a2.length ≤ 60) (h3 : a3.length ≤ 60) (h4 : a4.length ≤ 60) (h5 : a5.length ≤ 60) :
    ∀ (j k n : Nat) (t : List UInt8), k + j = 5 → t.length ≤ 61 * k → j < n → hlawParts_0 n od t8 a0 a1 a2 a3 a4 a5 t (k : Int) = some (true, ()) := by
  have fin : ∀ (k n : Nat) (t : List UInt8), t.length ≤ 61 * k → k ≤ 5 → (¬ (k : Int) < od.length ∨ ¬ (k : Int) < 5) → hlawParts_0 (n + 1) od t8 a0 a1 a2 a3 a4 a5 t (k : Int) = some (true, ()) := by
    intro k n t ht hk hor
    have hP := ofP_list (t := t) (by omega)
    have hN := ofN_list t
    rw [elawParts_0]
    generalize ofN (getW, oW, t, [], [], ()) = x at hN ⊢
    simp only [gdB hP, kG, beq_self_eq_true, Bool.and_self, Bool.true_and, Bool.and_true, kT]
    have e : (bif x.2 == (0 : Int) then some (true, ()) else bif x.2 == (400 : Int) then some (true, ()) else some (false, ()) : Option (DenL [.bool])) = some (true, ()) := by
      rcases hN with h | h
      · rw [h]; rfl
      · rw [h]; rfl
    by_cases c1 : (k : Int) < od.length
    · have c2 : ¬ (k : Int) < 5 := by
        rcases hor with h | h
        · exact absurd c1 h
        · exact h
      rw [cdT c1, cdF c2]; exact e
    · rw [cdF c1]; exact e
  intro j
  induction j with
  | zero =>
    intro k n t hk ht hn
    obtain ⟨m, rfl⟩ : ∃ m, n = m + 1 := ⟨n - 1, by omega⟩
    exact fin k m t ht (by omega) (.inr (by omega))
  | succ j ih =>
    intro k n t hk ht hn
    obtain ⟨m, rfl⟩ : ∃ m, n = m + 1 := ⟨n - 1, by omega⟩
    by_cases c1 : (k : Int) < od.length
    · have hP := ofP_list (t := t) (by omega)
      have st : ∀ t' : List UInt8, t'.length ≤ 61 * (k + 1) → hlawParts_0 m od t8 a0 a1 a2 a3 a4 a5 t' ((k : Int) + 1) = some (true, ()) := fun t' h' => ih (k + 1) m t' (by omega) h' (by omega)
      rw [elawParts_0, cdT c1, cdT (by omega)]
      obtain ⟨i1, i2, i3, i4⟩ := ix6 (od.getD ((k : Int)).toNat (Ty.int IntKind.i64).dflt)
      have c0 : ∀ (x : Int) {α : Type} {y z : α}, (Int.tmod (od.getD ((k : Int)).toNat (Ty.int IntKind.i64).dflt) 6 + 6).tmod 6 = x → (bif (Int.tmod (od.getD ((k : Int)).toNat (Ty.int IntKind.i64).dflt) 6 + 6).tmod 6 == x then y else z) = y := fun x α y z h => by rw [h, beq_self_eq_true, kT]
      have c9 : ∀ (x : Int) {α : Type} {y z : α}, (Int.tmod (od.getD ((k : Int)).toNat (Ty.int IntKind.i64).dflt) 6 + 6).tmod 6 ≠ x → (bif (Int.tmod (od.getD ((k : Int)).toNat (Ty.int IntKind.i64).dflt) 6 + 6).tmod 6 == x then y else z) = z := fun x α y z h => by rw [beq_eq_false_iff_ne.2 h, kF]
      have g5 : (Int.tmod (od.getD ((k : Int)).toNat (Ty.int IntKind.i64).dflt) 6 + 6).tmod 6 = 5 → ∀ {α : Type} {l : List Bool} {r : Option α}, gd (((Int.tmod (od.getD ((k : Int)).toNat (Ty.int IntKind.i64).dflt) 6 + 6).tmod 6 == 5) :: l) r = gd l r := fun h {α l r} => gdB (by rw [h]; rfl)
      by_cases ck : (k : Int) > 0
      · rw [cdT ck, gdT (by omega), kG]
        by_cases e0 : (Int.tmod (od.getD ((k : Int)).toNat (Ty.int IntKind.i64).dflt) 6 + 6).tmod 6 = 0
        · rw [c0 0 e0]; simp (disch := ((try simp only [inK_i64, List.length_append, List.length_singleton]); omega)) only [gdT, kG]
          exact st _ (by simp only [List.length_append, List.length_singleton]; omega)
        rw [c9 0 e0]
        by_cases e1 : (Int.tmod (od.getD ((k : Int)).toNat (Ty.int IntKind.i64).dflt) 6 + 6).tmod 6 = 1
        · rw [c0 1 e1]; simp (disch := ((try simp only [inK_i64, List.length_append, List.length_singleton]); omega)) only [gdT, kG]
          exact st _ (by simp only [List.length_append, List.length_singleton]; omega)
        rw [c9 1 e1]
        by_cases e2 : (Int.tmod (od.getD ((k : Int)).toNat (Ty.int IntKind.i64).dflt) 6 + 6).tmod 6 = 2
        · rw [c0 2 e2]; simp (disch := ((try simp only [inK_i64, List.length_append, List.length_singleton]); omega)) only [gdT, kG]
          exact st _ (by simp only [List.length_append, List.length_singleton]; omega)
        rw [c9 2 e2]
        by_cases e3 : (Int.tmod (od.getD ((k : Int)).toNat (Ty.int IntKind.i64).dflt) 6 + 6).tmod 6 = 3
        · rw [c0 3 e3]; simp (disch := ((try simp only [inK_i64, List.length_append, List.length_singleton]); omega)) only [gdT, kG]
          exact st _ (by simp only [List.length_append, List.length_singleton]; omega)
        rw [c9 3 e3]
        by_cases e4 : (Int.tmod (od.getD ((k : Int)).toNat (Ty.int IntKind.i64).dflt) 6 + 6).tmod 6 = 4
        · rw [c0 4 e4]; simp (disch := ((try simp only [inK_i64, List.length_append, List.length_singleton]); omega)) only [gdT, kG]
          exact st _ (by simp only [List.length_append, List.length_singleton]; omega)
        rw [c9 4 e4]
        simp (disch := ((try simp only [inK_i64, List.length_append, List.length_singleton]); omega)) only [gdT, kG]
        rw [g5 (by omega), kG]
        exact st _ (by simp only [List.length_append, List.length_singleton]; omega)
      · rw [cdF ck]
        by_cases e0 : (Int.tmod (od.getD ((k : Int)).toNat (Ty.int IntKind.i64).dflt) 6 + 6).tmod 6 = 0
        · rw [c0 0 e0]; simp (disch := ((try simp only [inK_i64, List.length_append, List.length_singleton]); omega)) only [gdT, kG]
          exact st _ (by simp only [List.length_append]; omega)
        rw [c9 0 e0]
        by_cases e1 : (Int.tmod (od.getD ((k : Int)).toNat (Ty.int IntKind.i64).dflt) 6 + 6).tmod 6 = 1
        · rw [c0 1 e1]; simp (disch := ((try simp only [inK_i64, List.length_append, List.length_singleton]); omega)) only [gdT, kG]
          exact st _ (by simp only [List.length_append]; omega)
        rw [c9 1 e1]
        by_cases e2 : (Int.tmod (od.getD ((k : Int)).toNat (Ty.int IntKind.i64).dflt) 6 + 6).tmod 6 = 2
        · rw [c0 2 e2]; simp (disch := ((try simp only [inK_i64, List.length_append, List.length_singleton]); omega)) only [gdT, kG]
          exact st _ (by simp only [List.length_append]; omega)
        rw [c9 2 e2]
        by_cases e3 : (Int.tmod (od.getD ((k : Int)).toNat (Ty.int IntKind.i64).dflt) 6 + 6).tmod 6 = 3
        · rw [c0 3 e3]; simp (disch := ((try simp only [inK_i64, List.length_append, List.length_singleton]); omega)) only [gdT, kG]
          exact st _ (by simp only [List.length_append]; omega)
        rw [c9 3 e3]
        by_cases e4 : (Int.tmod (od.getD ((k : Int)).toNat (Ty.int IntKind.i64).dflt) 6 + 6).tmod 6 = 4
        · rw [c0 4 e4]; simp (disch := ((try simp only [inK_i64, List.length_append, List.length_singleton]); omega)) only [gdT, kG]
          exact st _ (by simp only [List.length_append]; omega)
        rw [c9 4 e4]
        simp (disch := ((try simp only [inK_i64, List.length_append, List.length_singleton]); omega)) only [gdT, kG]
        rw [g5 (by omega), kG]
        exact st _ (by simp only [List.length_append]; omega)
    · exact fin k m t ht (by omega) (.inl c1)
theorem lawParts_n (od : List Int) (pr af : List UInt8) (mo : Int) (h0 : -9223372036854775808 ≤ mo) (h1 : mo ≤ 9223372036854775807) : olawParts (od, pr, af, mo, ()) = some (true, ()) := by
  have c1 : (cut pr 41).length ≤ 41 := cut_le
  have c2 : (cut af 41).length ≤ 41 := cut_le
  have c3 := digits_len (n := mo)
  rw [olawParts_g, elawParts_g]
  have hd : (decide (Int.negSucc 9223372036854775807 ≤ mo) && decide (mo ≤ (9223372036854775807 : Int))) = true := by
    rw [Bool.and_eq_true, decide_eq_true_eq, decide_eq_true_eq]
    exact ⟨h0, h1⟩
  rw [gdT (by omega), gdB hd, gdT (by omega), gdT (by omega), kG]
  exact lawParts_l od false _ _ _ _ _ _ (by rw [List.length_append]; show 7 + _ ≤ _; omega) (by rw [List.length_append]; show 6 + _ ≤ _; omega) (by rw [List.length_append]; show 4 + _ ≤ _; omega) (by decide) (by decide) (by decide) 5 0 heads0 [] rfl (by decide) (by unfold heads0; omega)
set_option maxRecDepth 1000000
theorem lawParts_c : PC 19 (ofO [.slice (.int .i64), .str, .str, .int .i64] [.bool] olawParts) := (pureO (envS_ok (l := [(21, trueS), (24, cutS), (25, digitsS), (37, ofS), (38, ofS)]) ⟨begun_c, cut_c, digits_c, aOfG_c, rOfG_c, trivial⟩) gl_ne Tryz.func19 (by kernel_rfl) (by decide))
theorem lawParts_run {w : World} (hgl : GlW glC w) {args : Array Value} {x : DenL [.slice (.int .i64), .str, .str, .int .i64]} (hx : RdAll (fzW w) [.slice (.int .i64), .str, .str, .int .i64] x args.toList) (hb : BdL [.slice (.int .i64), .str, .str, .int .i64] x) : Calls Tryz.prog 19 args w fun e w' => e = .returned (.bool true) ∧ Same w w' :=
  law_calls lawParts_c (fun x hb => by
    obtain ⟨od, pr, af, mo, ⟨⟩⟩ := x
    have hm : inK .i64 mo := hb.2.2.2.1
    have := lawParts_n od pr af mo hm.1 hm.2
    exact ⟨by show (olawParts (od, pr, af, mo, ())).isSome = true; rw [this]; rfl, by show (olawParts (od, pr, af, mo, ())).getD _ = _; rw [this]; rfl⟩) hgl hx hb
end Go.Proofs.YtpdbgpkedehpgaaGreatDoor
