/-
  AskPaths: the plain law and the contract of the function. No condition.
-/
import Derived.Test.YtpdbgpkedehpgaaGreatDoorQLPa
namespace Nice
open Go Go.Eng
theorem ix7 (v : Int) : 0 ≤ (v.tmod 7 + 7).tmod 7 ∧ (v.tmod 7 + 7).tmod 7 ≤ 6 ∧ -9223372036854775808 ≤ v.tmod 7 + 7 ∧ v.tmod 7 + 7 ≤ 9223372036854775807 := by
  have h1 : -7 < v.tmod 7 ∧ v.tmod 7 < 7 := by
    rcases Int.le_total 0 v with h | h
    · rw [Int.tmod_eq_emod_of_nonneg h]; omega
    · obtain ⟨u, rfl⟩ : ∃ u, v = -u := ⟨-v, by omega⟩
      rw [Int.neg_tmod, Int.tmod_eq_emod_of_nonneg (by omega)]; omega
  have h2 : (v.tmod 7 + 7).tmod 7 = (v.tmod 7 + 7) % 7 := Int.tmod_eq_emod_of_nonneg (by omega)
  rw [h2]
  omega
theorem ofP_path {m p : List UInt8} (h : p.length ≤ 1000) : ofP (m, p, [], [], [], ()) = true := by
  unfold ofP
  rw [show bndS p = true from decide_eq_true (by omega)]
  exact (by decide : (condsP [] && (shortS [] && true)) = true)
theorem ofN_key (t : List UInt8) : (isKey t = true → ofN (getW, ooW ++ t, [], [], [], ()) = ((1, t, 0, [], 0, [], [], [], 0, false, ()), 0)) ∧
    (isKey t = false → (ofN (getW, ooW ++ t, [], [], [], ())).2 = 400 ∨ ((ofN (getW, ooW ++ t, [], [], [], ())).2 = 0 ∧ (ofN (getW, ooW ++ t, [], [], [], ())).1.1 = 4)) := by
  have ho : (ooW ++ t == oW) = false := by
    rw [beq_eq_false_iff_ne]
    intro e
    have := congrArg List.length e
    rw [List.length_append] at this
    have h3 : ooW.length = 3 := rfl
    have h2 : oW.length = 2 := rfl
    omega
  by_cases ht : t = []
  · subst ht
    refine ⟨fun h => ?_, fun _ => .inr ?_⟩
    · have : isKey [] = false := by decide
      rw [this] at h; cases h
    · have e : ofN (getW, ooW ++ [], [], [], [], ()) = listOut false [] [] := rfl
      rw [e]
      exact ⟨rfl, rfl⟩
  · have h2 : (ooW ++ t == ooW) = false := by
      rw [beq_eq_false_iff_ne]
      intro e
      have := congrArg List.length e
      rw [List.length_append] at this
      exact ht (List.length_eq_zero_iff.1 (by omega))
    have h3 : hasPre (ooW ++ t) ooW = true := hasPre_app ooW t
    have e : ofN (getW, ooW ++ t, [], [], [], ()) = keyOut false getW (ooW ++ t) [] [] [] := by
      unfold ofN
      simp only [ho, h2, h3, m00, Bool.or_false, Bool.or_self, Bool.true_or, cond_false, cond_true, m01]
    have hd : (ooW ++ t).drop 3 = t := rfl
    rw [e]
    unfold keyOut keyedG
    rw [hd]
    have e5 : (kAsk t false).2.1 = t := rfl
    rw [e5]
    constructor
    · intro h
      rw [h]; rfl
    · intro h
      rw [h]; exact .inl rfl
end Nice
namespace Go.Proofs.YtpdbgpkedehpgaaGreatDoor
open Go Go.Eng Nice
set_option maxRecDepth 100000
theorem lawPaths_l (t0 : List UInt8) (t4 : Bool) (m p0 p1 p2 p3 p4 p5 : List UInt8) (ht : t0.length ≤ 900) (h0 : p0.length ≤ 1000) (h1 : p1.length ≤ 1000) (h2 : p2.length ≤ 1000) (h3 : p3.length ≤ 1000) (h4 : p4.length ≤ 1000) (h5 : p5.length ≤ 1000) :
    ∀ (j k n : Nat), k + j = 6 → j < n → hlawPaths_0 n t0 t4 m p0 p1 p2 p3 p4 p5 6 (k : Int) = some (true, ()) := by
  intro j
  induction j with
  | zero =>
    intro k n hk hn
    obtain ⟨i, rfl⟩ : ∃ i, n = i + 1 := ⟨n - 1, by omega⟩
    have hP : ofP (getW, ooW ++ t0, [], [], [], ()) = true := ofP_path (by rw [List.length_append]; show 3 + _ ≤ _; omega)
    have hb : bndS t0 = true := decide_eq_true (by omega)
    obtain ⟨n1, n2⟩ := ofN_key t0
    rw [elawPaths_0, cdF (by omega), gdB hP, gdT (by omega), kG]
    cases hk : isKey t0
    · rcases n2 hk with e | ⟨e1, e2⟩
      · rw [e]
        have q : ((400 : Int) == 0) = false := by decide
        simp only [q, kF, kT, gdB hb, kG]
      · rw [e1, e2]
        have q : ((4 : Int) == 1) = false := by decide
        simp only [q, beq_self_eq_true, kF, kT, gdB hb, kG]
    · rw [n1 hk]
      simp only [beq_self_eq_true, kF, kT, gdB hb, kG]
  | succ j ih =>
    intro k n hk hn
    obtain ⟨i, rfl⟩ : ∃ i, n = i + 1 := ⟨n - 1, by omega⟩
    have st : hlawPaths_0 i t0 t4 m p0 p1 p2 p3 p4 p5 6 ((k : Int) + 1) = some (true, ()) := ih (k + 1) i (by omega) (by omega)
    have hi : decide (inK .i64 ((k : Int) + 1)) = true := by rw [decide_eq_true_iff, inK_i64]; omega
    have g5 : (k : Int) = 5 → ((k : Int) == 5) = true := fun h => by rw [h]; rfl
    rw [elawPaths_0, cdT (by omega)]
    simp only [gdB (ofP_path (m := m) h0), gdB (ofP_path (m := m) h1), gdB (ofP_path (m := m) h2), gdB (ofP_path (m := m) h3), gdB (ofP_path (m := m) h4), gdB (ofP_path (m := m) h5), gdB hi, kG, beq_self_eq_true, bne_self_eq_false, Bool.and_self, Bool.not_true, kF, st]
    by_cases e0 : (k : Int) = 0
    · rw [e0]; rfl
    rw [beq_eq_false_iff_ne.2 e0, kF]
    by_cases e1 : (k : Int) = 1
    · rw [e1]; rfl
    rw [beq_eq_false_iff_ne.2 e1, kF]
    by_cases e2 : (k : Int) = 2
    · rw [e2]; rfl
    rw [beq_eq_false_iff_ne.2 e2, kF]
    by_cases e3 : (k : Int) = 3
    · rw [e3]; rfl
    rw [beq_eq_false_iff_ne.2 e3, kF]
    by_cases e4 : (k : Int) = 4
    · rw [e4]; rfl
    rw [beq_eq_false_iff_ne.2 e4, kF, gdB (g5 (by omega)), kG]
theorem cut_len45 (s : List UInt8) : (cut s 45).length ≤ 45 := by unfold cut; rw [List.length_take]; exact Nat.min_le_left _ _
theorem lawPaths_n (s : List UInt8) (wh : Int) : olawPaths (s, wh, ()) = some (true, ()) := by
  have c1 : (cut s 45).length ≤ 45 := cut_len45 s
  rw [olawPaths_g, elawPaths_g]
  obtain ⟨i1, i2, i3, i4⟩ := ix7 wh
  have hi : decide (inK .i64 (wh.tmod 7 + 7)) = true := by rw [decide_eq_true_iff, inK_i64]; omega
  have L : ∀ m : List UInt8, hlawPaths_0 heads0 (cut s 45) false m oW ooW (ooW ++ cut s 45) ([47] ++ cut s 45) (oW ++ cut s 45) (cut s 45) 6 0 = some (true, ()) := fun m =>
    lawPaths_l (cut s 45) false m _ _ _ _ _ _ (by omega) (by decide) (by decide) (by rw [List.length_append]; show 3 + _ ≤ _; omega) (by rw [List.length_append]; show 1 + _ ≤ _; omega) (by rw [List.length_append]; show 2 + _ ≤ _; omega) (by omega) 6 0 heads0 rfl (by unfold heads0; omega)
  have g6 : (wh.tmod 7 + 7).tmod 7 = 6 → ((wh.tmod 7 + 7).tmod 7 == 6) = true := fun h => by rw [h]; rfl
  simp (disch := omega) only [gdT, gdB hi, kG]
  by_cases e0 : (wh.tmod 7 + 7).tmod 7 = 0
  · rw [e0, beq_self_eq_true, kT]; exact L _
  rw [beq_eq_false_iff_ne.2 e0, kF]
  by_cases e1 : (wh.tmod 7 + 7).tmod 7 = 1
  · rw [e1, beq_self_eq_true, kT]; exact L _
  rw [beq_eq_false_iff_ne.2 e1, kF]
  by_cases e2 : (wh.tmod 7 + 7).tmod 7 = 2
  · rw [e2, beq_self_eq_true, kT]; exact L _
  rw [beq_eq_false_iff_ne.2 e2, kF]
  by_cases e3 : (wh.tmod 7 + 7).tmod 7 = 3
  · rw [e3, beq_self_eq_true, kT]; exact L _
  rw [beq_eq_false_iff_ne.2 e3, kF]
  by_cases e4 : (wh.tmod 7 + 7).tmod 7 = 4
  · rw [e4, beq_self_eq_true, kT]; exact L _
  rw [beq_eq_false_iff_ne.2 e4, kF]
  by_cases e5 : (wh.tmod 7 + 7).tmod 7 = 5
  · rw [e5, beq_self_eq_true, kT]; exact L _
  rw [beq_eq_false_iff_ne.2 e5, kF, gdB (g6 (by omega)), kG]
  exact L _
set_option maxRecDepth 1000000
theorem lawPaths_c : PC 18 (ofO [.str, .int .i64] [.bool] olawPaths) := (pureO (envS_ok (l := [(21, trueS), (24, cutS), (37, ofS), (38, ofS), (44, isKeyS)]) ⟨begun_c, cut_c, aOfG_c, rOfG_c, rKey_c, trivial⟩) gl_ne Tryz.func18 (by kernel_rfl) (by decide))
theorem lawPaths_run {w : World} (hgl : GlW glC w) {args : Array Value} {x : DenL [.str, .int .i64]} (hx : RdAll (fzW w) [.str, .int .i64] x args.toList) (hb : BdL [.str, .int .i64] x) : Calls Tryz.prog 18 args w fun e w' => e = .returned (.bool true) ∧ Same w w' :=
  law_calls lawPaths_c (fun x hb => by
    obtain ⟨s, wh, ⟨⟩⟩ := x
    have := lawPaths_n s wh
    exact ⟨by show (olawPaths (s, wh, ())).isSome = true; rw [this]; rfl, by show (olawPaths (s, wh, ())).getD _ = _; rw [this]; rfl⟩) hgl hx hb
end Go.Proofs.YtpdbgpkedehpgaaGreatDoor
