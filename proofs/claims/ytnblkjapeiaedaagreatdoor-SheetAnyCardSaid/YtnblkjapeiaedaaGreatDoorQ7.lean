/-
  Part of the proof: ShX PShA. No condition.
-/
import Derived.Test.YtnblkjapeiaedaaGreatDoorQ6
import Derived.Test.YtnblkjapeiaedaaGreatDoorX0
import Derived.Test.YtnblkjapeiaedaaGreatDoorQ5
namespace Nice
open Go Go.Eng
end Nice
namespace Go.Proofs.YtnblkjapeiaedaaGreatDoor
open Go Go.Eng Nice Go.RowKit
set_option maxRecDepth 1000000
end Go.Proofs.YtnblkjapeiaedaaGreatDoor
namespace Nice
open Go Go.Eng
theorem hasPre_eq {s p : List UInt8} (h : hasPre s p = true) : s = p ++ isR s p := by
  unfold isR
  rw [h, xT]
  unfold hasPre at h
  rw [Bool.and_eq_true, decide_eq_true_eq, beq_iff_eq] at h
  have := (List.take_append_drop p.length s).symm
  rw [h.2] at this
  exact this
theorem isR_suf (s p : List UInt8) : isR s p <:+ s := by
  unfold isR
  cases hasPre s p
  · exact List.suffix_refl s
  · exact List.drop_suffix _ _
theorem upR_suf (s p : List UInt8) : upR s p <:+ s := by
  rcases up_spec s p false with ⟨h, _⟩ | ⟨_, h, _⟩
  · exact ⟨upT s p ++ p, h.symm⟩
  · rw [h]; exact List.nil_suffix
theorem nmF_suf : ∀ (f : Nat) (s : List UInt8) (n : List (List UInt8)), (nmF f s n).1 <:+ s
  | 0, s, _ => List.suffix_refl s
  | f + 1, s, n => by
    unfold nmF
    cases hasPre s nameL
    · exact List.suffix_refl s
    · have h1 : nS s <:+ s := (upR_suf _ _).trans (isR_suf _ _)
      rw [xT]
      cases nB s
      · rw [xF]; exact (nmF_suf f (nS s) _).trans h1
      · exact h1
theorem entV_suf : ∀ (f : Nat) (s : List UInt8) (l : List VerD), (entV f s l).1 <:+ s
  | 0, s, _ => List.suffix_refl s
  | f + 1, s, l => by
    unfold entV
    cases hasPre s verL
    · exact List.suffix_refl s
    · have h1 : vS3 s <:+ s := (upR_suf _ _).trans ((upR_suf _ _).trans (isR_suf _ _))
      rw [xT]
      cases vB3 s || badV (vNu s) (vMk s)
      · rw [xF]; exact (entV_suf f (vS3 s) _).trans h1
      · exact h1
theorem entN_suf (s : List UInt8) : (entN s).1.1 <:+ s := by
  have h1 : eS2 s <:+ s := (upR_suf _ _).trans (isR_suf _ _)
  have h2 : (entW s).1 <:+ s := by
    unfold entW
    cases eB2 s
    · rw [xF]; exact (entV_suf _ (eS2 s) _).trans h1
    · exact h1
  exact (isR_suf _ _).trans h2
theorem enF_suf : ∀ (f : Nat) (s : List UInt8) (l : List EntD), (enF f s l).1 <:+ s
  | 0, s, _ => List.suffix_refl s
  | f + 1, s, l => by
    unfold enF
    cases hasPre s keyL
    · exact List.suffix_refl s
    · have h1 : (eN s).1.1 <:+ s := (entN_suf _).trans (isR_suf _ _)
      rw [xT]
      cases (eN s).1.2.1
      · rw [xF]; exact (enF_suf f (eN s).1.1 _).trans h1
      · exact h1
theorem endG_cases (s : List UInt8) (b : Bool) (d : ShD) : endG s b d = errG ∨ (endG s b d = (d, 0, ()) ∧ s = endL ∧ b = false ∧ smayN d = true) := by
  unfold endG
  cases h1 : hasPre s endL
  · exact .inl rfl
  · cases h2 : isR s endL == []
    · exact .inl rfl
    · cases b
      · cases h3 : smayN d
        · exact .inl rfl
        · refine .inr ⟨rfl, ?_, rfl, rfl⟩
          have := hasPre_eq h1
          rw [beq_iff_eq.1 h2, List.append_nil] at this
          exact this
      · exact .inl rfl
theorem finG_cases (s : List UInt8) (n : List (List UInt8)) (l : List EntD) : finG s n l = errG ∨ ∃ b x, finG s n l = ((n, l, b, x, ()), 0, ()) ∧ s = nextX b x ++ endL ∧ smayN (n, l, b, x, ()) = true := by
  unfold finG
  cases h : hasPre s nextL
  · rw [xF]
    rcases endG_cases s false (n, l, false, [], ()) with h1 | ⟨h1, h2, _, h3⟩
    · exact .inl h1
    · exact .inr ⟨false, [], h1, h2, h3⟩
  · rw [xT]
    rcases endG_cases (xS s) (xB s) (n, l, true, xT' s, ()) with h1 | ⟨h1, h2, h4, h3⟩
    · exact .inl h1
    · refine .inr ⟨true, xT' s, h1, ?_, h3⟩
      rcases up_spec (isR s nextL) nextE false with ⟨q, _⟩ | ⟨_, _, q, _⟩
      · have h2 : upR (isR s nextL) nextE = endL := h2
        rw [h2] at q
        have := hasPre_eq h
        rw [q] at this
        show s = (nextL ++ xT' s ++ nextE) ++ endL
        rw [List.append_assoc, List.append_assoc]
        rw [List.append_assoc] at this
        exact this
      · rw [show xB s = true from q] at h4; cases h4
theorem nmF_inv : ∀ (f : Nat) (s : List UInt8) (n : List (List UInt8)), (nmF f s n).2.1 = false → ∃ m, (nmF f s n).2.2 = n ++ m ∧ s = m.flatMap nameX ++ (nmF f s n).1
  | 0, s, n, h => by cases h
  | f + 1, s, n, h => by
    unfold nmF at h ⊢
    cases hp : hasPre s nameL
    · exact ⟨[], (List.append_nil n).symm, rfl⟩
    · rw [hp, xT] at h
      cases hb : nB s
      · rw [hb, xF] at h
        obtain ⟨m, h1, h2⟩ := nmF_inv f (nS s) _ h
        refine ⟨nK s :: m, by rw [xT, xF, h1, List.append_assoc]; rfl, ?_⟩
        rcases up_spec (isR s nameL) nameE false with ⟨q, _⟩ | ⟨_, _, q, _⟩
        · rw [xT, xF]
          have e := hasPre_eq hp
          rw [q, show upR (isR s nameL) nameE = nS s from rfl, h2] at e
          rw [List.flatMap_cons]
          unfold nameX at e ⊢
          simp only [List.append_assoc] at e ⊢
          exact e
        · rw [show nB s = true from q] at hb; cases hb
      · rw [hb] at h; cases h
theorem enF_pre : ∀ (f : Nat) (s : List UInt8) (l : List EntD), ∃ m, (enF f s l).2.2 = l ++ m ∧ (m = [] → (enF f s l).2.1 = false → (enF f s l).1 = s) ∧ (m ≠ [] → hasPre s keyL = true)
  | 0, s, l => ⟨[], (List.append_nil l).symm, fun _ h => (by cases h), fun h => absurd rfl h⟩
  | f + 1, s, l => by
    unfold enF
    cases hp : hasPre s keyL
    · exact ⟨[], (List.append_nil l).symm, fun _ _ => rfl, fun h => absurd rfl h⟩
    · rw [xT]
      cases (eN s).1.2.1
      · obtain ⟨m, h1, _, _⟩ := enF_pre f (eN s).1.1 (l ++ [(eN s).2.1])
        exact ⟨(eN s).2.1 :: m, by rw [xF, h1, List.append_assoc]; rfl, fun h => (by cases h), fun _ => rfl⟩
      · exact ⟨[(eN s).2.1], rfl, fun h => (by cases h), fun _ => rfl⟩
/-- what a reading tells: an error, or a list that may be; its text begins and ends so; a list of names has just this text -/
theorem sget_cases (s : List UInt8) : sgetN s = errG ∨ ∃ d, sgetN s = (d, 0, ()) ∧ smayN d = true ∧ (∃ q, s = begL ++ q ++ endL) ∧ (d.2.1 = [] → s = bodyX d) ∧ (d.2.1 ≠ [] → hasPre s (begL ++ keyL) = true) := by
  unfold sgetN
  cases hb : hasPre s begL
  · exact .inl rfl
  · rw [Bool.not_true, xF]
    have e0 := hasPre_eq hb
    generalize isR s begL = s1 at e0 ⊢
    have hs1 := nmF_suf (s.length + 1) s1 []
    have hi := nmF_inv (s.length + 1) s1 []
    generalize nmF (s.length + 1) s1 [] = a at hs1 hi ⊢
    cases ha : a.2.1
    · obtain ⟨m, hm, hs⟩ := hi ha
      rw [List.nil_append] at hm
      rw [xF]
      have hs2 := enF_suf (s.length + 1) a.1 []
      obtain ⟨m2, k1, k2, k3⟩ := enF_pre (s.length + 1) a.1 []
      generalize enF (s.length + 1) a.1 [] = c at hs2 k1 k2 k3 ⊢
      rw [List.nil_append] at k1
      cases hc : c.2.1
      · rw [xF]
        rcases finG_cases c.1 a.2.2 c.2.2 with h1 | ⟨b, x, h1, h2, h3⟩
        · exact .inl h1
        · refine .inr ⟨(a.2.2, c.2.2, b, x, ()), h1, h3, ?_, fun hE => ?_, fun hE => ?_⟩
          · obtain ⟨q, hq⟩ := hs2.trans hs1
            refine ⟨q ++ nextX b x, ?_⟩
            rw [e0, ← hq, h2]
            simp only [List.append_assoc]
          · have hE : c.2.2 = [] := hE
            have hm2 : m2 = [] := by rw [← k1, hE]
            have hcs := k2 hm2 hc
            rw [e0, hs, ← hcs, h2, hm, hE]
            unfold bodyX
            dsimp only
            rw [show List.flatMap entX [] = [] from rfl]
            simp only [List.append_assoc, List.nil_append]
          · have hE : c.2.2 ≠ [] := hE
            have hkey := hasPre_eq (k3 (by rw [← k1]; exact hE))
            -- entries stand alone
            have hm0 : m = [] := by
              cases m with
              | nil => rfl
              | cons k m =>
                exfalso
                unfold smayN at h3
                rw [Bool.and_eq_true] at h3
                have h4 := h3.1
                dsimp only at h4
                rw [hm] at h4
                have : 0 < c.2.2.length := by
                  rcases Nat.eq_zero_or_pos c.2.2.length with h | h
                  · exact absurd (List.eq_nil_of_length_eq_zero h) hE
                  · exact h
                rw [decide_eq_true this, decide_eq_true (show 0 < (k :: m).length from Nat.succ_pos _)] at h4
                cases h4
            rw [e0, hs, hm0, hkey]
            show hasPre (begL ++ ([] ++ (keyL ++ _))) (begL ++ keyL) = true
            rw [List.nil_append, ← List.append_assoc]
            unfold hasPre
            rw [Bool.and_eq_true, decide_eq_true_eq, List.take_left, beq_iff_eq]
            exact ⟨by simp only [List.length_append]; omega, rfl⟩
      · exact .inl rfl
    · exact .inl rfl
end Nice
