/-
  How the program looks at a request's heads, and how the document does: the same. No condition.
-/
import Derived.Test.YtpdbgpkedehpgaaGreatDoorPScan
import Derived.Test.YtpdbgpkedehpgaaGreatDoorNiceS
namespace Nice
open Go Go.Eng
theorem num_ok (v : List UInt8) : (refNum v 6).2 = (scanNum v).2 := by
  unfold refNum scanNum
  cases hd : allDig v
  · rfl
  · rw [Bool.true_and, cond_true]
    by_cases h6 : v.length ≤ 6
    · rw [show decide ((v.length : Int) ≤ 6) = true from decide_eq_true (by omega), cond_true, show decide (v.length ≤ 6) = true from decide_eq_true h6, Bool.and_true]
      by_cases h1 : 1 ≤ v.length
      · rw [atoi_dig hd h1 h6]; exact decide_eq_true h1
      · have : v = [] := List.length_eq_zero_iff.1 (by omega)
        subst this; rfl
    · rw [show decide ((v.length : Int) ≤ 6) = false from decide_eq_false (by omega), cond_false, show decide (v.length ≤ 6) = false from decide_eq_false h6, Bool.and_false]
/-- how often a length is told, if all that is told may be -/
def mHeads : List HeadD → Nat → Option Nat
  | [], k => some k
  | h :: r, k => bif lower h.1 == tenc then none else bif lower h.1 == clen then (bif (scanNum h.2.1).2 then mHeads r (k + 1) else none) else mHeads r k
def mOut (hs : List HeadD) : Int := match mHeads hs 0 with
  | none => 400
  | some k => if 1 < k then 400 else if scanLen hs > 300 then 413 else 0
theorem cl_te (n : List UInt8) (h : (n == clen) = true) : (n == tenc) = false := by
  rw [beq_iff_eq] at h
  subst h; decide
theorem heads_rel : ∀ (l : List HeadD) (v0 : List UInt8) (k0 : Nat),
    (refHeads l v0 k0 = none → mHeads l k0 = none) ∧ ∀ v k, refHeads l v0 k0 = some (v, k) → (mHeads l k0 = none → k0 + 1 ≤ k ∧ (k = k0 + 1 → (scanNum v).2 = false)) ∧ ∀ k', mHeads l k0 = some k' → k' = k ∧ (k = k0 + 1 → (scanNum v).2 = true)
  | [], v0, k0 => by
    refine ⟨fun h => by simp [refHeads] at h, fun v k h => ?_⟩
    simp only [refHeads, Option.some.injEq, Prod.mk.injEq] at h
    obtain ⟨rfl, rfl⟩ := h
    exact ⟨fun h => by simp [mHeads] at h, fun k' h => by simp only [mHeads, Option.some.injEq] at h; exact ⟨h.symm, fun h => by omega⟩⟩
  | h :: r, v0, k0 => by
    simp only [refHeads, mHeads]
    cases hc : lower h.1 == clen
    · rw [cond_false]
      cases ht : lower h.1 == tenc
      · simp only [cond_false]
        exact heads_rel r v0 k0
      · simp only [cond_true]
        exact ⟨fun _ => trivial, fun v k h => by cases h⟩
    · rw [cond_true, cl_te _ hc, cond_false, cond_true]
      obtain ⟨i1, i2⟩ := heads_rel r h.2.1 (k0 + 1)
      have hv := fun v k hh => heads_val r h.2.1 (k0 + 1) v k hh
      cases hg : (scanNum h.2.1).2
      · rw [cond_false]
        refine ⟨fun _ => rfl, fun v k hh => ⟨fun _ => ?_, fun k' h => by cases h⟩⟩
        obtain ⟨g1, g2, -⟩ := hv v k hh
        exact ⟨g1, fun e => by rw [(g2 e).2]; exact hg⟩
      · rw [cond_true]
        refine ⟨i1, fun v k hh => ?_⟩
        obtain ⟨g1, g2, -⟩ := hv v k hh
        obtain ⟨j1, j2⟩ := i2 v k hh
        refine ⟨fun hm => ⟨g1, fun e => by have := (j1 hm).1; omega⟩, fun k' hm => ⟨(j2 k' hm).1, fun e => by rw [(g2 e).2]; exact hg⟩⟩
/-- what the program says of the heads is what the document says -/
theorem mOut_ref (hs : List HeadD) : mOut hs = (refLen hs).2 ∧ ((refLen hs).2 ≠ 400 → scanLen hs = (refLen hs).1) := by
  refine ⟨?_, len_law hs⟩
  have hl := len_law hs
  obtain ⟨h1, h2⟩ := heads_rel hs [] 0
  unfold mOut
  unfold refLen at hl ⊢
  cases hr : refHeads hs [] 0 with
  | none => rw [h1 hr]; rfl
  | some x =>
    obtain ⟨v, k⟩ := x
    obtain ⟨a1, a2⟩ := h2 v k hr
    rw [hr] at hl
    simp only [refLenOut] at hl ⊢
    cases hm : mHeads hs 0 with
    | none =>
      obtain ⟨b1, b2⟩ := a1 hm
      have hb : 1 < k ∨ (refNum v 6).2 = false := by
        by_cases hk : k = 1
        · exact .inr (by rw [num_ok]; exact b2 hk)
        · exact .inl (by omega)
      rw [if_neg (show ¬ k = 0 by omega), if_pos hb]
    | some k' =>
      obtain ⟨rfl, b2⟩ := a2 k' hm
      simp only
      by_cases h0 : k' = 0
      · subst h0
        rw [if_pos rfl] at hl ⊢
        rw [if_neg (by omega), hl (by decide), if_neg (by decide)]
      · rw [if_neg h0] at hl ⊢
        by_cases hk : 1 < k'
        · rw [if_pos hk, if_pos (.inl hk)]
        · have hk1 : k' = 0 + 1 := by omega
          have hg : ¬ (1 < k' ∨ (refNum v 6).2 = false) := by
            rw [num_ok, b2 hk1]; intro h; rcases h with h | h
            · exact hk h
            · cases h
          rw [if_neg hk, if_neg hg]
          rw [if_neg hg] at hl
          by_cases h3 : (refNum v 6).1 > 300
          · rw [if_pos h3] at hl ⊢
            rw [hl (by show (413 : Int) ≠ 400; decide), if_pos h3]
          · rw [if_neg h3] at hl ⊢
            rw [hl (by show (0 : Int) ≠ 400; decide), if_neg h3]
end Nice
