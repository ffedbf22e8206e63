/-
  The engine, part R: what the checks on open order say. No condition.
-/
import Derived.Test.YtdbaigcnlmnliaaGreatDoorEngQ
noncomputable section
namespace Go.Eng
open Go
section
variable {P : Program} {E : Env} {call : CallF} {nt : Nat}

theorem evSteps_spec (all : List Oper) : ∀ (os : List Oper) (s s' : Tr Value) (σ σ' : St) (recs : List Rec), evSteps P E call nt all os s σ = some (s', σ', recs) →
    ∃ (S : Nat → Tr Value) (Z : Nat → St) (F : Nat → Foot), S 0 = s ∧ Z 0 = σ ∧ S os.length = s' ∧ Z os.length = σ' ∧ recs.length = os.length ∧
      (∀ i o, os[i]? = some o → aStep P E call nt all o (S i) (Z i) = some (S (i + 1), Z (i + 1), F i)) ∧
      ∀ i, i < os.length → recs[i]? = some ⟨(F i).trim (Z i).next, (Z i).next, (Z (i + 1)).next⟩
  | [], s, s', σ, σ', recs, h => by
    simp only [evSteps, Option.some.injEq, Prod.mk.injEq] at h
    obtain ⟨rfl, rfl, rfl⟩ := h
    exact ⟨fun _ => s, fun _ => σ, fun _ => .nil, rfl, rfl, rfl, rfl, rfl, by simp, by simp⟩
  | o :: os, s, s', σ, σ', recs, h => by
    simp only [evSteps] at h
    split at h
    · rename_i s1 σ1 φ1 h1
      split at h
      · rename_i s2 σ2 φs h2
        simp only [Option.some.injEq, Prod.mk.injEq] at h
        obtain ⟨rfl, rfl, rfl⟩ := h
        obtain ⟨S, Z, F, e1, e2, e3, e4, e5, e6, e7⟩ := evSteps_spec all os s1 s2 σ1 σ2 φs h2
        refine ⟨fun i => match i with | 0 => s | i + 1 => S i, fun i => match i with | 0 => σ | i + 1 => Z i, fun i => match i with | 0 => φ1 | i + 1 => F i, rfl, rfl, by simpa using e3, by simpa using e4, by simp [e5], ?_, ?_⟩
        · intro i o' hi
          rcases i with _ | i
          · simp only [List.getElem?_cons_zero, Option.some.injEq] at hi
            subst hi
            simp only [e1, e2]; exact h1
          · exact e6 i o' (by simpa using hi)
        · intro i hi
          rcases i with _ | i
          · simp only [e2, List.getElem?_cons_zero]
          · simpa using e7 i (by simpa using hi)
      · cases h
    · cases h

def ClosedS (ops : Array Oper) (S : Nat → Prop) : Prop := ∀ (j : Nat) o e, ops[j]? = some o → S j → e ∈ o.after.toList → Region.binds .any e = true → S e.on
/-- i must be ahead of j -/
def Ahead (ops : Array Oper) (i j : Nat) : Prop := ∀ S, ClosedS ops S → S j → S i

theorem maskOf_spec {ops : Array Oper} {acc : List Nat} (hacc : ∀ j, j < acc.length → ∀ i, (acc.getD j 0).testBit i = true → Ahead ops i j) :
    ∀ (es : List Edge) (S : Nat → Prop), ClosedS ops S → (∀ e ∈ es, Region.binds .any e = true → e.on < acc.length ∧ S e.on) → ∀ i, (maskOf acc es).testBit i = true → S i
  | [], S, _, _, i, h => by simp [maskOf] at h
  | e :: es, S, hS, he, i, h => by
    simp only [maskOf] at h
    cases hb : Region.binds .any e
    · rw [hb] at h
      exact maskOf_spec hacc es S hS (fun e' h' => he e' (by simp [h'])) i h
    · rw [hb, cond_true] at h
      obtain ⟨hlt, hs⟩ := he e (by simp) hb
      change ((1 <<< e.on ||| acc.getD e.on 0) ||| maskOf acc es).testBit i = true at h
      rw [Nat.testBit_or, Nat.testBit_or, Bool.or_eq_true, Bool.or_eq_true] at h
      rcases h with (h | h) | h
      · rw [Nat.testBit_shiftLeft] at h
        simp only [Bool.and_eq_true, decide_eq_true_eq] at h
        have : i = e.on := by
          have h2 := h.2
          rw [show (1 : Nat) = 2 ^ 0 from rfl, Nat.testBit_two_pow] at h2
          simp at h2; omega
        rw [this]; exact hs
      · exact hacc e.on hlt i h S hS hs
      · exact maskOf_spec hacc es S hS (fun e' h' => he e' (by simp [h'])) i h

theorem okOne_spec {ops : Array Oper} {y : Oper} {b : Rec} {mask : Nat} : ∀ (xs : List Oper) (recs : List Rec) (k : Nat), okOne ops y b mask k xs recs = true →
    ∀ i x a, xs[i]? = some x → recs[i]? = some a → mask.testBit (k + i) = true ∨ okPair ops x y a b = true
  | [], recs, k, _, i, x, a, hx, _ => by simp at hx
  | x0 :: xs, [], k, _, i, x, a, _, ha => by simp at ha
  | x0 :: xs, a0 :: as, k, h, i, x, a, hx, ha => by
    simp only [okOne, Bool.and_eq_true, Bool.or_eq_true] at h
    rcases i with _ | i
    · simp only [List.getElem?_cons_zero, Option.some.injEq] at hx ha
      subst hx ha
      exact h.1
    · have := okOne_spec xs as (k + 1) h.2 i x a (by simpa using hx) (by simpa using ha)
      rw [show k + (i + 1) = k + 1 + i by omega]
      exact this

theorem okAll_spec {ops : Array Oper} {recs : List Rec} : ∀ (ys : List Oper) (bs : List Rec) (acc : List Nat), okAll ops ops.toList recs acc ys bs = true → ys = ops.toList.drop acc.length → bs = recs.drop acc.length →
    (∀ j, j < acc.length → ∀ i, (acc.getD j 0).testBit i = true → Ahead ops i j) →
    (∀ (j : Nat) o, acc.length ≤ j → ops[j]? = some o → ∀ e ∈ o.after.toList, Region.binds .any e = true → e.on < j) ∧
    ∀ (i j : Nat) x y a b, acc.length ≤ j → i < j → ops[i]? = some x → ops[j]? = some y → recs[i]? = some a → recs[j]? = some b → Ahead ops i j ∨ okPair ops x y a b = true
  | [], bs, acc, _, hy, _, _ => by
    have hl : ops.size ≤ acc.length := by
      have := congrArg List.length hy
      simp at this; omega
    refine ⟨fun j o hj ho => ?_, fun i j x y a b hj _ _ hy' => ?_⟩
    · rw [Array.getElem?_eq_none (by omega)] at ho; cases ho
    · rw [Array.getElem?_eq_none (by omega)] at hy'; cases hy'
  | y0 :: ys, [], acc, h, _, _, _ => by simp [okAll] at h
  | y0 :: ys, b0 :: bs, acc, h, hy, hb, hacc => by
    simp only [okAll, Bool.and_eq_true] at h
    obtain ⟨⟨h1, h2⟩, h3⟩ := h
    have hy0 : ops[acc.length]? = some y0 := by
      have := congrArg (fun l => l[0]?) hy
      simp at this
      exact this.symm
    have hb0 : recs[acc.length]? = some b0 := by
      have := congrArg (fun l => l[0]?) hb
      simp at this
      exact this.symm
    have hedge : ∀ e ∈ y0.after.toList, Region.binds .any e = true → e.on < acc.length := by
      intro e he hbn
      have := List.all_eq_true.1 h1 e he
      rw [hbn] at this
      simpa using this
    have hm : ∀ i, (maskOf acc y0.after.toList).testBit i = true → Ahead ops i acc.length := by
      intro i hi S hS hs
      exact maskOf_spec hacc _ S hS (fun e he hbn => ⟨hedge e he hbn, hS _ _ _ hy0 hs he hbn⟩) i hi
    have hlen : (acc ++ [maskOf acc y0.after.toList]).length = acc.length + 1 := by simp
    obtain ⟨r1, r2⟩ := okAll_spec ys bs (acc ++ [maskOf acc y0.after.toList]) h3 (by
        rw [hlen, ← List.drop_drop, ← hy]; rfl) (by rw [hlen, ← List.drop_drop, ← hb]; rfl) (fun j hj i hi => by
        rw [hlen] at hj
        by_cases e : j = acc.length
        · subst e
          simp [List.getD_eq_getElem?_getD] at hi
          exact hm i hi
        · have hlt : j < acc.length := by omega
          refine hacc j hlt i ?_
          rw [List.getD_eq_getElem?_getD, List.getElem?_append_left hlt] at hi
          rw [List.getD_eq_getElem?_getD]; exact hi)
    rw [hlen] at r1 r2
    refine ⟨fun j o hj ho e he hbn => ?_, fun i j x y a b hj hij hx hy' ha hb' => ?_⟩
    · by_cases e' : j = acc.length
      · subst e'
        rw [hy0] at ho; cases ho
        exact hedge e he hbn
      · exact r1 j o (by omega) ho e he hbn
    · by_cases e' : j = acc.length
      · subst e'
        rw [hy0] at hy'; cases hy'
        rw [hb0] at hb'; cases hb'
        have hx' : (ops.toList.take acc.length)[i]? = some x := by
          rw [List.getElem?_take_of_lt hij, Array.getElem?_toList]; exact hx
        have := okOne_spec _ _ 0 h2 i x a hx' ha
        rw [Nat.zero_add] at this
        exact this.imp_left (hm i)
      · exact r2 i j x y a b (by omega) hij hx hy' ha hb'

/-! ### the last one of some -/
def Last (touch dn : Nat → Prop) (m : Nat) : Prop := (m = 0 ∧ ∀ j, dn j → ¬ touch j) ∨ ∃ j, m = j + 1 ∧ dn j ∧ touch j ∧ ∀ j', dn j' → touch j' → j' ≤ j

theorem last_text {α : Type} (touch : Nat → Prop) (val : Nat → α) : ∀ (i : Nat), (∀ j, j < i → ¬ touch j → val (j + 1) = val j) → ∃ m, Last touch (· < i) m ∧ val i = val m
  | 0, _ => ⟨0, .inl ⟨rfl, fun _ hj => absurd hj (Nat.not_lt_zero _)⟩, rfl⟩
  | i + 1, h => by
    by_cases ht : touch i
    · exact ⟨i + 1, .inr ⟨i, rfl, Nat.lt_succ_self i, ht, fun j' hj' _ => by omega⟩, rfl⟩
    · obtain ⟨m, h1, h2⟩ := last_text touch val i fun j hj hn => h j (by omega) hn
      refine ⟨m, ?_, (h i (by omega) ht).trans h2⟩
      rcases h1 with ⟨e, h1⟩ | ⟨j, e, h3, h4, h5⟩
      · refine .inl ⟨e, fun j hj => ?_⟩
        by_cases hji : j = i
        · subst hji; exact ht
        · exact h1 j (by omega)
      · refine .inr ⟨j, e, by omega, h4, fun j' hj' ht' => ?_⟩
        by_cases hji : j' = i
        · subst hji; exact absurd ht' ht
        · exact h5 j' (by omega) ht'
theorem last_same {touch dn dn' : Nat → Prop} {m : Nat} (h : Last touch dn' m) (e : ∀ j, touch j → (dn j ↔ dn' j)) : Last touch dn m := by
  rcases h with ⟨e0, h1⟩ | ⟨j, e0, h3, h4, h5⟩
  · exact .inl ⟨e0, fun _ hj ht => h1 _ ((e _ ht).1 hj) ht⟩
  · exact .inr ⟨j, e0, (e j h4).2 h3, h4, fun j' hj' ht' => h5 j' ((e j' ht').1 hj') ht'⟩
theorem last_hit {touch dn : Nat → Prop} {m i : Nat} (h : Last touch (fun j => dn j ∨ j = i) m) (ht : touch i) (hb : ∀ j, dn j → touch j → j < i) : m = i + 1 := by
  rcases h with ⟨_, h1⟩ | ⟨j, e0, h3, h4, h5⟩
  · exact absurd ht (h1 i (.inr rfl))
  · have := h5 i (.inr rfl) ht
    rcases h3 with h3 | h3
    · have := hb j h3 h4; omega
    · omega
theorem last_miss {touch dn : Nat → Prop} {m i : Nat} (h : Last touch (fun j => dn j ∨ j = i) m) (ht : ¬ touch i) : Last touch dn m :=
  last_same h fun _ hj => ⟨.inl, fun x => x.resolve_right fun e => ht (e ▸ hj)⟩
end
end Go.Eng
