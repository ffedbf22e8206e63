/-
  The engine, part W: the tables of a program. No condition.
-/
import Derived.Test.YtdbaigcnlmnliaaGreatDoorEngV
noncomputable section
namespace Go.Eng
open Go

def ofL {α : Type} : Nat → List α → Tr α → Tr α
  | _, [], t => t
  | k, x :: xs, t => ofL (k + 1) xs (t.set k (some x))
theorem ofL_get {α : Type} : ∀ (l : List α) (k : Nat) (t : Tr α) (j : Nat), (ofL k l t).get j = if k ≤ j ∧ j < k + l.length then l[j - k]? else t.get j
  | [], k, t, j => by rw [ofL, if_neg (by simp only [List.length_nil]; omega)]
  | v :: vs, k, t, j => by
    rw [ofL, ofL_get vs (k + 1), Tr.set_get]
    simp only [List.length_cons]
    by_cases e : j = k
    · subst e
      rw [if_neg (by omega), if_pos rfl, if_pos (by omega)]; simp
    · by_cases h : k + 1 ≤ j ∧ j < k + 1 + vs.length
      · rw [if_pos h, if_pos (by omega), show j - k = (j - (k + 1)) + 1 by omega]; simp
      · rw [if_neg h, if_neg e, if_neg (by omega)]
theorem ofL_some {α : Type} {l : List α} {j : Nat} {x : α} (h : (ofL 0 l .lf).get j = some x) : l[j]? = some x := by
  rw [ofL_get] at h
  by_cases hj : 0 ≤ j ∧ j < 0 + l.length
  · rw [if_pos hj] at h; simpa using h
  · rw [if_neg hj] at h; rw [Tr.get_lf] at h; cases h

def undOf (t : Tr TypeInfo) (k : TypeId) : Option TypeDesc :=
  match t.get k with
  | some i => match i.desc with
    | .named _ u => match t.get u with
      | some j => some j.desc
      | none => none
    | d => some d
  | none => none
def teOf (t : Tr TypeInfo) : TE := ⟨undOf t, t.get⟩
def fnOf (t : Tr Func) (f : FuncId) : Option Func :=
  match t.get f with
  | some fn => match fn.body with
    | some _ => some fn
    | none => none
  | none => none

theorem teOf_ok {P : Program} {t : Tr TypeInfo} (ht : t = ofL 0 P.types.toList .lf) : (teOf t).OK P := by
  have hinf : ∀ k i, t.get k = some i → P.info? k = some i := by
    intro k i h
    rw [ht] at h
    have := ofL_some h
    rw [Array.getElem?_toList] at this
    have hlt : k < P.types.size := by
      rcases Nat.lt_or_ge k P.types.size with h | h
      · exact h
      · rw [Array.getElem?_eq_none h] at this; cases this
    show (if k < P.types.size then P.types[k]? else _) = some i
    rw [if_pos hlt]; exact this
  refine ⟨fun k d h => ?_, hinf⟩
  unfold teOf undOf at h
  simp only at h
  unfold Program.underlying
  split at h
  · rename_i i hi
    rw [hinf k i hi]
    obtain ⟨desc, a1, a2, a3, a4, a5, a6, a7, a8, a9⟩ := i
    cases desc with
    | named nm u =>
      simp only at h ⊢
      split at h
      · rename_i j hj
        cases h
        rw [hinf u j hj]
        rfl
      · cases h
    | _ => simp only at h ⊢; exact h
  · cases h

theorem fnOf_ok {P : Program} {t : Tr Func} (ht : t = ofL 0 P.funcs.toList .lf) (hn : P.funcs.toList.all (fun f => !(f.name == "runtime.NumGoroutine")) = true) :
    ∀ f x, fnOf t f = some x → P.funcs[f]? = some x ∧ x.body.isSome = true ∧ (x.name == "runtime.NumGoroutine") = false := by
  intro f x h
  unfold fnOf at h
  split at h
  · rename_i fn hf
    split at h
    · rename_i b hb
      cases h
      rw [ht] at hf
      have := ofL_some hf
      refine ⟨by rw [← Array.getElem?_toList]; exact this, by rw [hb]; rfl, ?_⟩
      have := List.all_eq_true.1 hn x (List.mem_of_getElem? this)
      simpa using this
    · cases h
  · cases h
end Go.Eng
