/-
  armariumlaw21.NodeNone: closed facts of its card, one by one.
-/
import Derived.Test.YtdegbhgoldglaaaGreatDoorCards
import Derived.SevenTiedAt
namespace Go.Proofs.YtdegbhgoldglaaaGreatDoor
open Go
set_option maxRecDepth 100000
/-- no function starts a goroutine: so no call does -/
theorem goes_none {P : Program} (h : P.funcs.toList.all (fun f => !f.goes) = true) (c : OpenClaim) : false = c.goesBy P := by
  have one : ∀ g : Nat, ((P.funcs[g]?).any Func.goes) = false := fun g => by
    cases hg : P.funcs[g]? with
    | none => rfl
    | some x =>
      have := List.all_eq_true.1 h x (by rw [← Array.getElem?_toList] at hg; exact List.mem_of_getElem? hg)
      simpa using this
  have all : P.funcs.any Func.goes = false := by
    rw [← Array.any_toList]
    cases hb : P.funcs.toList.any Func.goes
    · rfl
    · obtain ⟨x, hx, hg⟩ := List.any_eq_true.1 hb
      have := List.all_eq_true.1 h x hx
      rw [hg] at this; cases this
  have f : ∀ f : FuncId, P.goes f = false := fun f => by
    unfold Program.goes
    rw [all, Bool.and_false, Bool.or_false]
    cases hb : (P.closure f).any fun g => (P.funcs[g]?).any Func.goes
    · rfl
    · obtain ⟨x, hx, hg⟩ := List.any_eq_true.1 hb
      rw [one x] at hg; cases hg
  have hn : ∀ s : String, P.goesFrom s = false := fun s => by
    unfold Program.goesFrom
    cases P.funcNamed s with
    | none => rfl
    | some g => exact f g
  have hi : P.inits.toList.any P.goes = false := by
    cases hb : P.inits.toList.any P.goes
    · rfl
    · obtain ⟨x, hx, hg⟩ := List.any_eq_true.1 hb
      rw [f x] at hg; cases hg
  unfold OpenClaim.goesBy Program.goesAt
  rw [hn, hi]
  cases c.start <;> rfl
theorem none_all : Tryz.pinned.checked.prog.funcs.toList.all (fun f => !f.goes) = true := by kernel_rfl
theorem none_goes : false = Rows.nodeNoneRow.goesBy Tryz.pinned.checked.prog := goes_none none_all _
end Go.Proofs.YtdegbhgoldglaaaGreatDoor
