/-
  armariumlaw22.WorldNone: the law.
-/
import Derived.Test.YtikedhemjoljpaaGreatDoorNoneB
import Derived.Test.YtikedhemjoljpaaGreatDoorNoneC
import Derived.Test.YtikedhemjoljpaaGreatDoorNoneD
namespace Go.Proofs.YtikedhemjoljpaaGreatDoor
open Go Go.Eng Go.ChangeShapes Go.WideShapes Go.ChangeAt Go.RowKit
set_option maxRecDepth 100000

theorem none_plain (f : FuncId) (fn : Func) (hf : Tryz.pinned.checked.prog.funcNamed "armarium/armariumlaw22.WorldNone" = some f) (hfn : Tryz.pinned.checked.prog.funcs[f]? = some fn) :
    true = Tryz.pinned.checked.prog.looks [] ∧ ∀ (j : Nat) t, fn.params[j]? = some t → Tryz.pinned.checked.prog.wantsStandIn t = false := by
  obtain rfl : f = 3 := Option.some.inj ((show Tryz.prog.funcNamed "armarium/armariumlaw22.WorldNone" = some 3 by kernel_rfl).symm.trans hf) |>.symm
  obtain rfl : fn = Tryz.f3 := (Option.some.inj (Tryz.func3.symm.trans hfn)).symm
  refine ⟨prog_looks, fun j t ht => ?_⟩
  rw [Tryz.params3] at ht
  simp at ht

/-- THE CARD -/
theorem none_card : Rows.WorldNoneCardSaid :=
  Claim7.holds_tied_plain_at .later [] _ _ _ _ none_said (fun _ h => by cases h) none_wfText (fun _ h => by cases h) worldNone_row_tie rfl ⟨rfl, rfl⟩ prog_mainIs rfl none_plain none_goes
#print axioms none_card
end Go.Proofs.YtikedhemjoljpaaGreatDoor
