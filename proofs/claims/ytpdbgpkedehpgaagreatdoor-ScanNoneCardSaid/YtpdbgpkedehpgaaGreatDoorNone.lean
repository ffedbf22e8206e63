/-
  armariumlaw15.ScanNone: the law.
-/
import Derived.Test.YtpdbgpkedehpgaaGreatDoorNoneB
import Derived.Test.YtpdbgpkedehpgaaGreatDoorNoneC
import Derived.Test.YtpdbgpkedehpgaaGreatDoorNoneD
namespace Go.Proofs.YtpdbgpkedehpgaaGreatDoor
open Go Go.Eng Go.ChangeShapes Go.WideShapes Go.ChangeAt Go.RowKit
set_option maxRecDepth 100000

theorem none_plain (f : FuncId) (fn : Func) (hf : Tryz.pinned.checked.prog.funcNamed "armarium/armariumlaw15.ScanNone" = some f) (hfn : Tryz.pinned.checked.prog.funcs[f]? = some fn) :
    true = Tryz.pinned.checked.prog.looks [] ∧ ∀ (j : Nat) t, fn.params[j]? = some t → Tryz.pinned.checked.prog.wantsStandIn t = false := by
  obtain rfl : f = 12 := Option.some.inj ((show Tryz.prog.funcNamed "armarium/armariumlaw15.ScanNone" = some 12 by kernel_rfl).symm.trans hf) |>.symm
  obtain rfl : fn = Tryz.f12 := (Option.some.inj (Tryz.func12.symm.trans hfn)).symm
  refine ⟨prog_looks, fun j t ht => ?_⟩
  rw [Tryz.params12] at ht
  simp at ht

/-- THE CARD -/
theorem none_card : Rows.ScanNoneCardSaid :=
  Claim7.holds_tied_plain_at .later [] _ _ _ _ none_said (fun _ h => by cases h) none_wfText (fun _ h => by cases h) scanNone_row_tie rfl ⟨rfl, rfl⟩ prog_mainIs rfl none_plain none_goes
#print axioms none_card
end Go.Proofs.YtpdbgpkedehpgaaGreatDoor
