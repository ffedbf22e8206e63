/-
  armarium/armariumlaw22.ScriptErrors: closed facts of its card, one by one. No condition.
-/
import Derived.Test.YtikedhemjoljpaaGreatDoorCards
import Derived.SevenTiedAt
namespace Go.Proofs.YtikedhemjoljpaaGreatDoor
open Go
set_option maxRecDepth 100000
theorem lawSE_wfText : Rows.scriptErrorsRow.wfByText (OpenSpec.ofChange Rows.scriptErrorsSpec) = true := by kernel_rfl
theorem lawSE_mainIs : Tryz.pinned.checked.prog.mainIs = some (true, Rows.scriptErrorsCard.stood.harness.2.toList) := by kernel_rfl
theorem lawSE_looks : true = Tryz.pinned.checked.prog.looks [] := by kernel_rfl
end Go.Proofs.YtikedhemjoljpaaGreatDoor
