/-
  armarium/armariumlaw22.CalmQuiet: closed facts of its card, one by one. No condition.
-/
import Derived.Test.YtikedhemjoljpaaGreatDoorCards
import Derived.SevenTiedAt
namespace Go.Proofs.YtikedhemjoljpaaGreatDoor
open Go
set_option maxRecDepth 100000
theorem lawCQ_wfText : Rows.calmQuietRow.wfByText (OpenSpec.ofChange Rows.calmQuietSpec) = true := by kernel_rfl
theorem lawCQ_mainIs : Tryz.pinned.checked.prog.mainIs = some (true, Rows.calmQuietCard.stood.harness.2.toList) := by kernel_rfl
theorem lawCQ_looks : true = Tryz.pinned.checked.prog.looks [] := by kernel_rfl
end Go.Proofs.YtikedhemjoljpaaGreatDoor
