/-
  armarium/armariumlaw22.WorldSizes: closed facts of its card, one by one. No condition.
-/
import Derived.Test.YtikedhemjoljpaaGreatDoorCards
import Derived.SevenTiedAt
namespace Go.Proofs.YtikedhemjoljpaaGreatDoor
open Go
set_option maxRecDepth 100000
theorem lawWS_wfText : Rows.worldSizesRow.wfByText (OpenSpec.ofChange Rows.worldSizesSpec) = true := by kernel_rfl
theorem lawWS_mainIs : Tryz.pinned.checked.prog.mainIs = some (true, Rows.worldSizesCard.stood.harness.2.toList) := by kernel_rfl
theorem lawWS_looks : true = Tryz.pinned.checked.prog.looks [] := by kernel_rfl
end Go.Proofs.YtikedhemjoljpaaGreatDoor
