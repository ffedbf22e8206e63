/-
  armarium/armariumlaw17.SheetVersions: closed facts of its card, one by one. No condition.
-/
import Derived.Test.YtnblkjapeiaedaaGreatDoorCards
import Derived.SevenTiedAt
namespace Go.Proofs.YtnblkjapeiaedaaGreatDoor
open Go
set_option maxRecDepth 100000
theorem lawXVers_wfText : Rows.sheetVersionsRow.wfByText (OpenSpec.ofChange Rows.sheetVersionsSpec) = true := by kernel_rfl
theorem lawXVers_mainIs : Tryz.pinned.checked.prog.mainIs = some (true, Rows.sheetVersionsCard.stood.harness.2.toList) := by kernel_rfl
theorem lawXVers_looks : true = Tryz.pinned.checked.prog.looks [] := by kernel_rfl
end Go.Proofs.YtnblkjapeiaedaaGreatDoor
