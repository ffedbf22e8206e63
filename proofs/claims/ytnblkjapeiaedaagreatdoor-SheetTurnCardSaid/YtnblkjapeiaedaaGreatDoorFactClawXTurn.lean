/-
  armarium/armariumlaw17.SheetTurn: closed facts of its card, one by one. No condition.
-/
import Derived.Test.YtnblkjapeiaedaaGreatDoorCards
import Derived.SevenTiedAt
namespace Go.Proofs.YtnblkjapeiaedaaGreatDoor
open Go
set_option maxRecDepth 100000
theorem lawXTurn_wfText : Rows.sheetTurnRow.wfByText (OpenSpec.ofChange Rows.sheetTurnSpec) = true := by kernel_rfl
theorem lawXTurn_mainIs : Tryz.pinned.checked.prog.mainIs = some (true, Rows.sheetTurnCard.stood.harness.2.toList) := by kernel_rfl
theorem lawXTurn_looks : true = Tryz.pinned.checked.prog.looks [] := by kernel_rfl
end Go.Proofs.YtnblkjapeiaedaaGreatDoor
