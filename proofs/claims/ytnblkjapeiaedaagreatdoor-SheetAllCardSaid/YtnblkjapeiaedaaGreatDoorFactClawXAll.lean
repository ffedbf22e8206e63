/-
  armarium/armariumlaw17.SheetAll: closed facts of its card, one by one. No condition.
-/
import Derived.Test.YtnblkjapeiaedaaGreatDoorCards
import Derived.SevenTiedAt
namespace Go.Proofs.YtnblkjapeiaedaaGreatDoor
open Go
set_option maxRecDepth 100000
theorem lawXAll_wfText : Rows.sheetAllRow.wfByText (OpenSpec.ofChange Rows.sheetAllSpec) = true := by kernel_rfl
theorem lawXAll_mainIs : Tryz.pinned.checked.prog.mainIs = some (true, Rows.sheetAllCard.stood.harness.2.toList) := by kernel_rfl
theorem lawXAll_looks : true = Tryz.pinned.checked.prog.looks [] := by kernel_rfl
end Go.Proofs.YtnblkjapeiaedaaGreatDoor
