/-
  armarium/armariumlaw17.SheetAny: closed facts of its card, one by one. No condition.
-/
import Derived.Test.YtnblkjapeiaedaaGreatDoorCards
import Derived.SevenTiedAt
namespace Go.Proofs.YtnblkjapeiaedaaGreatDoor
open Go
set_option maxRecDepth 100000
theorem lawXAny_wfText : Rows.sheetAnyRow.wfByText (OpenSpec.ofChange Rows.sheetAnySpec) = true := by kernel_rfl
theorem lawXAny_mainIs : Tryz.pinned.checked.prog.mainIs = some (true, Rows.sheetAnyCard.stood.harness.2.toList) := by kernel_rfl
theorem lawXAny_looks : true = Tryz.pinned.checked.prog.looks [] := by kernel_rfl
end Go.Proofs.YtnblkjapeiaedaaGreatDoor
