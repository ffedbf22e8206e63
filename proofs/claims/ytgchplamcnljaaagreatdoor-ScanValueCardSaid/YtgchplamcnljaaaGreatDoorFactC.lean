/-
  armariumlaw15.ScanValue: closed facts of its card, one by one.
-/
import Derived.Test.YtgchplamcnljaaaGreatDoorCards
import Derived.SevenTiedAt
namespace Go.Proofs.YtgchplamcnljaaaGreatDoor
open Go
set_option maxRecDepth 100000
theorem value_wfText : Rows.scanValueRow.wfByText (OpenSpec.ofChange Rows.scanValueSpec) = true := by kernel_rfl
theorem prog_mainIs : Tryz.pinned.checked.prog.mainIs = some (true, Rows.scanValueCard.stood.harness.2.toList) := by kernel_rfl
theorem prog_looks : true = Tryz.pinned.checked.prog.looks [] := by kernel_rfl
end Go.Proofs.YtgchplamcnljaaaGreatDoor
