/-
  armariumlaw19.FrontNone: closed facts of its card, one by one.
-/
import Derived.Test.YtdbaigcnlmnliaaGreatDoorCards
import Derived.SevenTiedAt
namespace Go.Proofs.YtdbaigcnlmnliaaGreatDoor
open Go
set_option maxRecDepth 100000
theorem none_wfText : Rows.frontNoneRow.wfByText (OpenSpec.ofChange Rows.frontNoneSpec) = true := by kernel_rfl
theorem prog_mainIs : Tryz.pinned.checked.prog.mainIs = some (true, Rows.frontNoneCard.stood.harness.2.toList) := by kernel_rfl
theorem prog_looks : true = Tryz.pinned.checked.prog.looks [] := by kernel_rfl
end Go.Proofs.YtdbaigcnlmnliaaGreatDoor
