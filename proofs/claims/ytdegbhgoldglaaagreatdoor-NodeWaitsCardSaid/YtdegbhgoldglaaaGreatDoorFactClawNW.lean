/-
  armarium/armariumlaw21.NodeWaits: closed facts of its card, one by one. No condition.
-/
import Derived.Test.YtdegbhgoldglaaaGreatDoorCards
import Derived.SevenTiedAt
namespace Go.Proofs.YtdegbhgoldglaaaGreatDoor
open Go
set_option maxRecDepth 100000
theorem lawNW_wfText : Rows.nodeWaitsRow.wfByText (OpenSpec.ofChange Rows.nodeWaitsSpec) = true := by kernel_rfl
theorem lawNW_mainIs : Tryz.pinned.checked.prog.mainIs = some (true, Rows.nodeWaitsCard.stood.harness.2.toList) := by kernel_rfl
theorem lawNW_looks : true = Tryz.pinned.checked.prog.looks [] := by kernel_rfl
end Go.Proofs.YtdegbhgoldglaaaGreatDoor
