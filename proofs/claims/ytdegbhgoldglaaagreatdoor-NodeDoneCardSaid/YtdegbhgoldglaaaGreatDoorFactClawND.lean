/-
  armarium/armariumlaw21.NodeDone: closed facts of its card, one by one. No condition.
-/
import Derived.Test.YtdegbhgoldglaaaGreatDoorCards
import Derived.SevenTiedAt
namespace Go.Proofs.YtdegbhgoldglaaaGreatDoor
open Go
set_option maxRecDepth 100000
theorem lawND_wfText : Rows.nodeDoneRow.wfByText (OpenSpec.ofChange Rows.nodeDoneSpec) = true := by kernel_rfl
theorem lawND_mainIs : Tryz.pinned.checked.prog.mainIs = some (true, Rows.nodeDoneCard.stood.harness.2.toList) := by kernel_rfl
theorem lawND_looks : true = Tryz.pinned.checked.prog.looks [] := by kernel_rfl
end Go.Proofs.YtdegbhgoldglaaaGreatDoor
