/-
  armariumlaw21.NodeNone: closed facts of its card, one by one.
-/
import Derived.Test.YtdegbhgoldglaaaGreatDoorCards
import Derived.SevenTiedAt
namespace Go.Proofs.YtdegbhgoldglaaaGreatDoor
open Go
set_option maxRecDepth 100000
theorem none_wfText : Rows.nodeNoneRow.wfByText (OpenSpec.ofChange Rows.nodeNoneSpec) = true := by kernel_rfl
theorem prog_mainIs : Tryz.pinned.checked.prog.mainIs = some (true, Rows.nodeNoneCard.stood.harness.2.toList) := by kernel_rfl
theorem prog_looks : true = Tryz.pinned.checked.prog.looks [] := by kernel_rfl
end Go.Proofs.YtdegbhgoldglaaaGreatDoor
