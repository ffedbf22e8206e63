/-
  armariumlaw15.ScanNone: closed facts of its card, one by one.
-/
import Derived.Test.YtpdbgpkedehpgaaGreatDoorNoneA
import Derived.SevenTiedAt
namespace Go.Proofs.YtpdbgpkedehpgaaGreatDoor
open Go
set_option maxRecDepth 100000
theorem none_wfText : Rows.scanNoneRow.wfByText (OpenSpec.ofChange Rows.scanNoneSpec) = true := by kernel_rfl
theorem prog_mainIs : Tryz.pinned.checked.prog.mainIs = some (true, Rows.scanNoneCard.stood.harness.2.toList) := by kernel_rfl
theorem prog_looks : true = Tryz.pinned.checked.prog.looks [] := by kernel_rfl
end Go.Proofs.YtpdbgpkedehpgaaGreatDoor
