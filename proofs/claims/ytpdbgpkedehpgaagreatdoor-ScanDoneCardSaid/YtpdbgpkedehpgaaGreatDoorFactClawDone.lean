/-
  armarium/armariumlaw15.ScanDone: closed facts of its card, one by one. No condition.
-/
import Derived.Test.YtpdbgpkedehpgaaGreatDoorCards
import Derived.SevenTiedAt
namespace Go.Proofs.YtpdbgpkedehpgaaGreatDoor
open Go
set_option maxRecDepth 100000
theorem lawDone_wfText : Rows.scanDoneRow.wfByText (OpenSpec.ofChange Rows.scanDoneSpec) = true := by kernel_rfl
theorem lawDone_mainIs : Tryz.pinned.checked.prog.mainIs = some (true, Rows.scanDoneCard.stood.harness.2.toList) := by kernel_rfl
theorem lawDone_looks : true = Tryz.pinned.checked.prog.looks [] := by kernel_rfl
end Go.Proofs.YtpdbgpkedehpgaaGreatDoor
