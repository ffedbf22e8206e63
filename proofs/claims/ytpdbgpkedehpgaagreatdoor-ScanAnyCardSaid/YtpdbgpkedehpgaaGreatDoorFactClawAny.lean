/-
  armarium/armariumlaw15.ScanAny: closed facts of its card, one by one. No condition.
-/
import Derived.Test.YtpdbgpkedehpgaaGreatDoorCards
import Derived.SevenTiedAt
namespace Go.Proofs.YtpdbgpkedehpgaaGreatDoor
open Go
set_option maxRecDepth 100000
theorem lawAny_wfText : Rows.scanAnyRow.wfByText (OpenSpec.ofChange Rows.scanAnySpec) = true := by kernel_rfl
theorem lawAny_mainIs : Tryz.pinned.checked.prog.mainIs = some (true, Rows.scanAnyCard.stood.harness.2.toList) := by kernel_rfl
theorem lawAny_looks : true = Tryz.pinned.checked.prog.looks [] := by kernel_rfl
end Go.Proofs.YtpdbgpkedehpgaaGreatDoor
