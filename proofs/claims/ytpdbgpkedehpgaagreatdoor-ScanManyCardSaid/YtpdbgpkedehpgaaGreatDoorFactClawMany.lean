/-
  armarium/armariumlaw15.ScanMany: closed facts of its card, one by one. No condition.
-/
import Derived.Test.YtpdbgpkedehpgaaGreatDoorCards
import Derived.SevenTiedAt
namespace Go.Proofs.YtpdbgpkedehpgaaGreatDoor
open Go
set_option maxRecDepth 100000
theorem lawMany_wfText : Rows.scanManyRow.wfByText (OpenSpec.ofChange Rows.scanManySpec) = true := by kernel_rfl
theorem lawMany_mainIs : Tryz.pinned.checked.prog.mainIs = some (true, Rows.scanManyCard.stood.harness.2.toList) := by kernel_rfl
theorem lawMany_looks : true = Tryz.pinned.checked.prog.looks [] := by kernel_rfl
end Go.Proofs.YtpdbgpkedehpgaaGreatDoor
