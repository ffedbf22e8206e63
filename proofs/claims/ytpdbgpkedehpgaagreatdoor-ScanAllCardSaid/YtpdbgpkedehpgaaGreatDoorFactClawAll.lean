/-
  armarium/armariumlaw15.ScanAll: closed facts of its card, one by one. No condition.
-/
import Derived.Test.YtpdbgpkedehpgaaGreatDoorCards
import Derived.SevenTiedAt
namespace Go.Proofs.YtpdbgpkedehpgaaGreatDoor
open Go
set_option maxRecDepth 100000
theorem lawAll_wfText : Rows.scanAllRow.wfByText (OpenSpec.ofChange Rows.scanAllSpec) = true := by kernel_rfl
theorem lawAll_mainIs : Tryz.pinned.checked.prog.mainIs = some (true, Rows.scanAllCard.stood.harness.2.toList) := by kernel_rfl
theorem lawAll_looks : true = Tryz.pinned.checked.prog.looks [] := by kernel_rfl
end Go.Proofs.YtpdbgpkedehpgaaGreatDoor
