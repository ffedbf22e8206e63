/-
  armarium/armariumlaw15.ScanLength: closed facts of its card, one by one. No condition.
-/
import Derived.Test.YtpdbgpkedehpgaaGreatDoorCards
import Derived.SevenTiedAt
namespace Go.Proofs.YtpdbgpkedehpgaaGreatDoor
open Go
set_option maxRecDepth 100000
theorem lawLen_wfText : Rows.scanLengthRow.wfByText (OpenSpec.ofChange Rows.scanLengthSpec) = true := by kernel_rfl
theorem lawLen_mainIs : Tryz.pinned.checked.prog.mainIs = some (true, Rows.scanLengthCard.stood.harness.2.toList) := by kernel_rfl
theorem lawLen_looks : true = Tryz.pinned.checked.prog.looks [] := by kernel_rfl
end Go.Proofs.YtpdbgpkedehpgaaGreatDoor
