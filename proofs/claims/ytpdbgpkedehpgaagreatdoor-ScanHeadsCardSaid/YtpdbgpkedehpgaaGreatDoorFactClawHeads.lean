/-
  armarium/armariumlaw15.ScanHeads: closed facts of its card, one by one. No condition.
-/
import Derived.Test.YtpdbgpkedehpgaaGreatDoorCards
import Derived.SevenTiedAt
namespace Go.Proofs.YtpdbgpkedehpgaaGreatDoor
open Go
set_option maxRecDepth 100000
theorem lawHeads_wfText : Rows.scanHeadsRow.wfByText (OpenSpec.ofChange Rows.scanHeadsSpec) = true := by kernel_rfl
theorem lawHeads_mainIs : Tryz.pinned.checked.prog.mainIs = some (true, Rows.scanHeadsCard.stood.harness.2.toList) := by kernel_rfl
theorem lawHeads_looks : true = Tryz.pinned.checked.prog.looks [] := by kernel_rfl
end Go.Proofs.YtpdbgpkedehpgaaGreatDoor
