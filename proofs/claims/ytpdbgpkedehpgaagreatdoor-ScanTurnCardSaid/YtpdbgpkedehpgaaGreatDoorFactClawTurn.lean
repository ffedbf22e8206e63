/-
  armarium/armariumlaw15.ScanTurn: closed facts of its card, one by one. No condition.
-/
import Derived.Test.YtpdbgpkedehpgaaGreatDoorCards
import Derived.SevenTiedAt
namespace Go.Proofs.YtpdbgpkedehpgaaGreatDoor
open Go
set_option maxRecDepth 100000
theorem lawTurn_wfText : Rows.scanTurnRow.wfByText (OpenSpec.ofChange Rows.scanTurnSpec) = true := by kernel_rfl
theorem lawTurn_mainIs : Tryz.pinned.checked.prog.mainIs = some (true, Rows.scanTurnCard.stood.harness.2.toList) := by kernel_rfl
theorem lawTurn_looks : true = Tryz.pinned.checked.prog.looks [] := by kernel_rfl
end Go.Proofs.YtpdbgpkedehpgaaGreatDoor
