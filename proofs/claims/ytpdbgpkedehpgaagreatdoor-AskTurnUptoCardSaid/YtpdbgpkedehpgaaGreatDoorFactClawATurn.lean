/-
  armarium/armariumlaw15.AskTurn: closed facts of its card, one by one. No condition.
-/
import Derived.Test.YtpdbgpkedehpgaaGreatDoorCards
import Derived.SevenTiedAt
namespace Go.Proofs.YtpdbgpkedehpgaaGreatDoor
open Go
set_option maxRecDepth 100000
theorem lawATurn_wfText : Rows.askTurnUptoRow.wfByText (Rows.OpenSpec.upto Rows.askTurnSpec) = true := by kernel_rfl
theorem lawATurn_mainIs : Tryz.pinned.checked.prog.mainIs = some (true, Rows.askTurnUptoCard.stood.harness.2.toList) := by kernel_rfl
theorem lawATurn_looks : true = Tryz.pinned.checked.prog.looks [] := by kernel_rfl
end Go.Proofs.YtpdbgpkedehpgaaGreatDoor
