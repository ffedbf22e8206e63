/-
  armarium/armariumlaw15.AskVersion: closed facts of its card, one by one. No condition.
-/
import Derived.Test.YtpdbgpkedehpgaaGreatDoorCards
import Derived.SevenTiedAt
namespace Go.Proofs.YtpdbgpkedehpgaaGreatDoor
open Go
set_option maxRecDepth 100000
theorem lawV_wfText : Rows.askVersionRow.wfByText (OpenSpec.ofChange Rows.askVersionSpec) = true := by kernel_rfl
theorem lawV_mainIs : Tryz.pinned.checked.prog.mainIs = some (true, Rows.askVersionCard.stood.harness.2.toList) := by kernel_rfl
theorem lawV_looks : true = Tryz.pinned.checked.prog.looks [] := by kernel_rfl
end Go.Proofs.YtpdbgpkedehpgaaGreatDoor
