/-
  armarium/armariumlaw15.AskAll: closed facts of its card, one by one. No condition.
-/
import Derived.Test.YtpdbgpkedehpgaaGreatDoorCards
import Derived.SevenTiedAt
namespace Go.Proofs.YtpdbgpkedehpgaaGreatDoor
open Go
set_option maxRecDepth 100000
theorem lawAAll_wfText : Rows.askAllRow.wfByText (OpenSpec.ofChange Rows.askAllSpec) = true := by kernel_rfl
theorem lawAAll_mainIs : Tryz.pinned.checked.prog.mainIs = some (true, Rows.askAllCard.stood.harness.2.toList) := by kernel_rfl
theorem lawAAll_looks : true = Tryz.pinned.checked.prog.looks [] := by kernel_rfl
end Go.Proofs.YtpdbgpkedehpgaaGreatDoor
