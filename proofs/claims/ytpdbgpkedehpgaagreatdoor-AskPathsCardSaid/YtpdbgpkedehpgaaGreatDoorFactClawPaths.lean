/-
  armarium/armariumlaw15.AskPaths: closed facts of its card, one by one. No condition.
-/
import Derived.Test.YtpdbgpkedehpgaaGreatDoorCards
import Derived.SevenTiedAt
namespace Go.Proofs.YtpdbgpkedehpgaaGreatDoor
open Go
set_option maxRecDepth 100000
theorem lawPaths_wfText : Rows.askPathsRow.wfByText (OpenSpec.ofChange Rows.askPathsSpec) = true := by kernel_rfl
theorem lawPaths_mainIs : Tryz.pinned.checked.prog.mainIs = some (true, Rows.askPathsCard.stood.harness.2.toList) := by kernel_rfl
theorem lawPaths_looks : true = Tryz.pinned.checked.prog.looks [] := by kernel_rfl
end Go.Proofs.YtpdbgpkedehpgaaGreatDoor
