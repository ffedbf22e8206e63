/-
  armarium/armariumlaw15.AskParts: closed facts of its card, one by one. No condition.
-/
import Derived.Test.YtpdbgpkedehpgaaGreatDoorCards
import Derived.SevenTiedAt
namespace Go.Proofs.YtpdbgpkedehpgaaGreatDoor
open Go
set_option maxRecDepth 100000
theorem lawParts_wfText : Rows.askPartsRow.wfByText (OpenSpec.ofChange Rows.askPartsSpec) = true := by kernel_rfl
theorem lawParts_mainIs : Tryz.pinned.checked.prog.mainIs = some (true, Rows.askPartsCard.stood.harness.2.toList) := by kernel_rfl
theorem lawParts_looks : true = Tryz.pinned.checked.prog.looks [] := by kernel_rfl
end Go.Proofs.YtpdbgpkedehpgaaGreatDoor
