/-
  armarium/armariumlaw15.ScanEncoding: closed facts of its card, one by one. No condition.
-/
import Derived.Test.YtpdbgpkedehpgaaGreatDoorCards
import Derived.SevenTiedAt
namespace Go.Proofs.YtpdbgpkedehpgaaGreatDoor
open Go
set_option maxRecDepth 100000
theorem lawEnc_wfText : Rows.scanEncodingRow.wfByText (OpenSpec.ofChange Rows.scanEncodingSpec) = true := by kernel_rfl
theorem lawEnc_mainIs : Tryz.pinned.checked.prog.mainIs = some (true, Rows.scanEncodingCard.stood.harness.2.toList) := by kernel_rfl
theorem lawEnc_looks : true = Tryz.pinned.checked.prog.looks [] := by kernel_rfl
end Go.Proofs.YtpdbgpkedehpgaaGreatDoor
