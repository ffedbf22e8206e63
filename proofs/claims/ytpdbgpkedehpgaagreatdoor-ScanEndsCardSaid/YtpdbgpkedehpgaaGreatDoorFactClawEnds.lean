/-
  armarium/armariumlaw15.ScanEnds: closed facts of its card, one by one. No condition.
-/
import Derived.Test.YtpdbgpkedehpgaaGreatDoorCards
import Derived.SevenTiedAt
namespace Go.Proofs.YtpdbgpkedehpgaaGreatDoor
open Go
set_option maxRecDepth 100000
theorem lawEnds_wfText : Rows.scanEndsRow.wfByText (OpenSpec.ofChange Rows.scanEndsSpec) = true := by kernel_rfl
theorem lawEnds_mainIs : Tryz.pinned.checked.prog.mainIs = some (true, Rows.scanEndsCard.stood.harness.2.toList) := by kernel_rfl
theorem lawEnds_looks : true = Tryz.pinned.checked.prog.looks [] := by kernel_rfl
end Go.Proofs.YtpdbgpkedehpgaaGreatDoor
