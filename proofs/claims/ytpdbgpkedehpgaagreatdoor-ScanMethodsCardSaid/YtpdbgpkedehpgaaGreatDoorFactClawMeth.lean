/-
  armarium/armariumlaw15.ScanMethods: closed facts of its card, one by one. No condition.
-/
import Derived.Test.YtpdbgpkedehpgaaGreatDoorCards
import Derived.SevenTiedAt
namespace Go.Proofs.YtpdbgpkedehpgaaGreatDoor
open Go
set_option maxRecDepth 100000
theorem lawMeth_wfText : Rows.scanMethodsRow.wfByText (OpenSpec.ofChange Rows.scanMethodsSpec) = true := by kernel_rfl
theorem lawMeth_mainIs : Tryz.pinned.checked.prog.mainIs = some (true, Rows.scanMethodsCard.stood.harness.2.toList) := by kernel_rfl
theorem lawMeth_looks : true = Tryz.pinned.checked.prog.looks [] := by kernel_rfl
end Go.Proofs.YtpdbgpkedehpgaaGreatDoor
