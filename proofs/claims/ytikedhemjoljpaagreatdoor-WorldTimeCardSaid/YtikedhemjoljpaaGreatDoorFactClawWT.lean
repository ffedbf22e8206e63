/-
  armarium/armariumlaw22.WorldTime: closed facts of its card, one by one. No condition.
-/
import Derived.Test.YtikedhemjoljpaaGreatDoorCards
import Derived.SevenTiedAt
namespace Go.Proofs.YtikedhemjoljpaaGreatDoor
open Go
set_option maxRecDepth 100000
theorem lawWT_wfText : Rows.worldTimeRow.wfByText (OpenSpec.ofChange Rows.worldTimeSpec) = true := by kernel_rfl
theorem lawWT_mainIs : Tryz.pinned.checked.prog.mainIs = some (true, Rows.worldTimeCard.stood.harness.2.toList) := by kernel_rfl
theorem lawWT_looks : true = Tryz.pinned.checked.prog.looks [] := by kernel_rfl
end Go.Proofs.YtikedhemjoljpaaGreatDoor
