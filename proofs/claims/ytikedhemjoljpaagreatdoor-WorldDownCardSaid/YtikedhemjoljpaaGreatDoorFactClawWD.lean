/-
  armarium/armariumlaw22.WorldDown: closed facts of its card, one by one. No condition.
-/
import Derived.Test.YtikedhemjoljpaaGreatDoorCards
import Derived.SevenTiedAt
namespace Go.Proofs.YtikedhemjoljpaaGreatDoor
open Go
set_option maxRecDepth 100000
theorem lawWD_wfText : Rows.worldDownRow.wfByText (OpenSpec.ofChange Rows.worldDownSpec) = true := by kernel_rfl
theorem lawWD_mainIs : Tryz.pinned.checked.prog.mainIs = some (true, Rows.worldDownCard.stood.harness.2.toList) := by kernel_rfl
theorem lawWD_looks : true = Tryz.pinned.checked.prog.looks [] := by kernel_rfl
end Go.Proofs.YtikedhemjoljpaaGreatDoor
