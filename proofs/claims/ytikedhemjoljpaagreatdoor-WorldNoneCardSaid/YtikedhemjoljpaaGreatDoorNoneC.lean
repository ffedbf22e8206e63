/-
  armariumlaw22.WorldNone: closed facts of its card, one by one.
-/
import Derived.Test.YtikedhemjoljpaaGreatDoorCards
import Derived.SevenTiedAt
namespace Go.Proofs.YtikedhemjoljpaaGreatDoor
open Go
set_option maxRecDepth 100000
theorem none_wfText : Rows.worldNoneRow.wfByText (OpenSpec.ofChange Rows.worldNoneSpec) = true := by kernel_rfl
theorem prog_mainIs : Tryz.pinned.checked.prog.mainIs = some (true, Rows.worldNoneCard.stood.harness.2.toList) := by kernel_rfl
theorem prog_looks : true = Tryz.pinned.checked.prog.looks [] := by kernel_rfl
end Go.Proofs.YtikedhemjoljpaaGreatDoor
