/-
  armarium/armariumlaw17.SayMany: closed facts of its card, one by one. No condition.
-/
import Derived.Test.YtnblkjapeiaedaaGreatDoorCards
import Derived.SevenTiedAt
namespace Go.Proofs.YtnblkjapeiaedaaGreatDoor
open Go
set_option maxRecDepth 100000
theorem lawSMany_wfText : Rows.sayManyRow.wfByText (OpenSpec.ofChange Rows.sayManySpec) = true := by kernel_rfl
theorem lawSMany_mainIs : Tryz.pinned.checked.prog.mainIs = some (true, Rows.sayManyCard.stood.harness.2.toList) := by kernel_rfl
theorem lawSMany_looks : true = Tryz.pinned.checked.prog.looks [] := by kernel_rfl
end Go.Proofs.YtnblkjapeiaedaaGreatDoor
