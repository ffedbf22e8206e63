/-
  armarium/armariumlaw17.SayHeads: closed facts of its card, one by one. No condition.
-/
import Derived.Test.YtnblkjapeiaedaaGreatDoorCards
import Derived.SevenTiedAt
namespace Go.Proofs.YtnblkjapeiaedaaGreatDoor
open Go
set_option maxRecDepth 100000
theorem lawHeads_wfText : Rows.sayHeadsRow.wfByText (OpenSpec.ofChange Rows.sayHeadsSpec) = true := by kernel_rfl
theorem lawHeads_mainIs : Tryz.pinned.checked.prog.mainIs = some (true, Rows.sayHeadsCard.stood.harness.2.toList) := by kernel_rfl
theorem lawHeads_looks : true = Tryz.pinned.checked.prog.looks [] := by kernel_rfl
end Go.Proofs.YtnblkjapeiaedaaGreatDoor
