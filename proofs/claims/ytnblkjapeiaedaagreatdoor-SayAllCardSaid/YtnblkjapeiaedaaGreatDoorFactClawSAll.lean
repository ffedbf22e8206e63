/-
  armarium/armariumlaw17.SayAll: closed facts of its card, one by one. No condition.
-/
import Derived.Test.YtnblkjapeiaedaaGreatDoorCards
import Derived.SevenTiedAt
namespace Go.Proofs.YtnblkjapeiaedaaGreatDoor
open Go
set_option maxRecDepth 100000
theorem lawSAll_wfText : Rows.sayAllRow.wfByText (OpenSpec.ofChange Rows.sayAllSpec) = true := by kernel_rfl
theorem lawSAll_mainIs : Tryz.pinned.checked.prog.mainIs = some (true, Rows.sayAllCard.stood.harness.2.toList) := by kernel_rfl
theorem lawSAll_looks : true = Tryz.pinned.checked.prog.looks [] := by kernel_rfl
end Go.Proofs.YtnblkjapeiaedaaGreatDoor
