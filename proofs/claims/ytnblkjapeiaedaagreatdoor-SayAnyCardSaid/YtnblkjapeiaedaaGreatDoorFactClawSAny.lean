/-
  armarium/armariumlaw17.SayAny: closed facts of its card, one by one. No condition.
-/
import Derived.Test.YtnblkjapeiaedaaGreatDoorCards
import Derived.SevenTiedAt
namespace Go.Proofs.YtnblkjapeiaedaaGreatDoor
open Go
set_option maxRecDepth 100000
theorem lawSAny_wfText : Rows.sayAnyRow.wfByText (OpenSpec.ofChange Rows.sayAnySpec) = true := by kernel_rfl
theorem lawSAny_mainIs : Tryz.pinned.checked.prog.mainIs = some (true, Rows.sayAnyCard.stood.harness.2.toList) := by kernel_rfl
theorem lawSAny_looks : true = Tryz.pinned.checked.prog.looks [] := by kernel_rfl
end Go.Proofs.YtnblkjapeiaedaaGreatDoor
