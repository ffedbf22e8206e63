/-
  armarium/armariumlaw17.SayLong: closed facts of its card, one by one. No condition.
-/
import Derived.Test.YtnblkjapeiaedaaGreatDoorCards
import Derived.SevenTiedAt
namespace Go.Proofs.YtnblkjapeiaedaaGreatDoor
open Go
set_option maxRecDepth 100000
theorem lawSLong_wfText : Rows.sayLongRow.wfByText (OpenSpec.ofChange Rows.sayLongSpec) = true := by kernel_rfl
theorem lawSLong_mainIs : Tryz.pinned.checked.prog.mainIs = some (true, Rows.sayLongCard.stood.harness.2.toList) := by kernel_rfl
theorem lawSLong_looks : true = Tryz.pinned.checked.prog.looks [] := by kernel_rfl
end Go.Proofs.YtnblkjapeiaedaaGreatDoor
