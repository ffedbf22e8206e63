/-
  armarium/armariumlaw17.SayWords: closed facts of its card, one by one. No condition.
-/
import Derived.Test.YtnblkjapeiaedaaGreatDoorCards
import Derived.SevenTiedAt
namespace Go.Proofs.YtnblkjapeiaedaaGreatDoor
open Go
set_option maxRecDepth 100000
theorem lawWords_wfText : Rows.sayWordsRow.wfByText (OpenSpec.ofChange Rows.sayWordsSpec) = true := by kernel_rfl
theorem lawWords_mainIs : Tryz.pinned.checked.prog.mainIs = some (true, Rows.sayWordsCard.stood.harness.2.toList) := by kernel_rfl
theorem lawWords_looks : true = Tryz.pinned.checked.prog.looks [] := by kernel_rfl
end Go.Proofs.YtnblkjapeiaedaaGreatDoor
