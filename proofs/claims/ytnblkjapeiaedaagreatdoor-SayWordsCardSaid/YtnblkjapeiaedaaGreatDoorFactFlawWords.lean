/-
  armarium/armariumlaw17.SayWords: the closed facts of its row that ask much, one by one: together they pass the memory limit. No condition.
-/
import Derived.Test.YtnblkjapeiaedaaGreatDoorCards
import Derived.JoinedOf
namespace Go.Proofs.YtnblkjapeiaedaaGreatDoor
open Go
set_option maxRecDepth 100000
theorem lawWords_wf : Rows.sayWordsRow.wf (OpenSpec.ofChange Rows.sayWordsSpec) = true := by kernel_rfl
theorem lawWords_inPlace : Tryz.pinned.checked.prog.inPlace 8 = Rows.sayWordsRow.inPlace := by kernel_rfl
theorem lawWords_unfollowed : Tryz.pinned.checked.prog.unfollowed 8 = Rows.sayWordsRow.unfollowed := by kernel_rfl
theorem lawWords_recurses : Tryz.pinned.checked.prog.recurses 8 = Rows.sayWordsRow.recurses := by kernel_rfl
theorem lawWords_named : Tryz.pinned.checked.prog.varsNamed 8 = Rows.sayWordsRow.named := by kernel_rfl
end Go.Proofs.YtnblkjapeiaedaaGreatDoor
