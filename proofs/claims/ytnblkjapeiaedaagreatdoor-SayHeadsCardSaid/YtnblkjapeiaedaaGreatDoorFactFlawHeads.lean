/-
  armarium/armariumlaw17.SayHeads: the closed facts of its row that ask much, one by one: together they pass the memory limit. No condition.
-/
import Derived.Test.YtnblkjapeiaedaaGreatDoorCards
import Derived.JoinedOf
namespace Go.Proofs.YtnblkjapeiaedaaGreatDoor
open Go
set_option maxRecDepth 100000
theorem lawHeads_wf : Rows.sayHeadsRow.wf (OpenSpec.ofChange Rows.sayHeadsSpec) = true := by kernel_rfl
theorem lawHeads_inPlace : Tryz.pinned.checked.prog.inPlace 10 = Rows.sayHeadsRow.inPlace := by kernel_rfl
theorem lawHeads_unfollowed : Tryz.pinned.checked.prog.unfollowed 10 = Rows.sayHeadsRow.unfollowed := by kernel_rfl
theorem lawHeads_recurses : Tryz.pinned.checked.prog.recurses 10 = Rows.sayHeadsRow.recurses := by kernel_rfl
theorem lawHeads_named : Tryz.pinned.checked.prog.varsNamed 10 = Rows.sayHeadsRow.named := by kernel_rfl
end Go.Proofs.YtnblkjapeiaedaaGreatDoor
