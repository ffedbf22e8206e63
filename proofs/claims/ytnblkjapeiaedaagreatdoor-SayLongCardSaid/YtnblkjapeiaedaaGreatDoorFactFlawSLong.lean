/-
  armarium/armariumlaw17.SayLong: the closed facts of its row that ask much, one by one: together they pass the memory limit. No condition.
-/
import Derived.Test.YtnblkjapeiaedaaGreatDoorCards
import Derived.JoinedOf
namespace Go.Proofs.YtnblkjapeiaedaaGreatDoor
open Go
set_option maxRecDepth 100000
theorem lawSLong_wf : Rows.sayLongRow.wf (OpenSpec.ofChange Rows.sayLongSpec) = true := by kernel_rfl
theorem lawSLong_inPlace : Tryz.pinned.checked.prog.inPlace 9 = Rows.sayLongRow.inPlace := by kernel_rfl
theorem lawSLong_unfollowed : Tryz.pinned.checked.prog.unfollowed 9 = Rows.sayLongRow.unfollowed := by kernel_rfl
theorem lawSLong_recurses : Tryz.pinned.checked.prog.recurses 9 = Rows.sayLongRow.recurses := by kernel_rfl
theorem lawSLong_named : Tryz.pinned.checked.prog.varsNamed 9 = Rows.sayLongRow.named := by kernel_rfl
end Go.Proofs.YtnblkjapeiaedaaGreatDoor
