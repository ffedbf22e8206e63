/-
  armarium/armariumlaw17.SayMany: the closed facts of its row that ask much, one by one: together they pass the memory limit. No condition.
-/
import Derived.Test.YtnblkjapeiaedaaGreatDoorCards
import Derived.JoinedOf
namespace Go.Proofs.YtnblkjapeiaedaaGreatDoor
open Go
set_option maxRecDepth 100000
theorem lawSMany_wf : Rows.sayManyRow.wf (OpenSpec.ofChange Rows.sayManySpec) = true := by kernel_rfl
theorem lawSMany_inPlace : Tryz.pinned.checked.prog.inPlace 5 = Rows.sayManyRow.inPlace := by kernel_rfl
theorem lawSMany_unfollowed : Tryz.pinned.checked.prog.unfollowed 5 = Rows.sayManyRow.unfollowed := by kernel_rfl
theorem lawSMany_recurses : Tryz.pinned.checked.prog.recurses 5 = Rows.sayManyRow.recurses := by kernel_rfl
theorem lawSMany_named : Tryz.pinned.checked.prog.varsNamed 5 = Rows.sayManyRow.named := by kernel_rfl
end Go.Proofs.YtnblkjapeiaedaaGreatDoor
