/-
  armarium/armariumlaw17.SayAll: the closed facts of its row that ask much, one by one: together they pass the memory limit. No condition.
-/
import Derived.Test.YtnblkjapeiaedaaGreatDoorCards
import Derived.JoinedOf
namespace Go.Proofs.YtnblkjapeiaedaaGreatDoor
open Go
set_option maxRecDepth 100000
theorem lawSAll_wf : Rows.sayAllRow.wf (OpenSpec.ofChange Rows.sayAllSpec) = true := by kernel_rfl
theorem lawSAll_inPlace : Tryz.pinned.checked.prog.inPlace 3 = Rows.sayAllRow.inPlace := by kernel_rfl
theorem lawSAll_unfollowed : Tryz.pinned.checked.prog.unfollowed 3 = Rows.sayAllRow.unfollowed := by kernel_rfl
theorem lawSAll_recurses : Tryz.pinned.checked.prog.recurses 3 = Rows.sayAllRow.recurses := by kernel_rfl
theorem lawSAll_named : Tryz.pinned.checked.prog.varsNamed 3 = Rows.sayAllRow.named := by kernel_rfl
end Go.Proofs.YtnblkjapeiaedaaGreatDoor
