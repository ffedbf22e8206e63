/-
  armarium/armariumlaw22.WorldDown: the closed facts of its row that ask much, one by one: together they pass the memory limit. No condition.
-/
import Derived.Test.YtikedhemjoljpaaGreatDoorCards
import Derived.JoinedOf
namespace Go.Proofs.YtikedhemjoljpaaGreatDoor
open Go
set_option maxRecDepth 100000
theorem lawWD_wf : Rows.worldDownRow.wf (OpenSpec.ofChange Rows.worldDownSpec) = true := by kernel_rfl
theorem lawWD_inPlace : Tryz.pinned.checked.prog.inPlace 6 = Rows.worldDownRow.inPlace := by kernel_rfl
theorem lawWD_unfollowed : Tryz.pinned.checked.prog.unfollowed 6 = Rows.worldDownRow.unfollowed := by kernel_rfl
theorem lawWD_recurses : Tryz.pinned.checked.prog.recurses 6 = Rows.worldDownRow.recurses := by kernel_rfl
theorem lawWD_named : Tryz.pinned.checked.prog.varsNamed 6 = Rows.worldDownRow.named := by kernel_rfl
end Go.Proofs.YtikedhemjoljpaaGreatDoor
