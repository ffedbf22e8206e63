/-
  armarium/armariumlaw22.WorldTime: the closed facts of its row that ask much, one by one: together they pass the memory limit. No condition.
-/
import Derived.Test.YtikedhemjoljpaaGreatDoorCards
import Derived.JoinedOf
namespace Go.Proofs.YtikedhemjoljpaaGreatDoor
open Go
set_option maxRecDepth 100000
theorem lawWT_wf : Rows.worldTimeRow.wf (OpenSpec.ofChange Rows.worldTimeSpec) = true := by kernel_rfl
theorem lawWT_inPlace : Tryz.pinned.checked.prog.inPlace 5 = Rows.worldTimeRow.inPlace := by kernel_rfl
theorem lawWT_unfollowed : Tryz.pinned.checked.prog.unfollowed 5 = Rows.worldTimeRow.unfollowed := by kernel_rfl
theorem lawWT_recurses : Tryz.pinned.checked.prog.recurses 5 = Rows.worldTimeRow.recurses := by kernel_rfl
theorem lawWT_named : Tryz.pinned.checked.prog.varsNamed 5 = Rows.worldTimeRow.named := by kernel_rfl
end Go.Proofs.YtikedhemjoljpaaGreatDoor
