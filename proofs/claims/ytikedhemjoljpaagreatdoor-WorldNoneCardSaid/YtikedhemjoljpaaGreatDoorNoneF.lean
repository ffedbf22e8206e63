/-
  armariumlaw22.WorldNone: the closed facts of its row that ask much, one by one: together they pass the memory limit.
-/
import Derived.Test.YtikedhemjoljpaaGreatDoorCards
import Derived.JoinedOf
namespace Go.Proofs.YtikedhemjoljpaaGreatDoor
open Go
set_option maxRecDepth 100000
theorem none_wf : Rows.worldNoneRow.wf (OpenSpec.ofChange Rows.worldNoneSpec) = true := by kernel_rfl
theorem none_inPlace : Tryz.pinned.checked.prog.inPlace 3 = Rows.worldNoneRow.inPlace := by kernel_rfl
theorem none_unfollowed : Tryz.pinned.checked.prog.unfollowed 3 = Rows.worldNoneRow.unfollowed := by kernel_rfl
theorem none_recurses : Tryz.pinned.checked.prog.recurses 3 = Rows.worldNoneRow.recurses := by kernel_rfl
theorem none_named : Tryz.pinned.checked.prog.varsNamed 3 = Rows.worldNoneRow.named := by kernel_rfl
end Go.Proofs.YtikedhemjoljpaaGreatDoor
