/-
  armariumlaw19.FrontNone: the closed facts of its row that ask much, one by one: together they pass the memory limit.
-/
import Derived.Test.YtdbaigcnlmnliaaGreatDoorCards
import Derived.JoinedOf
namespace Go.Proofs.YtdbaigcnlmnliaaGreatDoor
open Go
set_option maxRecDepth 100000
theorem none_wf : Rows.frontNoneRow.wf (OpenSpec.ofChange Rows.frontNoneSpec) = true := by kernel_rfl
theorem none_inPlace : Tryz.pinned.checked.prog.inPlace 6 = Rows.frontNoneRow.inPlace := by kernel_rfl
theorem none_unfollowed : Tryz.pinned.checked.prog.unfollowed 6 = Rows.frontNoneRow.unfollowed := by kernel_rfl
theorem none_recurses : Tryz.pinned.checked.prog.recurses 6 = Rows.frontNoneRow.recurses := by kernel_rfl
theorem none_named : Tryz.pinned.checked.prog.varsNamed 6 = Rows.frontNoneRow.named := by kernel_rfl
end Go.Proofs.YtdbaigcnlmnliaaGreatDoor
