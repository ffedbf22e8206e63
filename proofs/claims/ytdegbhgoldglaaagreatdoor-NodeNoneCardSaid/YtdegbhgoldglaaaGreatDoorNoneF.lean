/-
  armariumlaw21.NodeNone: the closed facts of its row that ask much, one by one: together they pass the memory limit.
-/
import Derived.Test.YtdegbhgoldglaaaGreatDoorCards
import Derived.JoinedOf
namespace Go.Proofs.YtdegbhgoldglaaaGreatDoor
open Go
set_option maxRecDepth 100000
theorem none_wf : Rows.nodeNoneRow.wf (OpenSpec.ofChange Rows.nodeNoneSpec) = true := by kernel_rfl
theorem none_inPlace : Tryz.pinned.checked.prog.inPlace 6 = Rows.nodeNoneRow.inPlace := by kernel_rfl
theorem none_unfollowed : Tryz.pinned.checked.prog.unfollowed 6 = Rows.nodeNoneRow.unfollowed := by kernel_rfl
theorem none_recurses : Tryz.pinned.checked.prog.recurses 6 = Rows.nodeNoneRow.recurses := by kernel_rfl
theorem none_named : Tryz.pinned.checked.prog.varsNamed 6 = Rows.nodeNoneRow.named := by kernel_rfl
end Go.Proofs.YtdegbhgoldglaaaGreatDoor
