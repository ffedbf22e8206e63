/-
  armarium/armariumlaw21.NodeDone: the closed facts of its row that ask much, one by one: together they pass the memory limit. No condition.
-/
import Derived.Test.YtdegbhgoldglaaaGreatDoorCards
import Derived.JoinedOf
namespace Go.Proofs.YtdegbhgoldglaaaGreatDoor
open Go
set_option maxRecDepth 100000
theorem lawND_wf : Rows.nodeDoneRow.wf (OpenSpec.ofChange Rows.nodeDoneSpec) = true := by kernel_rfl
theorem lawND_inPlace : Tryz.pinned.checked.prog.inPlace 4 = Rows.nodeDoneRow.inPlace := by kernel_rfl
theorem lawND_unfollowed : Tryz.pinned.checked.prog.unfollowed 4 = Rows.nodeDoneRow.unfollowed := by kernel_rfl
theorem lawND_recurses : Tryz.pinned.checked.prog.recurses 4 = Rows.nodeDoneRow.recurses := by kernel_rfl
theorem lawND_named : Tryz.pinned.checked.prog.varsNamed 4 = Rows.nodeDoneRow.named := by kernel_rfl
end Go.Proofs.YtdegbhgoldglaaaGreatDoor
