/-
  armarium/armariumlaw21.NodeWaits: the closed facts of its row that ask much, one by one: together they pass the memory limit. No condition.
-/
import Derived.Test.YtdegbhgoldglaaaGreatDoorCards
import Derived.JoinedOf
namespace Go.Proofs.YtdegbhgoldglaaaGreatDoor
open Go
set_option maxRecDepth 100000
theorem lawNW_wf : Rows.nodeWaitsRow.wf (OpenSpec.ofChange Rows.nodeWaitsSpec) = true := by kernel_rfl
theorem lawNW_inPlace : Tryz.pinned.checked.prog.inPlace 5 = Rows.nodeWaitsRow.inPlace := by kernel_rfl
theorem lawNW_unfollowed : Tryz.pinned.checked.prog.unfollowed 5 = Rows.nodeWaitsRow.unfollowed := by kernel_rfl
theorem lawNW_recurses : Tryz.pinned.checked.prog.recurses 5 = Rows.nodeWaitsRow.recurses := by kernel_rfl
theorem lawNW_named : Tryz.pinned.checked.prog.varsNamed 5 = Rows.nodeWaitsRow.named := by kernel_rfl
end Go.Proofs.YtdegbhgoldglaaaGreatDoor
