/-
  armarium/armariumlaw17.SayAny: the closed facts of its row that ask much, one by one: together they pass the memory limit. No condition.
-/
import Derived.Test.YtnblkjapeiaedaaGreatDoorCards
import Derived.JoinedOf
namespace Go.Proofs.YtnblkjapeiaedaaGreatDoor
open Go
set_option maxRecDepth 100000
theorem lawSAny_wf : Rows.sayAnyRow.wf (OpenSpec.ofChange Rows.sayAnySpec) = true := by kernel_rfl
theorem lawSAny_inPlace : Tryz.pinned.checked.prog.inPlace 4 = Rows.sayAnyRow.inPlace := by kernel_rfl
theorem lawSAny_unfollowed : Tryz.pinned.checked.prog.unfollowed 4 = Rows.sayAnyRow.unfollowed := by kernel_rfl
theorem lawSAny_recurses : Tryz.pinned.checked.prog.recurses 4 = Rows.sayAnyRow.recurses := by kernel_rfl
theorem lawSAny_named : Tryz.pinned.checked.prog.varsNamed 4 = Rows.sayAnyRow.named := by kernel_rfl
end Go.Proofs.YtnblkjapeiaedaaGreatDoor
