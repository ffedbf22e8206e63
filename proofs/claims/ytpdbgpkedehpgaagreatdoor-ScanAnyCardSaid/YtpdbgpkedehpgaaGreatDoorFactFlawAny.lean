/-
  armarium/armariumlaw15.ScanAny: the closed facts of its row that ask much, one by one: together they pass the memory limit. No condition.
-/
import Derived.Test.YtpdbgpkedehpgaaGreatDoorCards
import Derived.JoinedOf
namespace Go.Proofs.YtpdbgpkedehpgaaGreatDoor
open Go
set_option maxRecDepth 100000
theorem lawAny_wf : Rows.scanAnyRow.wf (OpenSpec.ofChange Rows.scanAnySpec) = true := by kernel_rfl
theorem lawAny_inPlace : Tryz.pinned.checked.prog.inPlace 4 = Rows.scanAnyRow.inPlace := by kernel_rfl
theorem lawAny_unfollowed : Tryz.pinned.checked.prog.unfollowed 4 = Rows.scanAnyRow.unfollowed := by kernel_rfl
theorem lawAny_recurses : Tryz.pinned.checked.prog.recurses 4 = Rows.scanAnyRow.recurses := by kernel_rfl
theorem lawAny_named : Tryz.pinned.checked.prog.varsNamed 4 = Rows.scanAnyRow.named := by kernel_rfl
end Go.Proofs.YtpdbgpkedehpgaaGreatDoor
