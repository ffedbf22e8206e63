/-
  armarium/armariumlaw15.ScanMany: the closed facts of its row that ask much, one by one: together they pass the memory limit. No condition.
-/
import Derived.Test.YtpdbgpkedehpgaaGreatDoorCards
import Derived.JoinedOf
namespace Go.Proofs.YtpdbgpkedehpgaaGreatDoor
open Go
set_option maxRecDepth 100000
theorem lawMany_wf : Rows.scanManyRow.wf (OpenSpec.ofChange Rows.scanManySpec) = true := by kernel_rfl
theorem lawMany_inPlace : Tryz.pinned.checked.prog.inPlace 13 = Rows.scanManyRow.inPlace := by kernel_rfl
theorem lawMany_unfollowed : Tryz.pinned.checked.prog.unfollowed 13 = Rows.scanManyRow.unfollowed := by kernel_rfl
theorem lawMany_recurses : Tryz.pinned.checked.prog.recurses 13 = Rows.scanManyRow.recurses := by kernel_rfl
theorem lawMany_named : Tryz.pinned.checked.prog.varsNamed 13 = Rows.scanManyRow.named := by kernel_rfl
end Go.Proofs.YtpdbgpkedehpgaaGreatDoor
