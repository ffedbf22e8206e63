/-
  armarium/armariumlaw15.ScanDone: the closed facts of its row that ask much, one by one: together they pass the memory limit. No condition.
-/
import Derived.Test.YtpdbgpkedehpgaaGreatDoorCards
import Derived.JoinedOf
namespace Go.Proofs.YtpdbgpkedehpgaaGreatDoor
open Go
set_option maxRecDepth 100000
theorem lawDone_wf : Rows.scanDoneRow.wf (OpenSpec.ofChange Rows.scanDoneSpec) = true := by kernel_rfl
theorem lawDone_inPlace : Tryz.pinned.checked.prog.inPlace 8 = Rows.scanDoneRow.inPlace := by kernel_rfl
theorem lawDone_unfollowed : Tryz.pinned.checked.prog.unfollowed 8 = Rows.scanDoneRow.unfollowed := by kernel_rfl
theorem lawDone_recurses : Tryz.pinned.checked.prog.recurses 8 = Rows.scanDoneRow.recurses := by kernel_rfl
theorem lawDone_named : Tryz.pinned.checked.prog.varsNamed 8 = Rows.scanDoneRow.named := by kernel_rfl
end Go.Proofs.YtpdbgpkedehpgaaGreatDoor
