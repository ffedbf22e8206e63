/-
  armarium/armariumlaw15.ScanAll: the closed facts of its row that ask much, one by one: together they pass the memory limit. No condition.
-/
import Derived.Test.YtpdbgpkedehpgaaGreatDoorCards
import Derived.JoinedOf
namespace Go.Proofs.YtpdbgpkedehpgaaGreatDoor
open Go
set_option maxRecDepth 100000
theorem lawAll_wf : Rows.scanAllRow.wf (OpenSpec.ofChange Rows.scanAllSpec) = true := by kernel_rfl
theorem lawAll_inPlace : Tryz.pinned.checked.prog.inPlace 3 = Rows.scanAllRow.inPlace := by kernel_rfl
theorem lawAll_unfollowed : Tryz.pinned.checked.prog.unfollowed 3 = Rows.scanAllRow.unfollowed := by kernel_rfl
theorem lawAll_recurses : Tryz.pinned.checked.prog.recurses 3 = Rows.scanAllRow.recurses := by kernel_rfl
theorem lawAll_named : Tryz.pinned.checked.prog.varsNamed 3 = Rows.scanAllRow.named := by kernel_rfl
end Go.Proofs.YtpdbgpkedehpgaaGreatDoor
