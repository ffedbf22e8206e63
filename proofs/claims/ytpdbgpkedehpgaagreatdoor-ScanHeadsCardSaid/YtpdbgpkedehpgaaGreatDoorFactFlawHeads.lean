/-
  armarium/armariumlaw15.ScanHeads: the closed facts of its row that ask much, one by one: together they pass the memory limit. No condition.
-/
import Derived.Test.YtpdbgpkedehpgaaGreatDoorCards
import Derived.JoinedOf
namespace Go.Proofs.YtpdbgpkedehpgaaGreatDoor
open Go
set_option maxRecDepth 100000
theorem lawHeads_wf : Rows.scanHeadsRow.wf (OpenSpec.ofChange Rows.scanHeadsSpec) = true := by kernel_rfl
theorem lawHeads_inPlace : Tryz.pinned.checked.prog.inPlace 15 = Rows.scanHeadsRow.inPlace := by kernel_rfl
theorem lawHeads_unfollowed : Tryz.pinned.checked.prog.unfollowed 15 = Rows.scanHeadsRow.unfollowed := by kernel_rfl
theorem lawHeads_recurses : Tryz.pinned.checked.prog.recurses 15 = Rows.scanHeadsRow.recurses := by kernel_rfl
theorem lawHeads_named : Tryz.pinned.checked.prog.varsNamed 15 = Rows.scanHeadsRow.named := by kernel_rfl
end Go.Proofs.YtpdbgpkedehpgaaGreatDoor
