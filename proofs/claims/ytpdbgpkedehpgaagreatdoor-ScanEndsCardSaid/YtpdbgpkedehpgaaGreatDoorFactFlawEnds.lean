/-
  armarium/armariumlaw15.ScanEnds: the closed facts of its row that ask much, one by one: together they pass the memory limit. No condition.
-/
import Derived.Test.YtpdbgpkedehpgaaGreatDoorCards
import Derived.JoinedOf
namespace Go.Proofs.YtpdbgpkedehpgaaGreatDoor
open Go
set_option maxRecDepth 100000
theorem lawEnds_wf : Rows.scanEndsRow.wf (OpenSpec.ofChange Rows.scanEndsSpec) = true := by kernel_rfl
theorem lawEnds_inPlace : Tryz.pinned.checked.prog.inPlace 16 = Rows.scanEndsRow.inPlace := by kernel_rfl
theorem lawEnds_unfollowed : Tryz.pinned.checked.prog.unfollowed 16 = Rows.scanEndsRow.unfollowed := by kernel_rfl
theorem lawEnds_recurses : Tryz.pinned.checked.prog.recurses 16 = Rows.scanEndsRow.recurses := by kernel_rfl
theorem lawEnds_named : Tryz.pinned.checked.prog.varsNamed 16 = Rows.scanEndsRow.named := by kernel_rfl
end Go.Proofs.YtpdbgpkedehpgaaGreatDoor
