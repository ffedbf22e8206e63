/-
  armarium/armariumlaw15.ScanLength: the closed facts of its row that ask much, one by one: together they pass the memory limit. No condition.
-/
import Derived.Test.YtpdbgpkedehpgaaGreatDoorCards
import Derived.JoinedOf
namespace Go.Proofs.YtpdbgpkedehpgaaGreatDoor
open Go
set_option maxRecDepth 100000
theorem lawLen_wf : Rows.scanLengthRow.wf (OpenSpec.ofChange Rows.scanLengthSpec) = true := by kernel_rfl
theorem lawLen_inPlace : Tryz.pinned.checked.prog.inPlace 6 = Rows.scanLengthRow.inPlace := by kernel_rfl
theorem lawLen_unfollowed : Tryz.pinned.checked.prog.unfollowed 6 = Rows.scanLengthRow.unfollowed := by kernel_rfl
theorem lawLen_recurses : Tryz.pinned.checked.prog.recurses 6 = Rows.scanLengthRow.recurses := by kernel_rfl
theorem lawLen_named : Tryz.pinned.checked.prog.varsNamed 6 = Rows.scanLengthRow.named := by kernel_rfl
end Go.Proofs.YtpdbgpkedehpgaaGreatDoor
