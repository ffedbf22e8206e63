/-
  armarium/armariumlaw15.ScanEncoding: the closed facts of its row that ask much, one by one: together they pass the memory limit. No condition.
-/
import Derived.Test.YtpdbgpkedehpgaaGreatDoorCards
import Derived.JoinedOf
namespace Go.Proofs.YtpdbgpkedehpgaaGreatDoor
open Go
set_option maxRecDepth 100000
theorem lawEnc_wf : Rows.scanEncodingRow.wf (OpenSpec.ofChange Rows.scanEncodingSpec) = true := by kernel_rfl
theorem lawEnc_inPlace : Tryz.pinned.checked.prog.inPlace 17 = Rows.scanEncodingRow.inPlace := by kernel_rfl
theorem lawEnc_unfollowed : Tryz.pinned.checked.prog.unfollowed 17 = Rows.scanEncodingRow.unfollowed := by kernel_rfl
theorem lawEnc_recurses : Tryz.pinned.checked.prog.recurses 17 = Rows.scanEncodingRow.recurses := by kernel_rfl
theorem lawEnc_named : Tryz.pinned.checked.prog.varsNamed 17 = Rows.scanEncodingRow.named := by kernel_rfl
end Go.Proofs.YtpdbgpkedehpgaaGreatDoor
