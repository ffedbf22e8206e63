/-
  armarium/armariumlaw15.ScanMethods: the closed facts of its row that ask much, one by one: together they pass the memory limit. No condition.
-/
import Derived.Test.YtpdbgpkedehpgaaGreatDoorCards
import Derived.JoinedOf
namespace Go.Proofs.YtpdbgpkedehpgaaGreatDoor
open Go
set_option maxRecDepth 100000
theorem lawMeth_wf : Rows.scanMethodsRow.wf (OpenSpec.ofChange Rows.scanMethodsSpec) = true := by kernel_rfl
theorem lawMeth_inPlace : Tryz.pinned.checked.prog.inPlace 14 = Rows.scanMethodsRow.inPlace := by kernel_rfl
theorem lawMeth_unfollowed : Tryz.pinned.checked.prog.unfollowed 14 = Rows.scanMethodsRow.unfollowed := by kernel_rfl
theorem lawMeth_recurses : Tryz.pinned.checked.prog.recurses 14 = Rows.scanMethodsRow.recurses := by kernel_rfl
theorem lawMeth_named : Tryz.pinned.checked.prog.varsNamed 14 = Rows.scanMethodsRow.named := by kernel_rfl
end Go.Proofs.YtpdbgpkedehpgaaGreatDoor
