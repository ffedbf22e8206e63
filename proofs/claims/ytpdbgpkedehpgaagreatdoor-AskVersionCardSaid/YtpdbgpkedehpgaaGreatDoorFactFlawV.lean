/-
  armarium/armariumlaw15.AskVersion: the closed facts of its row that ask much, one by one: together they pass the memory limit. No condition.
-/
import Derived.Test.YtpdbgpkedehpgaaGreatDoorCards
import Derived.JoinedOf
namespace Go.Proofs.YtpdbgpkedehpgaaGreatDoor
open Go
set_option maxRecDepth 100000
theorem lawV_wf : Rows.askVersionRow.wf (OpenSpec.ofChange Rows.askVersionSpec) = true := by kernel_rfl
theorem lawV_inPlace : Tryz.pinned.checked.prog.inPlace 20 = Rows.askVersionRow.inPlace := by kernel_rfl
theorem lawV_unfollowed : Tryz.pinned.checked.prog.unfollowed 20 = Rows.askVersionRow.unfollowed := by kernel_rfl
theorem lawV_recurses : Tryz.pinned.checked.prog.recurses 20 = Rows.askVersionRow.recurses := by kernel_rfl
theorem lawV_named : Tryz.pinned.checked.prog.varsNamed 20 = Rows.askVersionRow.named := by kernel_rfl
end Go.Proofs.YtpdbgpkedehpgaaGreatDoor
