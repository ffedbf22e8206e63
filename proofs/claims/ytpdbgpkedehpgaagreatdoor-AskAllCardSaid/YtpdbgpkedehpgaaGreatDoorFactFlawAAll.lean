/-
  armarium/armariumlaw15.AskAll: the closed facts of its row that ask much, one by one: together they pass the memory limit. No condition.
-/
import Derived.Test.YtpdbgpkedehpgaaGreatDoorCards
import Derived.JoinedOf
namespace Go.Proofs.YtpdbgpkedehpgaaGreatDoor
open Go
set_option maxRecDepth 100000
theorem lawAAll_wf : Rows.askAllRow.wf (OpenSpec.ofChange Rows.askAllSpec) = true := by kernel_rfl
theorem lawAAll_inPlace : Tryz.pinned.checked.prog.inPlace 9 = Rows.askAllRow.inPlace := by kernel_rfl
theorem lawAAll_unfollowed : Tryz.pinned.checked.prog.unfollowed 9 = Rows.askAllRow.unfollowed := by kernel_rfl
theorem lawAAll_recurses : Tryz.pinned.checked.prog.recurses 9 = Rows.askAllRow.recurses := by kernel_rfl
theorem lawAAll_named : Tryz.pinned.checked.prog.varsNamed 9 = Rows.askAllRow.named := by kernel_rfl
end Go.Proofs.YtpdbgpkedehpgaaGreatDoor
