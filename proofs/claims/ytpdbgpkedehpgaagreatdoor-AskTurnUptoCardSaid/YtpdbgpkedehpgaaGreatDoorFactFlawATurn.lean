/-
  armarium/armariumlaw15.AskTurn: the closed facts of its row that ask much, one by one: together they pass the memory limit. No condition.
-/
import Derived.Test.YtpdbgpkedehpgaaGreatDoorCards
import Derived.JoinedOf
namespace Go.Proofs.YtpdbgpkedehpgaaGreatDoor
open Go
set_option maxRecDepth 100000
theorem lawATurn_wf : Rows.askTurnUptoRow.wf (OpenSpec.ofChange Rows.askTurnSpec) = true := by kernel_rfl
theorem lawATurn_inPlace : Tryz.pinned.checked.prog.inPlace 10 = Rows.askTurnUptoRow.inPlace := by kernel_rfl
theorem lawATurn_unfollowed : Tryz.pinned.checked.prog.unfollowed 10 = Rows.askTurnUptoRow.unfollowed := by kernel_rfl
theorem lawATurn_recurses : Tryz.pinned.checked.prog.recurses 10 = Rows.askTurnUptoRow.recurses := by kernel_rfl
theorem lawATurn_named : Tryz.pinned.checked.prog.varsNamed 10 = Rows.askTurnUptoRow.named := by kernel_rfl
end Go.Proofs.YtpdbgpkedehpgaaGreatDoor
