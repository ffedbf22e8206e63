/-
  armarium/armariumlaw15.ScanTurn: the closed facts of its row that ask much, one by one: together they pass the memory limit. No condition.
-/
import Derived.Test.YtpdbgpkedehpgaaGreatDoorCards
import Derived.JoinedOf
namespace Go.Proofs.YtpdbgpkedehpgaaGreatDoor
open Go
set_option maxRecDepth 100000
theorem lawTurn_wf : Rows.scanTurnRow.wf (OpenSpec.ofChange Rows.scanTurnSpec) = true := by kernel_rfl
theorem lawTurn_inPlace : Tryz.pinned.checked.prog.inPlace 5 = Rows.scanTurnRow.inPlace := by kernel_rfl
theorem lawTurn_unfollowed : Tryz.pinned.checked.prog.unfollowed 5 = Rows.scanTurnRow.unfollowed := by kernel_rfl
theorem lawTurn_recurses : Tryz.pinned.checked.prog.recurses 5 = Rows.scanTurnRow.recurses := by kernel_rfl
theorem lawTurn_named : Tryz.pinned.checked.prog.varsNamed 5 = Rows.scanTurnRow.named := by kernel_rfl
end Go.Proofs.YtpdbgpkedehpgaaGreatDoor
