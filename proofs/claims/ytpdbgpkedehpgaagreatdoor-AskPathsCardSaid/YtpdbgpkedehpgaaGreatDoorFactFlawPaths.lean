/-
  armarium/armariumlaw15.AskPaths: the closed facts of its row that ask much, one by one: together they pass the memory limit. No condition.
-/
import Derived.Test.YtpdbgpkedehpgaaGreatDoorCards
import Derived.JoinedOf
namespace Go.Proofs.YtpdbgpkedehpgaaGreatDoor
open Go
set_option maxRecDepth 100000
theorem lawPaths_wf : Rows.askPathsRow.wf (OpenSpec.ofChange Rows.askPathsSpec) = true := by kernel_rfl
theorem lawPaths_inPlace : Tryz.pinned.checked.prog.inPlace 18 = Rows.askPathsRow.inPlace := by kernel_rfl
theorem lawPaths_unfollowed : Tryz.pinned.checked.prog.unfollowed 18 = Rows.askPathsRow.unfollowed := by kernel_rfl
theorem lawPaths_recurses : Tryz.pinned.checked.prog.recurses 18 = Rows.askPathsRow.recurses := by kernel_rfl
theorem lawPaths_named : Tryz.pinned.checked.prog.varsNamed 18 = Rows.askPathsRow.named := by kernel_rfl
end Go.Proofs.YtpdbgpkedehpgaaGreatDoor
