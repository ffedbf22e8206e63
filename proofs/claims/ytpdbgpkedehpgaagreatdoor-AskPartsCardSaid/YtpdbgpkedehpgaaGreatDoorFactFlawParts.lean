/-
  armarium/armariumlaw15.AskParts: the closed facts of its row that ask much, one by one: together they pass the memory limit. No condition.
-/
import Derived.Test.YtpdbgpkedehpgaaGreatDoorCards
import Derived.JoinedOf
namespace Go.Proofs.YtpdbgpkedehpgaaGreatDoor
open Go
set_option maxRecDepth 100000
theorem lawParts_wf : Rows.askPartsRow.wf (OpenSpec.ofChange Rows.askPartsSpec) = true := by kernel_rfl
theorem lawParts_inPlace : Tryz.pinned.checked.prog.inPlace 19 = Rows.askPartsRow.inPlace := by kernel_rfl
theorem lawParts_unfollowed : Tryz.pinned.checked.prog.unfollowed 19 = Rows.askPartsRow.unfollowed := by kernel_rfl
theorem lawParts_recurses : Tryz.pinned.checked.prog.recurses 19 = Rows.askPartsRow.recurses := by kernel_rfl
theorem lawParts_named : Tryz.pinned.checked.prog.varsNamed 19 = Rows.askPartsRow.named := by kernel_rfl
end Go.Proofs.YtpdbgpkedehpgaaGreatDoor
