/-
  armarium/armariumlaw17.SheetVersions: the closed facts of its row that ask much, one by one: together they pass the memory limit. No condition.
-/
import Derived.Test.YtnblkjapeiaedaaGreatDoorCards
import Derived.JoinedOf
namespace Go.Proofs.YtnblkjapeiaedaaGreatDoor
open Go
set_option maxRecDepth 100000
theorem lawXVers_wf : Rows.sheetVersionsRow.wf (OpenSpec.ofChange Rows.sheetVersionsSpec) = true := by kernel_rfl
theorem lawXVers_inPlace : Tryz.pinned.checked.prog.inPlace 12 = Rows.sheetVersionsRow.inPlace := by kernel_rfl
theorem lawXVers_unfollowed : Tryz.pinned.checked.prog.unfollowed 12 = Rows.sheetVersionsRow.unfollowed := by kernel_rfl
theorem lawXVers_recurses : Tryz.pinned.checked.prog.recurses 12 = Rows.sheetVersionsRow.recurses := by kernel_rfl
theorem lawXVers_named : Tryz.pinned.checked.prog.varsNamed 12 = Rows.sheetVersionsRow.named := by kernel_rfl
end Go.Proofs.YtnblkjapeiaedaaGreatDoor
