/-
  armarium/armariumlaw17.SheetTurn: the closed facts of its row that ask much, one by one: together they pass the memory limit. No condition.
-/
import Derived.Test.YtnblkjapeiaedaaGreatDoorCards
import Derived.JoinedOf
namespace Go.Proofs.YtnblkjapeiaedaaGreatDoor
open Go
set_option maxRecDepth 100000
theorem lawXTurn_wf : Rows.sheetTurnRow.wf (OpenSpec.ofChange Rows.sheetTurnSpec) = true := by kernel_rfl
theorem lawXTurn_inPlace : Tryz.pinned.checked.prog.inPlace 7 = Rows.sheetTurnRow.inPlace := by kernel_rfl
theorem lawXTurn_unfollowed : Tryz.pinned.checked.prog.unfollowed 7 = Rows.sheetTurnRow.unfollowed := by kernel_rfl
theorem lawXTurn_recurses : Tryz.pinned.checked.prog.recurses 7 = Rows.sheetTurnRow.recurses := by kernel_rfl
theorem lawXTurn_named : Tryz.pinned.checked.prog.varsNamed 7 = Rows.sheetTurnRow.named := by kernel_rfl
end Go.Proofs.YtnblkjapeiaedaaGreatDoor
