/-
  armarium/armariumlaw17.SheetAny: the closed facts of its row that ask much, one by one: together they pass the memory limit. No condition.
-/
import Derived.Test.YtnblkjapeiaedaaGreatDoorCards
import Derived.JoinedOf
namespace Go.Proofs.YtnblkjapeiaedaaGreatDoor
open Go
set_option maxRecDepth 100000
theorem lawXAny_wf : Rows.sheetAnyRow.wf (OpenSpec.ofChange Rows.sheetAnySpec) = true := by kernel_rfl
theorem lawXAny_inPlace : Tryz.pinned.checked.prog.inPlace 11 = Rows.sheetAnyRow.inPlace := by kernel_rfl
theorem lawXAny_unfollowed : Tryz.pinned.checked.prog.unfollowed 11 = Rows.sheetAnyRow.unfollowed := by kernel_rfl
theorem lawXAny_recurses : Tryz.pinned.checked.prog.recurses 11 = Rows.sheetAnyRow.recurses := by kernel_rfl
theorem lawXAny_named : Tryz.pinned.checked.prog.varsNamed 11 = Rows.sheetAnyRow.named := by kernel_rfl
end Go.Proofs.YtnblkjapeiaedaaGreatDoor
