/-
  armarium/armariumlaw17.SheetAll: the closed facts of its row that ask much, one by one: together they pass the memory limit. No condition.
-/
import Derived.Test.YtnblkjapeiaedaaGreatDoorCards
import Derived.JoinedOf
namespace Go.Proofs.YtnblkjapeiaedaaGreatDoor
open Go
set_option maxRecDepth 100000
theorem lawXAll_wf : Rows.sheetAllRow.wf (OpenSpec.ofChange Rows.sheetAllSpec) = true := by kernel_rfl
theorem lawXAll_inPlace : Tryz.pinned.checked.prog.inPlace 6 = Rows.sheetAllRow.inPlace := by kernel_rfl
theorem lawXAll_unfollowed : Tryz.pinned.checked.prog.unfollowed 6 = Rows.sheetAllRow.unfollowed := by kernel_rfl
theorem lawXAll_recurses : Tryz.pinned.checked.prog.recurses 6 = Rows.sheetAllRow.recurses := by kernel_rfl
theorem lawXAll_named : Tryz.pinned.checked.prog.varsNamed 6 = Rows.sheetAllRow.named := by kernel_rfl
end Go.Proofs.YtnblkjapeiaedaaGreatDoor
