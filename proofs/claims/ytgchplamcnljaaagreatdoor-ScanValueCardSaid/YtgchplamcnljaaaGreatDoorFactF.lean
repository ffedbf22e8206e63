/-
  armariumlaw15.ScanValue: the closed facts of its row that ask much, one by one: together they pass the memory limit.
-/
import Derived.Test.YtgchplamcnljaaaGreatDoorCards
import Derived.JoinedOf
namespace Go.Proofs.YtgchplamcnljaaaGreatDoor
open Go
set_option maxRecDepth 100000
theorem value_wf : Rows.scanValueRow.wf (OpenSpec.ofChange Rows.scanValueSpec) = true := by kernel_rfl
theorem value_inPlace : Tryz.pinned.checked.prog.inPlace 3 = Rows.scanValueRow.inPlace := by kernel_rfl
theorem value_unfollowed : Tryz.pinned.checked.prog.unfollowed 3 = Rows.scanValueRow.unfollowed := by kernel_rfl
theorem value_recurses : Tryz.pinned.checked.prog.recurses 3 = Rows.scanValueRow.recurses := by kernel_rfl
theorem value_named : Tryz.pinned.checked.prog.varsNamed 3 = Rows.scanValueRow.named := by kernel_rfl
end Go.Proofs.YtgchplamcnljaaaGreatDoor
