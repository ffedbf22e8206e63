/-
  armarium/armariumlaw22.WorldSizes: the closed facts of its row that ask much, one by one: together they pass the memory limit. No condition.
-/
import Derived.Test.YtikedhemjoljpaaGreatDoorCards
import Derived.JoinedOf
namespace Go.Proofs.YtikedhemjoljpaaGreatDoor
open Go
set_option maxRecDepth 100000
theorem lawWS_wf : Rows.worldSizesRow.wf (OpenSpec.ofChange Rows.worldSizesSpec) = true := by kernel_rfl
theorem lawWS_inPlace : Tryz.pinned.checked.prog.inPlace 4 = Rows.worldSizesRow.inPlace := by kernel_rfl
theorem lawWS_unfollowed : Tryz.pinned.checked.prog.unfollowed 4 = Rows.worldSizesRow.unfollowed := by kernel_rfl
theorem lawWS_recurses : Tryz.pinned.checked.prog.recurses 4 = Rows.worldSizesRow.recurses := by kernel_rfl
theorem lawWS_named : Tryz.pinned.checked.prog.varsNamed 4 = Rows.worldSizesRow.named := by kernel_rfl
end Go.Proofs.YtikedhemjoljpaaGreatDoor
