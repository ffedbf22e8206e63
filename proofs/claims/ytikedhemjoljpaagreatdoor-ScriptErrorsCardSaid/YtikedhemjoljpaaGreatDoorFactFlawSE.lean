/-
  armarium/armariumlaw22.ScriptErrors: the closed facts of its row that ask much, one by one: together they pass the memory limit. No condition.
-/
import Derived.Test.YtikedhemjoljpaaGreatDoorCards
import Derived.JoinedOf
namespace Go.Proofs.YtikedhemjoljpaaGreatDoor
open Go
set_option maxRecDepth 100000
theorem lawSE_wf : Rows.scriptErrorsRow.wf (OpenSpec.ofChange Rows.scriptErrorsSpec) = true := by kernel_rfl
theorem lawSE_inPlace : Tryz.pinned.checked.prog.inPlace 7 = Rows.scriptErrorsRow.inPlace := by kernel_rfl
theorem lawSE_unfollowed : Tryz.pinned.checked.prog.unfollowed 7 = Rows.scriptErrorsRow.unfollowed := by kernel_rfl
theorem lawSE_recurses : Tryz.pinned.checked.prog.recurses 7 = Rows.scriptErrorsRow.recurses := by kernel_rfl
theorem lawSE_named : Tryz.pinned.checked.prog.varsNamed 7 = Rows.scriptErrorsRow.named := by kernel_rfl
end Go.Proofs.YtikedhemjoljpaaGreatDoor
