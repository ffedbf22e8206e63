/-
  armarium/armariumlaw22.CalmQuiet: the closed facts of its row that ask much, one by one: together they pass the memory limit. No condition.
-/
import Derived.Test.YtikedhemjoljpaaGreatDoorCards
import Derived.JoinedOf
namespace Go.Proofs.YtikedhemjoljpaaGreatDoor
open Go
set_option maxRecDepth 100000
theorem lawCQ_wf : Rows.calmQuietRow.wf (OpenSpec.ofChange Rows.calmQuietSpec) = true := by kernel_rfl
theorem lawCQ_inPlace : Tryz.pinned.checked.prog.inPlace 8 = Rows.calmQuietRow.inPlace := by kernel_rfl
theorem lawCQ_unfollowed : Tryz.pinned.checked.prog.unfollowed 8 = Rows.calmQuietRow.unfollowed := by kernel_rfl
theorem lawCQ_recurses : Tryz.pinned.checked.prog.recurses 8 = Rows.calmQuietRow.recurses := by kernel_rfl
theorem lawCQ_named : Tryz.pinned.checked.prog.varsNamed 8 = Rows.calmQuietRow.named := by kernel_rfl
end Go.Proofs.YtikedhemjoljpaaGreatDoor
