/-
  armarium/armariumlaw25.TaleRight: the closed facts of its row that ask much, one by one: together they pass the memory limit. No condition.
-/
import Derived.Test.YtkgejlchafionaaGreatDoorCards
import Derived.JoinedOf
namespace Go.Proofs.YtkgejlchafionaaGreatDoor
open Go
set_option maxRecDepth 100000
theorem lawTR_wf:Rows.taleRightRow.wf (OpenSpec.ofChange Rows.taleRightSpec)=true:=by kernel_rfl
theorem lawTR_inPlace:Tryz.pinned.checked.prog.inPlace 5=Rows.taleRightRow.inPlace:=by kernel_rfl
theorem lawTR_unfollowed:Tryz.pinned.checked.prog.unfollowed 5=Rows.taleRightRow.unfollowed:=by kernel_rfl
theorem lawTR_recurses:Tryz.pinned.checked.prog.recurses 5=Rows.taleRightRow.recurses:=by kernel_rfl
theorem lawTR_named:Tryz.pinned.checked.prog.varsNamed 5=Rows.taleRightRow.named:=by kernel_rfl
