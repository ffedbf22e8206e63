/-
  armarium/armariumlaw19.LeafWalk: the closed facts of its row that ask much, one by one: together they pass the memory limit. No condition.
-/
import Derived.Test.YtldllfocpadkeaaGreatDoorCards
import Derived.JoinedOf
namespace Go.Proofs.YtldllfocpadkeaaGreatDoor
open Go
set_option maxRecDepth 100000
theorem lawLW_wf:Rows.leafWalkRow.wf (OpenSpec.ofChange Rows.leafWalkSpec)=true:=by kernel_rfl
theorem lawLW_inPlace:Tryz.pinned.checked.prog.inPlace 10=Rows.leafWalkRow.inPlace:=by kernel_rfl
theorem lawLW_unfollowed:Tryz.pinned.checked.prog.unfollowed 10=Rows.leafWalkRow.unfollowed:=by kernel_rfl
theorem lawLW_recurses:Tryz.pinned.checked.prog.recurses 10=Rows.leafWalkRow.recurses:=by kernel_rfl
theorem lawLW_named:Tryz.pinned.checked.prog.varsNamed 10=Rows.leafWalkRow.named:=by kernel_rfl
end Go.Proofs.YtldllfocpadkeaaGreatDoor
