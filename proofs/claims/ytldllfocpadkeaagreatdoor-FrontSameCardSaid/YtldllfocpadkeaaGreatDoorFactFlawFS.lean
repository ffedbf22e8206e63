/-
  armarium/armariumlaw19.FrontSame: the closed facts of its row that ask much, one by one: together they pass the memory limit. No condition.
-/
import Derived.Test.YtldllfocpadkeaaGreatDoorCards
import Derived.JoinedOf
namespace Go.Proofs.YtldllfocpadkeaaGreatDoor
open Go
set_option maxRecDepth 100000
theorem lawFS_wf:Rows.frontSameRow.wf (OpenSpec.ofChange Rows.frontSameSpec)=true:=by kernel_rfl
theorem lawFS_inPlace:Tryz.pinned.checked.prog.inPlace 9=Rows.frontSameRow.inPlace:=by kernel_rfl
theorem lawFS_unfollowed:Tryz.pinned.checked.prog.unfollowed 9=Rows.frontSameRow.unfollowed:=by kernel_rfl
theorem lawFS_recurses:Tryz.pinned.checked.prog.recurses 9=Rows.frontSameRow.recurses:=by kernel_rfl
theorem lawFS_named:Tryz.pinned.checked.prog.varsNamed 9=Rows.frontSameRow.named:=by kernel_rfl
end Go.Proofs.YtldllfocpadkeaaGreatDoor
