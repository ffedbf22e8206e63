/-
  armarium/armariumlaw19.LeafPages: the closed facts of its row that ask much, one by one: together they pass the memory limit. No condition.
-/
import Derived.Test.YtldllfocpadkeaaGreatDoorCards
import Derived.JoinedOf
namespace Go.Proofs.YtldllfocpadkeaaGreatDoor
open Go
set_option maxRecDepth 100000
theorem lawPg_wf:Rows.leafPagesRow.wf (OpenSpec.ofChange Rows.leafPagesSpec)=true:=by kernel_rfl
theorem lawPg_inPlace:Tryz.pinned.checked.prog.inPlace 6=Rows.leafPagesRow.inPlace:=by kernel_rfl
theorem lawPg_unfollowed:Tryz.pinned.checked.prog.unfollowed 6=Rows.leafPagesRow.unfollowed:=by kernel_rfl
theorem lawPg_recurses:Tryz.pinned.checked.prog.recurses 6=Rows.leafPagesRow.recurses:=by kernel_rfl
theorem lawPg_named:Tryz.pinned.checked.prog.varsNamed 6=Rows.leafPagesRow.named:=by kernel_rfl
end Go.Proofs.YtldllfocpadkeaaGreatDoor
