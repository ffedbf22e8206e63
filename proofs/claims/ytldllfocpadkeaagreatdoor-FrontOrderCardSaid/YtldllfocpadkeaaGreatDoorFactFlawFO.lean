/-
  armarium/armariumlaw19.FrontOrder: the closed facts of its row that ask much, one by one: together they pass the memory limit. No condition.
-/
import Derived.Test.YtldllfocpadkeaaGreatDoorCards
import Derived.JoinedOf
namespace Go.Proofs.YtldllfocpadkeaaGreatDoor
open Go
set_option maxRecDepth 100000
theorem lawFO_wf:Rows.frontOrderRow.wf (OpenSpec.ofChange Rows.frontOrderSpec)=true:=by kernel_rfl
theorem lawFO_inPlace:Tryz.pinned.checked.prog.inPlace 7=Rows.frontOrderRow.inPlace:=by kernel_rfl
theorem lawFO_unfollowed:Tryz.pinned.checked.prog.unfollowed 7=Rows.frontOrderRow.unfollowed:=by kernel_rfl
theorem lawFO_recurses:Tryz.pinned.checked.prog.recurses 7=Rows.frontOrderRow.recurses:=by kernel_rfl
theorem lawFO_named:Tryz.pinned.checked.prog.varsNamed 7=Rows.frontOrderRow.named:=by kernel_rfl
end Go.Proofs.YtldllfocpadkeaaGreatDoor
