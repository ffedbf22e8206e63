/-
  armarium/armariumlaw19.FrontResult: the closed facts of its row that ask much, one by one: together they pass the memory limit. No condition.
-/
import Derived.Test.YtldllfocpadkeaaGreatDoorCards
import Derived.JoinedOf
namespace Go.Proofs.YtldllfocpadkeaaGreatDoor
open Go
set_option maxRecDepth 100000
theorem lawFR_wf:Rows.frontResultRow.wf (OpenSpec.ofChange Rows.frontResultSpec)=true:=by kernel_rfl
theorem lawFR_inPlace:Tryz.pinned.checked.prog.inPlace 4=Rows.frontResultRow.inPlace:=by kernel_rfl
theorem lawFR_unfollowed:Tryz.pinned.checked.prog.unfollowed 4=Rows.frontResultRow.unfollowed:=by kernel_rfl
theorem lawFR_recurses:Tryz.pinned.checked.prog.recurses 4=Rows.frontResultRow.recurses:=by kernel_rfl
theorem lawFR_named:Tryz.pinned.checked.prog.varsNamed 4=Rows.frontResultRow.named:=by kernel_rfl
end Go.Proofs.YtldllfocpadkeaaGreatDoor
