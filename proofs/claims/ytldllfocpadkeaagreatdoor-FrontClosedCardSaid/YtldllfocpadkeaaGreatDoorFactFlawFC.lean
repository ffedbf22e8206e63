/-
  armarium/armariumlaw19.FrontClosed: the closed facts of its row that ask much, one by one: together they pass the memory limit. No condition.
-/
import Derived.Test.YtldllfocpadkeaaGreatDoorCards
import Derived.JoinedOf
namespace Go.Proofs.YtldllfocpadkeaaGreatDoor
open Go
set_option maxRecDepth 100000
theorem lawFC_wf:Rows.frontClosedRow.wf (OpenSpec.ofChange Rows.frontClosedSpec)=true:=by kernel_rfl
theorem lawFC_inPlace:Tryz.pinned.checked.prog.inPlace 8=Rows.frontClosedRow.inPlace:=by kernel_rfl
theorem lawFC_unfollowed:Tryz.pinned.checked.prog.unfollowed 8=Rows.frontClosedRow.unfollowed:=by kernel_rfl
theorem lawFC_recurses:Tryz.pinned.checked.prog.recurses 8=Rows.frontClosedRow.recurses:=by kernel_rfl
theorem lawFC_named:Tryz.pinned.checked.prog.varsNamed 8=Rows.frontClosedRow.named:=by kernel_rfl
end Go.Proofs.YtldllfocpadkeaaGreatDoor
