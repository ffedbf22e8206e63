/-
  armarium/armariumlaw19.FrontAll: the closed facts of its row that ask much, one by one: together they pass the memory limit. No condition.
-/
import Derived.Test.YtldllfocpadkeaaGreatDoorCards
import Derived.JoinedOf
namespace Go.Proofs.YtldllfocpadkeaaGreatDoor
open Go
set_option maxRecDepth 100000
theorem lawFA_wf:Rows.frontAllRow.wf (OpenSpec.ofChange Rows.frontAllSpec)=true:=by kernel_rfl
theorem lawFA_inPlace:Tryz.pinned.checked.prog.inPlace 5=Rows.frontAllRow.inPlace:=by kernel_rfl
theorem lawFA_unfollowed:Tryz.pinned.checked.prog.unfollowed 5=Rows.frontAllRow.unfollowed:=by kernel_rfl
theorem lawFA_recurses:Tryz.pinned.checked.prog.recurses 5=Rows.frontAllRow.recurses:=by kernel_rfl
theorem lawFA_named:Tryz.pinned.checked.prog.varsNamed 5=Rows.frontAllRow.named:=by kernel_rfl
