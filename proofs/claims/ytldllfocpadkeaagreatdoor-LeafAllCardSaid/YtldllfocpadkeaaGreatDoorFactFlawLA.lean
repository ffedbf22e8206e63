/-
  armarium/armariumlaw19.LeafAll: the closed facts of its row that ask much, one by one: together they pass the memory limit. No condition.
-/
import Derived.Test.YtldllfocpadkeaaGreatDoorCards
import Derived.JoinedOf
namespace Go.Proofs.YtldllfocpadkeaaGreatDoor
open Go
set_option maxRecDepth 100000
theorem lawLA_wf:Rows.leafAllRow.wf (OpenSpec.ofChange Rows.leafAllSpec)=true:=by kernel_rfl
theorem lawLA_inPlace:Tryz.pinned.checked.prog.inPlace 3=Rows.leafAllRow.inPlace:=by kernel_rfl
theorem lawLA_unfollowed:Tryz.pinned.checked.prog.unfollowed 3=Rows.leafAllRow.unfollowed:=by kernel_rfl
theorem lawLA_recurses:Tryz.pinned.checked.prog.recurses 3=Rows.leafAllRow.recurses:=by kernel_rfl
theorem lawLA_named:Tryz.pinned.checked.prog.varsNamed 3=Rows.leafAllRow.named:=by kernel_rfl
end Go.Proofs.YtldllfocpadkeaaGreatDoor
