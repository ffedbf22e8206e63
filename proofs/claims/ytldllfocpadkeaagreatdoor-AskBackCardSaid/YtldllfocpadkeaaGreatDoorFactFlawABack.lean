/-
  armarium/armariumlaw15.AskBack: the closed facts of its row that ask much, one by one: together they pass the memory limit. No condition.
-/
import Derived.Test.YtldllfocpadkeaaGreatDoorCards
import Derived.JoinedOf
namespace Go.Proofs.YtldllfocpadkeaaGreatDoor
open Go
set_option maxRecDepth 100000
theorem lawABack_wf:Rows.askBackRow.wf (OpenSpec.ofChange Rows.askBackSpec)=true:=by kernel_rfl
theorem lawABack_inPlace:Tryz.pinned.checked.prog.inPlace 11=Rows.askBackRow.inPlace:=by kernel_rfl
theorem lawABack_unfollowed:Tryz.pinned.checked.prog.unfollowed 11=Rows.askBackRow.unfollowed:=by kernel_rfl
theorem lawABack_recurses:Tryz.pinned.checked.prog.recurses 11=Rows.askBackRow.recurses:=by kernel_rfl
theorem lawABack_named:Tryz.pinned.checked.prog.varsNamed 11=Rows.askBackRow.named:=by kernel_rfl
end Go.Proofs.YtldllfocpadkeaaGreatDoor
