/-
  armarium/armariumlaw25.TaleFits: the closed facts of its row that ask much, one by one: together they pass the memory limit. No condition.
-/
import Derived.Test.YtkgejlchafionaaGreatDoorCards
import Derived.JoinedOf
namespace Go.Proofs.YtkgejlchafionaaGreatDoor
open Go
set_option maxRecDepth 100000
theorem lawTF_wf:Rows.taleFitsRow.wf (OpenSpec.ofChange Rows.taleFitsSpec)=true:=by kernel_rfl
theorem lawTF_inPlace:Tryz.pinned.checked.prog.inPlace 3=Rows.taleFitsRow.inPlace:=by kernel_rfl
theorem lawTF_unfollowed:Tryz.pinned.checked.prog.unfollowed 3=Rows.taleFitsRow.unfollowed:=by kernel_rfl
theorem lawTF_recurses:Tryz.pinned.checked.prog.recurses 3=Rows.taleFitsRow.recurses:=by kernel_rfl
theorem lawTF_named:Tryz.pinned.checked.prog.varsNamed 3=Rows.taleFitsRow.named:=by kernel_rfl
