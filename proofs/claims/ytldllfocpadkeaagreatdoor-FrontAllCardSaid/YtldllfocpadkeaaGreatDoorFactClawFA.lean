/-
  armarium/armariumlaw19.FrontAll: closed facts of its card, one by one. No condition.
-/
import Derived.Test.YtldllfocpadkeaaGreatDoorCards
import Derived.SevenTiedAt
namespace Go.Proofs.YtldllfocpadkeaaGreatDoor
open Go
set_option maxRecDepth 100000
theorem lawFA_wfText:Rows.frontAllRow.wfByText (OpenSpec.ofChange Rows.frontAllSpec)=true:=by kernel_rfl
theorem lawFA_mainIs:Tryz.pinned.checked.prog.mainIs=some (true,Rows.frontAllCard.stood.harness.2.toList):=by kernel_rfl
theorem lawFA_looks:true=Tryz.pinned.checked.prog.looks []:=by kernel_rfl
