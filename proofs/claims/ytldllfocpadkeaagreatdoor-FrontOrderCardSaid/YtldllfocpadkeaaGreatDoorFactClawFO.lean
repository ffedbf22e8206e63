/-
  armarium/armariumlaw19.FrontOrder: closed facts of its card, one by one. No condition.
-/
import Derived.Test.YtldllfocpadkeaaGreatDoorCards
import Derived.SevenTiedAt
namespace Go.Proofs.YtldllfocpadkeaaGreatDoor
open Go
set_option maxRecDepth 100000
theorem lawFO_wfText:Rows.frontOrderRow.wfByText (OpenSpec.ofChange Rows.frontOrderSpec)=true:=by kernel_rfl
theorem lawFO_mainIs:Tryz.pinned.checked.prog.mainIs=some (true,Rows.frontOrderCard.stood.harness.2.toList):=by kernel_rfl
theorem lawFO_looks:true=Tryz.pinned.checked.prog.looks []:=by kernel_rfl
end Go.Proofs.YtldllfocpadkeaaGreatDoor
