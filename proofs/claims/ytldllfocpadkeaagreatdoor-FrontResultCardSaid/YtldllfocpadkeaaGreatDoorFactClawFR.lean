/-
  armarium/armariumlaw19.FrontResult: closed facts of its card, one by one. No condition.
-/
import Derived.Test.YtldllfocpadkeaaGreatDoorCards
import Derived.SevenTiedAt
namespace Go.Proofs.YtldllfocpadkeaaGreatDoor
open Go
set_option maxRecDepth 100000
theorem lawFR_wfText:Rows.frontResultRow.wfByText (OpenSpec.ofChange Rows.frontResultSpec)=true:=by kernel_rfl
theorem lawFR_mainIs:Tryz.pinned.checked.prog.mainIs=some (true,Rows.frontResultCard.stood.harness.2.toList):=by kernel_rfl
theorem lawFR_looks:true=Tryz.pinned.checked.prog.looks []:=by kernel_rfl
end Go.Proofs.YtldllfocpadkeaaGreatDoor
