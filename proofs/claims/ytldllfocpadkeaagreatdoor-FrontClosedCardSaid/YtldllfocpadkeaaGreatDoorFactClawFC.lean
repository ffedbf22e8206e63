/-
  armarium/armariumlaw19.FrontClosed: closed facts of its card, one by one. No condition.
-/
import Derived.Test.YtldllfocpadkeaaGreatDoorCards
import Derived.SevenTiedAt
namespace Go.Proofs.YtldllfocpadkeaaGreatDoor
open Go
set_option maxRecDepth 100000
theorem lawFC_wfText:Rows.frontClosedRow.wfByText (OpenSpec.ofChange Rows.frontClosedSpec)=true:=by kernel_rfl
theorem lawFC_mainIs:Tryz.pinned.checked.prog.mainIs=some (true,Rows.frontClosedCard.stood.harness.2.toList):=by kernel_rfl
theorem lawFC_looks:true=Tryz.pinned.checked.prog.looks []:=by kernel_rfl
end Go.Proofs.YtldllfocpadkeaaGreatDoor
