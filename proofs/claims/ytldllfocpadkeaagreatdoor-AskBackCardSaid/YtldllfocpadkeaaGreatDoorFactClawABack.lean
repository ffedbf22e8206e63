/-
  armarium/armariumlaw15.AskBack: closed facts of its card, one by one. No condition.
-/
import Derived.Test.YtldllfocpadkeaaGreatDoorCards
import Derived.SevenTiedAt
namespace Go.Proofs.YtldllfocpadkeaaGreatDoor
open Go
set_option maxRecDepth 100000
theorem lawABack_wfText:Rows.askBackRow.wfByText (OpenSpec.ofChange Rows.askBackSpec)=true:=by kernel_rfl
theorem lawABack_mainIs:Tryz.pinned.checked.prog.mainIs=some (true,Rows.askBackCard.stood.harness.2.toList):=by kernel_rfl
theorem lawABack_looks:true=Tryz.pinned.checked.prog.looks []:=by kernel_rfl
end Go.Proofs.YtldllfocpadkeaaGreatDoor
