/-
  armarium/armariumlaw25.TaleRight: closed facts of its card, one by one. No condition.
-/
import Derived.Test.YtkgejlchafionaaGreatDoorCards
import Derived.SevenTiedAt
namespace Go.Proofs.YtkgejlchafionaaGreatDoor
open Go
set_option maxRecDepth 100000
theorem lawTR_wfText:Rows.taleRightRow.wfByText (OpenSpec.ofChange Rows.taleRightSpec)=true:=by kernel_rfl
theorem lawTR_mainIs:Tryz.pinned.checked.prog.mainIs=some (true,Rows.taleRightCard.stood.harness.2.toList):=by kernel_rfl
theorem lawTR_looks:true=Tryz.pinned.checked.prog.looks []:=by kernel_rfl
