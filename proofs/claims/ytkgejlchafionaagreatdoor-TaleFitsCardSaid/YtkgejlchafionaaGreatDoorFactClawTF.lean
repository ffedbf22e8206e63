/-
  armarium/armariumlaw25.TaleFits: closed facts of its card, one by one. No condition.
-/
import Derived.Test.YtkgejlchafionaaGreatDoorCards
import Derived.SevenTiedAt
namespace Go.Proofs.YtkgejlchafionaaGreatDoor
open Go
set_option maxRecDepth 100000
theorem lawTF_wfText:Rows.taleFitsRow.wfByText (OpenSpec.ofChange Rows.taleFitsSpec)=true:=by kernel_rfl
theorem lawTF_mainIs:Tryz.pinned.checked.prog.mainIs=some (true,Rows.taleFitsCard.stood.harness.2.toList):=by kernel_rfl
theorem lawTF_looks:true=Tryz.pinned.checked.prog.looks []:=by kernel_rfl
