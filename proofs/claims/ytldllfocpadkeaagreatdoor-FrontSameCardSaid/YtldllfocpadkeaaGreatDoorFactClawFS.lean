/-
  armarium/armariumlaw19.FrontSame: closed facts of its card, one by one. No condition.
-/
import Derived.Test.YtldllfocpadkeaaGreatDoorCards
import Derived.SevenTiedAt
namespace Go.Proofs.YtldllfocpadkeaaGreatDoor
open Go
set_option maxRecDepth 100000
theorem lawFS_wfText:Rows.frontSameRow.wfByText (OpenSpec.ofChange Rows.frontSameSpec)=true:=by kernel_rfl
theorem lawFS_mainIs:Tryz.pinned.checked.prog.mainIs=some (true,Rows.frontSameCard.stood.harness.2.toList):=by kernel_rfl
theorem lawFS_looks:true=Tryz.pinned.checked.prog.looks []:=by kernel_rfl
end Go.Proofs.YtldllfocpadkeaaGreatDoor
