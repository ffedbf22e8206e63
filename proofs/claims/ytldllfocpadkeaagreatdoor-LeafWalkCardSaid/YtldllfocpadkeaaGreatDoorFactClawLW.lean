/-
  armarium/armariumlaw19.LeafWalk: closed facts of its card, one by one. No condition.
-/
import Derived.Test.YtldllfocpadkeaaGreatDoorCards
import Derived.SevenTiedAt
namespace Go.Proofs.YtldllfocpadkeaaGreatDoor
open Go
set_option maxRecDepth 100000
theorem lawLW_wfText:Rows.leafWalkRow.wfByText (OpenSpec.ofChange Rows.leafWalkSpec)=true:=by kernel_rfl
theorem lawLW_mainIs:Tryz.pinned.checked.prog.mainIs=some (true,Rows.leafWalkCard.stood.harness.2.toList):=by kernel_rfl
theorem lawLW_looks:true=Tryz.pinned.checked.prog.looks []:=by kernel_rfl
end Go.Proofs.YtldllfocpadkeaaGreatDoor
