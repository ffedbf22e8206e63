/-
  armarium/armariumlaw19.LeafPages: closed facts of its card, one by one. No condition.
-/
import Derived.Test.YtldllfocpadkeaaGreatDoorCards
import Derived.SevenTiedAt
namespace Go.Proofs.YtldllfocpadkeaaGreatDoor
open Go
set_option maxRecDepth 100000
theorem lawPg_wfText:Rows.leafPagesRow.wfByText (OpenSpec.ofChange Rows.leafPagesSpec)=true:=by kernel_rfl
theorem lawPg_mainIs:Tryz.pinned.checked.prog.mainIs=some (true,Rows.leafPagesCard.stood.harness.2.toList):=by kernel_rfl
theorem lawPg_looks:true=Tryz.pinned.checked.prog.looks []:=by kernel_rfl
end Go.Proofs.YtldllfocpadkeaaGreatDoor
