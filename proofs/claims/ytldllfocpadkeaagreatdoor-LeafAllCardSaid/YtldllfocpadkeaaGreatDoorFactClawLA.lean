/-
  armarium/armariumlaw19.LeafAll: closed facts of its card, one by one. No condition.
-/
import Derived.Test.YtldllfocpadkeaaGreatDoorCards
import Derived.SevenTiedAt
namespace Go.Proofs.YtldllfocpadkeaaGreatDoor
open Go
set_option maxRecDepth 100000
theorem lawLA_wfText:Rows.leafAllRow.wfByText (OpenSpec.ofChange Rows.leafAllSpec)=true:=by kernel_rfl
theorem lawLA_mainIs:Tryz.pinned.checked.prog.mainIs=some (true,Rows.leafAllCard.stood.harness.2.toList):=by kernel_rfl
theorem lawLA_looks:true=Tryz.pinned.checked.prog.looks []:=by kernel_rfl
end Go.Proofs.YtldllfocpadkeaaGreatDoor
