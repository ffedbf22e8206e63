/-
  armarium/armariumlaw19.FrontResult: closed facts of its card, one by one. No condition.
-/
import Derived.Test.YtldllfocpadkeaaGreatDoorCards
import Derived.SevenTiedAt
namespace Go.Proofs.YtldllfocpadkeaaGreatDoor
open Go
set_option maxRecDepth 100000
theorem lawFR_goes:false=Rows.frontResultRow.goesBy Tryz.pinned.checked.prog:=by kernel_rfl
end Go.Proofs.YtldllfocpadkeaaGreatDoor
