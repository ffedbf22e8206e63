/-
  armarium/armariumlaw19.FrontAll: closed facts of its card, one by one. No condition.
-/
import Derived.Test.YtldllfocpadkeaaGreatDoorCards
import Derived.SevenTiedAt
namespace Go.Proofs.YtldllfocpadkeaaGreatDoor
open Go
set_option maxRecDepth 100000
theorem lawFA_goes:false=Rows.frontAllRow.goesBy Tryz.pinned.checked.prog:=by kernel_rfl
