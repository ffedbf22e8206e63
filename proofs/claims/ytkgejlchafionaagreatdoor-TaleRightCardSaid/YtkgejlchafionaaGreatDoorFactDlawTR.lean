/-
  armarium/armariumlaw25.TaleRight: closed facts of its card, one by one. No condition.
-/
import Derived.Test.YtkgejlchafionaaGreatDoorCards
import Derived.SevenTiedAt
namespace Go.Proofs.YtkgejlchafionaaGreatDoor
open Go
set_option maxRecDepth 100000
theorem lawTR_goes:false=Rows.taleRightRow.goesBy Tryz.pinned.checked.prog:=by kernel_rfl
