/-
  armarium/armariumlaw25.TaleFits: closed facts of its card, one by one. No condition.
-/
import Derived.Test.YtkgejlchafionaaGreatDoorCards
import Derived.SevenTiedAt
namespace Go.Proofs.YtkgejlchafionaaGreatDoor
open Go
set_option maxRecDepth 100000
theorem lawTF_goes:false=Rows.taleFitsRow.goesBy Tryz.pinned.checked.prog:=by kernel_rfl
