/-
  armarium/armariumlaw22.ScriptErrors: closed facts of its card, one by one. No condition.
-/
import Derived.Test.YtikedhemjoljpaaGreatDoorCards
import Derived.SevenTiedAt
import Derived.Test.YtikedhemjoljpaaGreatDoorG1
namespace Go.Proofs.YtikedhemjoljpaaGreatDoor
open Go
set_option maxRecDepth 100000
theorem lawSE_goes : false = Rows.scriptErrorsRow.goesBy Tryz.pinned.checked.prog := goes_none none_all _
end Go.Proofs.YtikedhemjoljpaaGreatDoor
