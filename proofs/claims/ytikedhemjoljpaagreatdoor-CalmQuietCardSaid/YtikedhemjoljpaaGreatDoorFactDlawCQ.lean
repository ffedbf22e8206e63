/-
  armarium/armariumlaw22.CalmQuiet: closed facts of its card, one by one. No condition.
-/
import Derived.Test.YtikedhemjoljpaaGreatDoorCards
import Derived.SevenTiedAt
import Derived.Test.YtikedhemjoljpaaGreatDoorG1
namespace Go.Proofs.YtikedhemjoljpaaGreatDoor
open Go
set_option maxRecDepth 100000
theorem lawCQ_goes : false = Rows.calmQuietRow.goesBy Tryz.pinned.checked.prog := goes_none none_all _
end Go.Proofs.YtikedhemjoljpaaGreatDoor
