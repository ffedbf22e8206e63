/-
  armarium/armariumlaw22.CalmQuiet: the closed facts of its row that ask much, one by one: together they pass the memory limit. No condition.
-/
import Derived.Test.YtikedhemjoljpaaGreatDoorCards
import Derived.JoinedOf
import Derived.Test.YtikedhemjoljpaaGreatDoorFactElawCQ
import Derived.Test.YtikedhemjoljpaaGreatDoorFactFlawCQ
namespace Go.Proofs.YtikedhemjoljpaaGreatDoor
open Go
set_option maxRecDepth 100000
theorem lawCQ_facts : joinedFacts Tryz.pinned.checked.prog 8 Tryz.f8 Rows.calmQuietSpec Rows.calmQuietRow = true := by
  unfold joinedFacts
  rw [lawCQ_inPlace, lawCQ_unfollowed, lawCQ_recurses, lawCQ_named, prog_laidOut, prog_mapsRowed, prog_stops, prog_stopKnobs, prog_stopsHeard, prog_plainKeys, lawCQ_wf]
  kernel_rfl
end Go.Proofs.YtikedhemjoljpaaGreatDoor
