/-
  armarium/armariumlaw22.WorldSizes: the closed facts of its row that ask much, one by one: together they pass the memory limit. No condition.
-/
import Derived.Test.YtikedhemjoljpaaGreatDoorCards
import Derived.JoinedOf
import Derived.Test.YtikedhemjoljpaaGreatDoorFactElawWS
import Derived.Test.YtikedhemjoljpaaGreatDoorFactFlawWS
namespace Go.Proofs.YtikedhemjoljpaaGreatDoor
open Go
set_option maxRecDepth 100000
theorem lawWS_facts : joinedFacts Tryz.pinned.checked.prog 4 Tryz.f4 Rows.worldSizesSpec Rows.worldSizesRow = true := by
  unfold joinedFacts
  rw [lawWS_inPlace, lawWS_unfollowed, lawWS_recurses, lawWS_named, prog_laidOut, prog_mapsRowed, prog_stops, prog_stopKnobs, prog_stopsHeard, prog_plainKeys, lawWS_wf]
  kernel_rfl
end Go.Proofs.YtikedhemjoljpaaGreatDoor
