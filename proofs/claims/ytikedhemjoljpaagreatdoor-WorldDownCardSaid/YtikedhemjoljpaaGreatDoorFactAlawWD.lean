/-
  armarium/armariumlaw22.WorldDown: the closed facts of its row that ask much, one by one: together they pass the memory limit. No condition.
-/
import Derived.Test.YtikedhemjoljpaaGreatDoorCards
import Derived.JoinedOf
import Derived.Test.YtikedhemjoljpaaGreatDoorFactElawWD
import Derived.Test.YtikedhemjoljpaaGreatDoorFactFlawWD
namespace Go.Proofs.YtikedhemjoljpaaGreatDoor
open Go
set_option maxRecDepth 100000
theorem lawWD_facts : joinedFacts Tryz.pinned.checked.prog 6 Tryz.f6 Rows.worldDownSpec Rows.worldDownRow = true := by
  unfold joinedFacts
  rw [lawWD_inPlace, lawWD_unfollowed, lawWD_recurses, lawWD_named, prog_laidOut, prog_mapsRowed, prog_stops, prog_stopKnobs, prog_stopsHeard, prog_plainKeys, lawWD_wf]
  kernel_rfl
end Go.Proofs.YtikedhemjoljpaaGreatDoor
