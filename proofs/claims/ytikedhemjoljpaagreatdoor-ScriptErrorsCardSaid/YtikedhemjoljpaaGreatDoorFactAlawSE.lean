/-
  armarium/armariumlaw22.ScriptErrors: the closed facts of its row that ask much, one by one: together they pass the memory limit. No condition.
-/
import Derived.Test.YtikedhemjoljpaaGreatDoorCards
import Derived.JoinedOf
import Derived.Test.YtikedhemjoljpaaGreatDoorFactElawSE
import Derived.Test.YtikedhemjoljpaaGreatDoorFactFlawSE
namespace Go.Proofs.YtikedhemjoljpaaGreatDoor
open Go
set_option maxRecDepth 100000
theorem lawSE_facts : joinedFacts Tryz.pinned.checked.prog 7 Tryz.f7 Rows.scriptErrorsSpec Rows.scriptErrorsRow = true := by
  unfold joinedFacts
  rw [lawSE_inPlace, lawSE_unfollowed, lawSE_recurses, lawSE_named, prog_laidOut, prog_mapsRowed, prog_stops, prog_stopKnobs, prog_stopsHeard, prog_plainKeys, lawSE_wf]
  kernel_rfl
end Go.Proofs.YtikedhemjoljpaaGreatDoor
