/-
  armarium/armariumlaw22.WorldTime: the closed facts of its row that ask much, one by one: together they pass the memory limit. No condition.
-/
import Derived.Test.YtikedhemjoljpaaGreatDoorCards
import Derived.JoinedOf
import Derived.Test.YtikedhemjoljpaaGreatDoorFactElawWT
import Derived.Test.YtikedhemjoljpaaGreatDoorFactFlawWT
namespace Go.Proofs.YtikedhemjoljpaaGreatDoor
open Go
set_option maxRecDepth 100000
theorem lawWT_facts : joinedFacts Tryz.pinned.checked.prog 5 Tryz.f5 Rows.worldTimeSpec Rows.worldTimeRow = true := by
  unfold joinedFacts
  rw [lawWT_inPlace, lawWT_unfollowed, lawWT_recurses, lawWT_named, prog_laidOut, prog_mapsRowed, prog_stops, prog_stopKnobs, prog_stopsHeard, prog_plainKeys, lawWT_wf]
  kernel_rfl
end Go.Proofs.YtikedhemjoljpaaGreatDoor
