/-
  armariumlaw22.WorldNone: the closed facts of its row that ask much, one by one: together they pass the memory limit.
-/
import Derived.Test.YtikedhemjoljpaaGreatDoorCards
import Derived.JoinedOf
import Derived.Test.YtikedhemjoljpaaGreatDoorNoneE
import Derived.Test.YtikedhemjoljpaaGreatDoorNoneF
namespace Go.Proofs.YtikedhemjoljpaaGreatDoor
open Go
set_option maxRecDepth 100000
theorem none_facts : joinedFacts Tryz.pinned.checked.prog 3 Tryz.f3 Rows.worldNoneSpec Rows.worldNoneRow = true := by
  unfold joinedFacts
  rw [none_inPlace, none_unfollowed, none_recurses, none_named, prog_laidOut, prog_mapsRowed, prog_stops, prog_stopKnobs, prog_stopsHeard, prog_plainKeys, none_wf]
  kernel_rfl
end Go.Proofs.YtikedhemjoljpaaGreatDoor
