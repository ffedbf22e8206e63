/-
  armarium/armariumlaw17.SayMany: the closed facts of its row that ask much, one by one: together they pass the memory limit. No condition.
-/
import Derived.Test.YtnblkjapeiaedaaGreatDoorCards
import Derived.JoinedOf
import Derived.Test.YtnblkjapeiaedaaGreatDoorFactElawSMany
import Derived.Test.YtnblkjapeiaedaaGreatDoorFactFlawSMany
namespace Go.Proofs.YtnblkjapeiaedaaGreatDoor
open Go
set_option maxRecDepth 100000
theorem lawSMany_facts : joinedFacts Tryz.pinned.checked.prog 5 Tryz.f5 Rows.sayManySpec Rows.sayManyRow = true := by
  unfold joinedFacts
  rw [lawSMany_inPlace, lawSMany_unfollowed, lawSMany_recurses, lawSMany_named, prog_laidOut, prog_mapsRowed, prog_stops, prog_stopKnobs, prog_stopsHeard, prog_plainKeys, lawSMany_wf]
  kernel_rfl
end Go.Proofs.YtnblkjapeiaedaaGreatDoor
