/-
  armarium/armariumlaw17.SayLong: the closed facts of its row that ask much, one by one: together they pass the memory limit. No condition.
-/
import Derived.Test.YtnblkjapeiaedaaGreatDoorCards
import Derived.JoinedOf
import Derived.Test.YtnblkjapeiaedaaGreatDoorFactElawSLong
import Derived.Test.YtnblkjapeiaedaaGreatDoorFactFlawSLong
namespace Go.Proofs.YtnblkjapeiaedaaGreatDoor
open Go
set_option maxRecDepth 100000
theorem lawSLong_facts : joinedFacts Tryz.pinned.checked.prog 9 Tryz.f9 Rows.sayLongSpec Rows.sayLongRow = true := by
  unfold joinedFacts
  rw [lawSLong_inPlace, lawSLong_unfollowed, lawSLong_recurses, lawSLong_named, prog_laidOut, prog_mapsRowed, prog_stops, prog_stopKnobs, prog_stopsHeard, prog_plainKeys, lawSLong_wf]
  kernel_rfl
end Go.Proofs.YtnblkjapeiaedaaGreatDoor
