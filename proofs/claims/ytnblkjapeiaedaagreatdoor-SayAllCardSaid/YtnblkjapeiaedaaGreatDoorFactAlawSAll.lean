/-
  armarium/armariumlaw17.SayAll: the closed facts of its row that ask much, one by one: together they pass the memory limit. No condition.
-/
import Derived.Test.YtnblkjapeiaedaaGreatDoorCards
import Derived.JoinedOf
import Derived.Test.YtnblkjapeiaedaaGreatDoorFactElawSAll
import Derived.Test.YtnblkjapeiaedaaGreatDoorFactFlawSAll
namespace Go.Proofs.YtnblkjapeiaedaaGreatDoor
open Go
set_option maxRecDepth 100000
theorem lawSAll_facts : joinedFacts Tryz.pinned.checked.prog 3 Tryz.f3 Rows.sayAllSpec Rows.sayAllRow = true := by
  unfold joinedFacts
  rw [lawSAll_inPlace, lawSAll_unfollowed, lawSAll_recurses, lawSAll_named, prog_laidOut, prog_mapsRowed, prog_stops, prog_stopKnobs, prog_stopsHeard, prog_plainKeys, lawSAll_wf]
  kernel_rfl
end Go.Proofs.YtnblkjapeiaedaaGreatDoor
