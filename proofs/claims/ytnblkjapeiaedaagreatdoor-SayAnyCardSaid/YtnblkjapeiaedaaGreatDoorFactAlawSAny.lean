/-
  armarium/armariumlaw17.SayAny: the closed facts of its row that ask much, one by one: together they pass the memory limit. No condition.
-/
import Derived.Test.YtnblkjapeiaedaaGreatDoorCards
import Derived.JoinedOf
import Derived.Test.YtnblkjapeiaedaaGreatDoorFactElawSAny
import Derived.Test.YtnblkjapeiaedaaGreatDoorFactFlawSAny
namespace Go.Proofs.YtnblkjapeiaedaaGreatDoor
open Go
set_option maxRecDepth 100000
theorem lawSAny_facts : joinedFacts Tryz.pinned.checked.prog 4 Tryz.f4 Rows.sayAnySpec Rows.sayAnyRow = true := by
  unfold joinedFacts
  rw [lawSAny_inPlace, lawSAny_unfollowed, lawSAny_recurses, lawSAny_named, prog_laidOut, prog_mapsRowed, prog_stops, prog_stopKnobs, prog_stopsHeard, prog_plainKeys, lawSAny_wf]
  kernel_rfl
end Go.Proofs.YtnblkjapeiaedaaGreatDoor
