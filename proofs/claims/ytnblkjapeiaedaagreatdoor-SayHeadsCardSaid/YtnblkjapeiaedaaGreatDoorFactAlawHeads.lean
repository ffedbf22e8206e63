/-
  armarium/armariumlaw17.SayHeads: the closed facts of its row that ask much, one by one: together they pass the memory limit. No condition.
-/
import Derived.Test.YtnblkjapeiaedaaGreatDoorCards
import Derived.JoinedOf
import Derived.Test.YtnblkjapeiaedaaGreatDoorFactElawHeads
import Derived.Test.YtnblkjapeiaedaaGreatDoorFactFlawHeads
namespace Go.Proofs.YtnblkjapeiaedaaGreatDoor
open Go
set_option maxRecDepth 100000
theorem lawHeads_facts : joinedFacts Tryz.pinned.checked.prog 10 Tryz.f10 Rows.sayHeadsSpec Rows.sayHeadsRow = true := by
  unfold joinedFacts
  rw [lawHeads_inPlace, lawHeads_unfollowed, lawHeads_recurses, lawHeads_named, prog_laidOut, prog_mapsRowed, prog_stops, prog_stopKnobs, prog_stopsHeard, prog_plainKeys, lawHeads_wf]
  kernel_rfl
end Go.Proofs.YtnblkjapeiaedaaGreatDoor
