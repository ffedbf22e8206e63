/-
  armarium/armariumlaw17.SayWords: the closed facts of its row that ask much, one by one: together they pass the memory limit. No condition.
-/
import Derived.Test.YtnblkjapeiaedaaGreatDoorCards
import Derived.JoinedOf
import Derived.Test.YtnblkjapeiaedaaGreatDoorFactElawWords
import Derived.Test.YtnblkjapeiaedaaGreatDoorFactFlawWords
namespace Go.Proofs.YtnblkjapeiaedaaGreatDoor
open Go
set_option maxRecDepth 100000
theorem lawWords_facts : joinedFacts Tryz.pinned.checked.prog 8 Tryz.f8 Rows.sayWordsSpec Rows.sayWordsRow = true := by
  unfold joinedFacts
  rw [lawWords_inPlace, lawWords_unfollowed, lawWords_recurses, lawWords_named, prog_laidOut, prog_mapsRowed, prog_stops, prog_stopKnobs, prog_stopsHeard, prog_plainKeys, lawWords_wf]
  kernel_rfl
end Go.Proofs.YtnblkjapeiaedaaGreatDoor
