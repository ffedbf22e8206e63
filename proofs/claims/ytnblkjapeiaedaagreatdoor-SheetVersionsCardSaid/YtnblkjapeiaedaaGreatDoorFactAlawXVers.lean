/-
  armarium/armariumlaw17.SheetVersions: the closed facts of its row that ask much, one by one: together they pass the memory limit. No condition.
-/
import Derived.Test.YtnblkjapeiaedaaGreatDoorCards
import Derived.JoinedOf
import Derived.Test.YtnblkjapeiaedaaGreatDoorFactElawXVers
import Derived.Test.YtnblkjapeiaedaaGreatDoorFactFlawXVers
namespace Go.Proofs.YtnblkjapeiaedaaGreatDoor
open Go
set_option maxRecDepth 100000
theorem lawXVers_facts : joinedFacts Tryz.pinned.checked.prog 12 Tryz.f12 Rows.sheetVersionsSpec Rows.sheetVersionsRow = true := by
  unfold joinedFacts
  rw [lawXVers_inPlace, lawXVers_unfollowed, lawXVers_recurses, lawXVers_named, prog_laidOut, prog_mapsRowed, prog_stops, prog_stopKnobs, prog_stopsHeard, prog_plainKeys, lawXVers_wf]
  kernel_rfl
end Go.Proofs.YtnblkjapeiaedaaGreatDoor
