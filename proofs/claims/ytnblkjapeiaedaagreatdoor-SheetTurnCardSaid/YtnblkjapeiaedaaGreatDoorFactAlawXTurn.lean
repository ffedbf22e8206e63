/-
  armarium/armariumlaw17.SheetTurn: the closed facts of its row that ask much, one by one: together they pass the memory limit. No condition.
-/
import Derived.Test.YtnblkjapeiaedaaGreatDoorCards
import Derived.JoinedOf
import Derived.Test.YtnblkjapeiaedaaGreatDoorFactElawXTurn
import Derived.Test.YtnblkjapeiaedaaGreatDoorFactFlawXTurn
namespace Go.Proofs.YtnblkjapeiaedaaGreatDoor
open Go
set_option maxRecDepth 100000
theorem lawXTurn_facts : joinedFacts Tryz.pinned.checked.prog 7 Tryz.f7 Rows.sheetTurnSpec Rows.sheetTurnRow = true := by
  unfold joinedFacts
  rw [lawXTurn_inPlace, lawXTurn_unfollowed, lawXTurn_recurses, lawXTurn_named, prog_laidOut, prog_mapsRowed, prog_stops, prog_stopKnobs, prog_stopsHeard, prog_plainKeys, lawXTurn_wf]
  kernel_rfl
end Go.Proofs.YtnblkjapeiaedaaGreatDoor
