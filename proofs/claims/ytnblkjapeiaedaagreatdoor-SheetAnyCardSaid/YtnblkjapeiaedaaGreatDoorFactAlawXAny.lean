/-
  armarium/armariumlaw17.SheetAny: the closed facts of its row that ask much, one by one: together they pass the memory limit. No condition.
-/
import Derived.Test.YtnblkjapeiaedaaGreatDoorCards
import Derived.JoinedOf
import Derived.Test.YtnblkjapeiaedaaGreatDoorFactElawXAny
import Derived.Test.YtnblkjapeiaedaaGreatDoorFactFlawXAny
namespace Go.Proofs.YtnblkjapeiaedaaGreatDoor
open Go
set_option maxRecDepth 100000
theorem lawXAny_facts : joinedFacts Tryz.pinned.checked.prog 11 Tryz.f11 Rows.sheetAnySpec Rows.sheetAnyRow = true := by
  unfold joinedFacts
  rw [lawXAny_inPlace, lawXAny_unfollowed, lawXAny_recurses, lawXAny_named, prog_laidOut, prog_mapsRowed, prog_stops, prog_stopKnobs, prog_stopsHeard, prog_plainKeys, lawXAny_wf]
  kernel_rfl
end Go.Proofs.YtnblkjapeiaedaaGreatDoor
