/-
  armarium/armariumlaw17.SheetAll: the closed facts of its row that ask much, one by one: together they pass the memory limit. No condition.
-/
import Derived.Test.YtnblkjapeiaedaaGreatDoorCards
import Derived.JoinedOf
import Derived.Test.YtnblkjapeiaedaaGreatDoorFactElawXAll
import Derived.Test.YtnblkjapeiaedaaGreatDoorFactFlawXAll
namespace Go.Proofs.YtnblkjapeiaedaaGreatDoor
open Go
set_option maxRecDepth 100000
theorem lawXAll_facts : joinedFacts Tryz.pinned.checked.prog 6 Tryz.f6 Rows.sheetAllSpec Rows.sheetAllRow = true := by
  unfold joinedFacts
  rw [lawXAll_inPlace, lawXAll_unfollowed, lawXAll_recurses, lawXAll_named, prog_laidOut, prog_mapsRowed, prog_stops, prog_stopKnobs, prog_stopsHeard, prog_plainKeys, lawXAll_wf]
  kernel_rfl
end Go.Proofs.YtnblkjapeiaedaaGreatDoor
