/-
  armarium/armariumlaw21.NodeWaits: the closed facts of its row that ask much, one by one: together they pass the memory limit. No condition.
-/
import Derived.Test.YtdegbhgoldglaaaGreatDoorCards
import Derived.JoinedOf
import Derived.Test.YtdegbhgoldglaaaGreatDoorFactElawNW
import Derived.Test.YtdegbhgoldglaaaGreatDoorFactFlawNW
namespace Go.Proofs.YtdegbhgoldglaaaGreatDoor
open Go
set_option maxRecDepth 100000
theorem lawNW_facts : joinedFacts Tryz.pinned.checked.prog 5 Tryz.f5 Rows.nodeWaitsSpec Rows.nodeWaitsRow = true := by
  unfold joinedFacts
  rw [lawNW_inPlace, lawNW_unfollowed, lawNW_recurses, lawNW_named, prog_laidOut, prog_mapsRowed, prog_stops, prog_stopKnobs, prog_stopsHeard, prog_plainKeys, lawNW_wf]
  kernel_rfl
end Go.Proofs.YtdegbhgoldglaaaGreatDoor
