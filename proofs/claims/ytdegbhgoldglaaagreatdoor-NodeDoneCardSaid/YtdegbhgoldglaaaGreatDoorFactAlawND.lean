/-
  armarium/armariumlaw21.NodeDone: the closed facts of its row that ask much, one by one: together they pass the memory limit. No condition.
-/
import Derived.Test.YtdegbhgoldglaaaGreatDoorCards
import Derived.JoinedOf
import Derived.Test.YtdegbhgoldglaaaGreatDoorFactElawND
import Derived.Test.YtdegbhgoldglaaaGreatDoorFactFlawND
namespace Go.Proofs.YtdegbhgoldglaaaGreatDoor
open Go
set_option maxRecDepth 100000
theorem lawND_facts : joinedFacts Tryz.pinned.checked.prog 4 Tryz.f4 Rows.nodeDoneSpec Rows.nodeDoneRow = true := by
  unfold joinedFacts
  rw [lawND_inPlace, lawND_unfollowed, lawND_recurses, lawND_named, prog_laidOut, prog_mapsRowed, prog_stops, prog_stopKnobs, prog_stopsHeard, prog_plainKeys, lawND_wf]
  kernel_rfl
end Go.Proofs.YtdegbhgoldglaaaGreatDoor
