/-
  armarium/armariumlaw21.NodeDone: closed facts of its card, one by one. No condition.
-/
import Derived.Test.YtdegbhgoldglaaaGreatDoorCards
import Derived.SevenTiedAt
import Derived.Test.YtdegbhgoldglaaaGreatDoorG1
namespace Go.Proofs.YtdegbhgoldglaaaGreatDoor
open Go
set_option maxRecDepth 100000
theorem lawND_goes : false = Rows.nodeDoneRow.goesBy Tryz.pinned.checked.prog := goes_none none_all _
end Go.Proofs.YtdegbhgoldglaaaGreatDoor
