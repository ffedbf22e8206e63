/-
  armarium/armariumlaw19.FrontResult: the closed facts of its row that ask much, one by one: together they pass the memory limit. No condition.
-/
import Derived.Test.YtldllfocpadkeaaGreatDoorCards
import Derived.JoinedOf
import Derived.Test.YtldllfocpadkeaaGreatDoorFactElawFR
import Derived.Test.YtldllfocpadkeaaGreatDoorFactFlawFR
namespace Go.Proofs.YtldllfocpadkeaaGreatDoor
open Go
set_option maxRecDepth 100000
theorem lawFR_facts:joinedFacts Tryz.pinned.checked.prog 4 Tryz.f4 Rows.frontResultSpec Rows.frontResultRow=true:=by
 unfold joinedFacts;rw[lawFR_inPlace,lawFR_unfollowed,lawFR_recurses,lawFR_named,prog_laidOut,prog_mapsRowed,prog_stops,prog_stopKnobs,prog_stopsHeard,prog_plainKeys,lawFR_wf]
 kernel_rfl
end Go.Proofs.YtldllfocpadkeaaGreatDoor
