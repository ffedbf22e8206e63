/-
  armarium/armariumlaw19.FrontOrder: the closed facts of its row that ask much, one by one: together they pass the memory limit. No condition.
-/
import Derived.Test.YtldllfocpadkeaaGreatDoorCards
import Derived.JoinedOf
import Derived.Test.YtldllfocpadkeaaGreatDoorFactElawFO
import Derived.Test.YtldllfocpadkeaaGreatDoorFactFlawFO
namespace Go.Proofs.YtldllfocpadkeaaGreatDoor
open Go
set_option maxRecDepth 100000
theorem lawFO_facts:joinedFacts Tryz.pinned.checked.prog 7 Tryz.f7 Rows.frontOrderSpec Rows.frontOrderRow=true:=by
 unfold joinedFacts;rw[lawFO_inPlace,lawFO_unfollowed,lawFO_recurses,lawFO_named,prog_laidOut,prog_mapsRowed,prog_stops,prog_stopKnobs,prog_stopsHeard,prog_plainKeys,lawFO_wf]
 kernel_rfl
end Go.Proofs.YtldllfocpadkeaaGreatDoor
