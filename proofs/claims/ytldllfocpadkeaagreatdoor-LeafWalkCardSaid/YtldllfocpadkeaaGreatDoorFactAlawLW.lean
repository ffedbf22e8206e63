/-
  armarium/armariumlaw19.LeafWalk: the closed facts of its row that ask much, one by one: together they pass the memory limit. No condition.
-/
import Derived.Test.YtldllfocpadkeaaGreatDoorCards
import Derived.JoinedOf
import Derived.Test.YtldllfocpadkeaaGreatDoorFactElawLW
import Derived.Test.YtldllfocpadkeaaGreatDoorFactFlawLW
namespace Go.Proofs.YtldllfocpadkeaaGreatDoor
open Go
set_option maxRecDepth 100000
theorem lawLW_facts:joinedFacts Tryz.pinned.checked.prog 10 Tryz.f10 Rows.leafWalkSpec Rows.leafWalkRow=true:=by
 unfold joinedFacts;rw[lawLW_inPlace,lawLW_unfollowed,lawLW_recurses,lawLW_named,prog_laidOut,prog_mapsRowed,prog_stops,prog_stopKnobs,prog_stopsHeard,prog_plainKeys,lawLW_wf]
 kernel_rfl
end Go.Proofs.YtldllfocpadkeaaGreatDoor
