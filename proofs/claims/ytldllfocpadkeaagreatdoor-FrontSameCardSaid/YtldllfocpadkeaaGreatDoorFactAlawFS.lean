/-
  armarium/armariumlaw19.FrontSame: the closed facts of its row that ask much, one by one: together they pass the memory limit. No condition.
-/
import Derived.Test.YtldllfocpadkeaaGreatDoorCards
import Derived.JoinedOf
import Derived.Test.YtldllfocpadkeaaGreatDoorFactElawFS
import Derived.Test.YtldllfocpadkeaaGreatDoorFactFlawFS
namespace Go.Proofs.YtldllfocpadkeaaGreatDoor
open Go
set_option maxRecDepth 100000
theorem lawFS_facts:joinedFacts Tryz.pinned.checked.prog 9 Tryz.f9 Rows.frontSameSpec Rows.frontSameRow=true:=by
 unfold joinedFacts;rw[lawFS_inPlace,lawFS_unfollowed,lawFS_recurses,lawFS_named,prog_laidOut,prog_mapsRowed,prog_stops,prog_stopKnobs,prog_stopsHeard,prog_plainKeys,lawFS_wf]
 kernel_rfl
end Go.Proofs.YtldllfocpadkeaaGreatDoor
