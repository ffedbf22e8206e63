/-
  armarium/armariumlaw19.LeafAll: the closed facts of its row that ask much, one by one: together they pass the memory limit. No condition.
-/
import Derived.Test.YtldllfocpadkeaaGreatDoorCards
import Derived.JoinedOf
import Derived.Test.YtldllfocpadkeaaGreatDoorFactElawLA
import Derived.Test.YtldllfocpadkeaaGreatDoorFactFlawLA
namespace Go.Proofs.YtldllfocpadkeaaGreatDoor
open Go
set_option maxRecDepth 100000
theorem lawLA_facts:joinedFacts Tryz.pinned.checked.prog 3 Tryz.f3 Rows.leafAllSpec Rows.leafAllRow=true:=by
 unfold joinedFacts;rw[lawLA_inPlace,lawLA_unfollowed,lawLA_recurses,lawLA_named,prog_laidOut,prog_mapsRowed,prog_stops,prog_stopKnobs,prog_stopsHeard,prog_plainKeys,lawLA_wf]
 kernel_rfl
end Go.Proofs.YtldllfocpadkeaaGreatDoor
