/-
  armarium/armariumlaw19.FrontAll: the closed facts of its row that ask much, one by one: together they pass the memory limit. No condition.
-/
import Derived.Test.YtldllfocpadkeaaGreatDoorFactElawFA
import Derived.Test.YtldllfocpadkeaaGreatDoorFactFlawFA
namespace Go.Proofs.YtldllfocpadkeaaGreatDoor
open Go
set_option maxRecDepth 100000
theorem lawFA_facts:joinedFacts Tryz.pinned.checked.prog 5 Tryz.f5 Rows.frontAllSpec Rows.frontAllRow=true:=by
 unfold joinedFacts;rw[lawFA_inPlace,lawFA_unfollowed,lawFA_recurses,lawFA_named,prog_laidOut,prog_mapsRowed,prog_stops,prog_stopKnobs,prog_stopsHeard,prog_plainKeys,lawFA_wf]
 kernel_rfl
