/-
  armarium/armariumlaw19.FrontClosed: the closed facts of its row that ask much, one by one: together they pass the memory limit. No condition.
-/
import Derived.Test.YtldllfocpadkeaaGreatDoorCards
import Derived.JoinedOf
import Derived.Test.YtldllfocpadkeaaGreatDoorFactElawFC
import Derived.Test.YtldllfocpadkeaaGreatDoorFactFlawFC
namespace Go.Proofs.YtldllfocpadkeaaGreatDoor
open Go
set_option maxRecDepth 100000
theorem lawFC_facts:joinedFacts Tryz.pinned.checked.prog 8 Tryz.f8 Rows.frontClosedSpec Rows.frontClosedRow=true:=by
 unfold joinedFacts;rw[lawFC_inPlace,lawFC_unfollowed,lawFC_recurses,lawFC_named,prog_laidOut,prog_mapsRowed,prog_stops,prog_stopKnobs,prog_stopsHeard,prog_plainKeys,lawFC_wf]
 kernel_rfl
end Go.Proofs.YtldllfocpadkeaaGreatDoor
