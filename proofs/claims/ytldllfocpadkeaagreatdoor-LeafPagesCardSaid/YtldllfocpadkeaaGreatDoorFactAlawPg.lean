/-
  armarium/armariumlaw19.LeafPages: the closed facts of its row that ask much, one by one: together they pass the memory limit. No condition.
-/
import Derived.Test.YtldllfocpadkeaaGreatDoorCards
import Derived.JoinedOf
import Derived.Test.YtldllfocpadkeaaGreatDoorFactElawPg
import Derived.Test.YtldllfocpadkeaaGreatDoorFactFlawPg
namespace Go.Proofs.YtldllfocpadkeaaGreatDoor
open Go
set_option maxRecDepth 100000
theorem lawPg_facts:joinedFacts Tryz.pinned.checked.prog 6 Tryz.f6 Rows.leafPagesSpec Rows.leafPagesRow=true:=by
 unfold joinedFacts;rw[lawPg_inPlace,lawPg_unfollowed,lawPg_recurses,lawPg_named,prog_laidOut,prog_mapsRowed,prog_stops,prog_stopKnobs,prog_stopsHeard,prog_plainKeys,lawPg_wf]
 kernel_rfl
end Go.Proofs.YtldllfocpadkeaaGreatDoor
