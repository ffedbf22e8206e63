/-
  armarium/armariumlaw15.AskBack: the closed facts of its row that ask much, one by one: together they pass the memory limit. No condition.
-/
import Derived.Test.YtldllfocpadkeaaGreatDoorCards
import Derived.JoinedOf
import Derived.Test.YtldllfocpadkeaaGreatDoorFactElawABack
import Derived.Test.YtldllfocpadkeaaGreatDoorFactFlawABack
namespace Go.Proofs.YtldllfocpadkeaaGreatDoor
open Go
set_option maxRecDepth 100000
theorem lawABack_facts:joinedFacts Tryz.pinned.checked.prog 11 Tryz.f11 Rows.askBackSpec Rows.askBackRow=true:=by
 unfold joinedFacts;rw[lawABack_inPlace,lawABack_unfollowed,lawABack_recurses,lawABack_named,prog_laidOut,prog_mapsRowed,prog_stops,prog_stopKnobs,prog_stopsHeard,prog_plainKeys,lawABack_wf]
 kernel_rfl
end Go.Proofs.YtldllfocpadkeaaGreatDoor
