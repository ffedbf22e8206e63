/-
  armarium/armariumlaw25.TaleFits: the closed facts of its row that ask much, one by one: together they pass the memory limit. No condition.
-/
import Derived.Test.YtkgejlchafionaaGreatDoorFactElawTF
import Derived.Test.YtkgejlchafionaaGreatDoorFactFlawTF
namespace Go.Proofs.YtkgejlchafionaaGreatDoor
open Go
set_option maxRecDepth 100000
theorem lawTF_facts:joinedFacts Tryz.pinned.checked.prog 3 Tryz.f3 Rows.taleFitsSpec Rows.taleFitsRow=true:=by
 unfold joinedFacts;rw[lawTF_inPlace,lawTF_unfollowed,lawTF_recurses,lawTF_named,prog_laidOut,prog_mapsRowed,prog_stops,prog_stopKnobs,prog_stopsHeard,prog_plainKeys,lawTF_wf]
 kernel_rfl
