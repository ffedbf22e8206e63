/-
  armarium/armariumlaw25.TaleRight: the closed facts of its row that ask much, one by one: together they pass the memory limit. No condition.
-/
import Derived.Test.YtkgejlchafionaaGreatDoorFactElawTR
import Derived.Test.YtkgejlchafionaaGreatDoorFactFlawTR
namespace Go.Proofs.YtkgejlchafionaaGreatDoor
open Go
set_option maxRecDepth 100000
theorem lawTR_facts:joinedFacts Tryz.pinned.checked.prog 5 Tryz.f5 Rows.taleRightSpec Rows.taleRightRow=true:=by
 unfold joinedFacts;rw[lawTR_inPlace,lawTR_unfollowed,lawTR_recurses,lawTR_named,prog_laidOut,prog_mapsRowed,prog_stops,prog_stopKnobs,prog_stopsHeard,prog_plainKeys,lawTR_wf]
 kernel_rfl
