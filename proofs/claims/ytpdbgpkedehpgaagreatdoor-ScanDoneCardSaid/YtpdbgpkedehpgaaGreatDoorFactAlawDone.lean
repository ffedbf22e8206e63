/-
  armarium/armariumlaw15.ScanDone: the closed facts of its row that ask much, one by one: together they pass the memory limit. No condition.
-/
import Derived.Test.YtpdbgpkedehpgaaGreatDoorCards
import Derived.JoinedOf
import Derived.Test.YtpdbgpkedehpgaaGreatDoorFactElawDone
import Derived.Test.YtpdbgpkedehpgaaGreatDoorFactFlawDone
namespace Go.Proofs.YtpdbgpkedehpgaaGreatDoor
open Go
set_option maxRecDepth 100000
theorem lawDone_facts : joinedFacts Tryz.pinned.checked.prog 8 Tryz.f8 Rows.scanDoneSpec Rows.scanDoneRow = true := by
  unfold joinedFacts
  rw [lawDone_inPlace, lawDone_unfollowed, lawDone_recurses, lawDone_named, prog_laidOut, prog_mapsRowed, prog_stops, prog_stopKnobs, prog_stopsHeard, prog_plainKeys, lawDone_wf]
  kernel_rfl
end Go.Proofs.YtpdbgpkedehpgaaGreatDoor
