/-
  armarium/armariumlaw15.ScanAny: the closed facts of its row that ask much, one by one: together they pass the memory limit. No condition.
-/
import Derived.Test.YtpdbgpkedehpgaaGreatDoorCards
import Derived.JoinedOf
import Derived.Test.YtpdbgpkedehpgaaGreatDoorFactElawAny
import Derived.Test.YtpdbgpkedehpgaaGreatDoorFactFlawAny
namespace Go.Proofs.YtpdbgpkedehpgaaGreatDoor
open Go
set_option maxRecDepth 100000
theorem lawAny_facts : joinedFacts Tryz.pinned.checked.prog 4 Tryz.f4 Rows.scanAnySpec Rows.scanAnyRow = true := by
  unfold joinedFacts
  rw [lawAny_inPlace, lawAny_unfollowed, lawAny_recurses, lawAny_named, prog_laidOut, prog_mapsRowed, prog_stops, prog_stopKnobs, prog_stopsHeard, prog_plainKeys, lawAny_wf]
  kernel_rfl
end Go.Proofs.YtpdbgpkedehpgaaGreatDoor
