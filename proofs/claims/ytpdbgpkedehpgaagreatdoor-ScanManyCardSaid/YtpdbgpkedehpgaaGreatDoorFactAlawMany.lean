/-
  armarium/armariumlaw15.ScanMany: the closed facts of its row that ask much, one by one: together they pass the memory limit. No condition.
-/
import Derived.Test.YtpdbgpkedehpgaaGreatDoorCards
import Derived.JoinedOf
import Derived.Test.YtpdbgpkedehpgaaGreatDoorFactElawMany
import Derived.Test.YtpdbgpkedehpgaaGreatDoorFactFlawMany
namespace Go.Proofs.YtpdbgpkedehpgaaGreatDoor
open Go
set_option maxRecDepth 100000
theorem lawMany_facts : joinedFacts Tryz.pinned.checked.prog 13 Tryz.f13 Rows.scanManySpec Rows.scanManyRow = true := by
  unfold joinedFacts
  rw [lawMany_inPlace, lawMany_unfollowed, lawMany_recurses, lawMany_named, prog_laidOut, prog_mapsRowed, prog_stops, prog_stopKnobs, prog_stopsHeard, prog_plainKeys, lawMany_wf]
  kernel_rfl
end Go.Proofs.YtpdbgpkedehpgaaGreatDoor
