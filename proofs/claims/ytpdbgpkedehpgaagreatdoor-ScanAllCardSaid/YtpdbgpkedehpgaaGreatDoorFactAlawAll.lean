/-
  armarium/armariumlaw15.ScanAll: the closed facts of its row that ask much, one by one: together they pass the memory limit. No condition.
-/
import Derived.Test.YtpdbgpkedehpgaaGreatDoorCards
import Derived.JoinedOf
import Derived.Test.YtpdbgpkedehpgaaGreatDoorFactElawAll
import Derived.Test.YtpdbgpkedehpgaaGreatDoorFactFlawAll
namespace Go.Proofs.YtpdbgpkedehpgaaGreatDoor
open Go
set_option maxRecDepth 100000
theorem lawAll_facts : joinedFacts Tryz.pinned.checked.prog 3 Tryz.f3 Rows.scanAllSpec Rows.scanAllRow = true := by
  unfold joinedFacts
  rw [lawAll_inPlace, lawAll_unfollowed, lawAll_recurses, lawAll_named, prog_laidOut, prog_mapsRowed, prog_stops, prog_stopKnobs, prog_stopsHeard, prog_plainKeys, lawAll_wf]
  kernel_rfl
end Go.Proofs.YtpdbgpkedehpgaaGreatDoor
