/-
  armarium/armariumlaw15.ScanLength: the closed facts of its row that ask much, one by one: together they pass the memory limit. No condition.
-/
import Derived.Test.YtpdbgpkedehpgaaGreatDoorCards
import Derived.JoinedOf
import Derived.Test.YtpdbgpkedehpgaaGreatDoorFactElawLen
import Derived.Test.YtpdbgpkedehpgaaGreatDoorFactFlawLen
namespace Go.Proofs.YtpdbgpkedehpgaaGreatDoor
open Go
set_option maxRecDepth 100000
theorem lawLen_facts : joinedFacts Tryz.pinned.checked.prog 6 Tryz.f6 Rows.scanLengthSpec Rows.scanLengthRow = true := by
  unfold joinedFacts
  rw [lawLen_inPlace, lawLen_unfollowed, lawLen_recurses, lawLen_named, prog_laidOut, prog_mapsRowed, prog_stops, prog_stopKnobs, prog_stopsHeard, prog_plainKeys, lawLen_wf]
  kernel_rfl
end Go.Proofs.YtpdbgpkedehpgaaGreatDoor
