/-
  armarium/armariumlaw15.ScanEncoding: the closed facts of its row that ask much, one by one: together they pass the memory limit. No condition.
-/
import Derived.Test.YtpdbgpkedehpgaaGreatDoorCards
import Derived.JoinedOf
import Derived.Test.YtpdbgpkedehpgaaGreatDoorFactElawEnc
import Derived.Test.YtpdbgpkedehpgaaGreatDoorFactFlawEnc
namespace Go.Proofs.YtpdbgpkedehpgaaGreatDoor
open Go
set_option maxRecDepth 100000
theorem lawEnc_facts : joinedFacts Tryz.pinned.checked.prog 17 Tryz.f17 Rows.scanEncodingSpec Rows.scanEncodingRow = true := by
  unfold joinedFacts
  rw [lawEnc_inPlace, lawEnc_unfollowed, lawEnc_recurses, lawEnc_named, prog_laidOut, prog_mapsRowed, prog_stops, prog_stopKnobs, prog_stopsHeard, prog_plainKeys, lawEnc_wf]
  kernel_rfl
end Go.Proofs.YtpdbgpkedehpgaaGreatDoor
