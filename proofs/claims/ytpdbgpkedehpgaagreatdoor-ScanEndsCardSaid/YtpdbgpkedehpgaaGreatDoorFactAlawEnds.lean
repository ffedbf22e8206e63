/-
  armarium/armariumlaw15.ScanEnds: the closed facts of its row that ask much, one by one: together they pass the memory limit. No condition.
-/
import Derived.Test.YtpdbgpkedehpgaaGreatDoorCards
import Derived.JoinedOf
import Derived.Test.YtpdbgpkedehpgaaGreatDoorFactElawEnds
import Derived.Test.YtpdbgpkedehpgaaGreatDoorFactFlawEnds
namespace Go.Proofs.YtpdbgpkedehpgaaGreatDoor
open Go
set_option maxRecDepth 100000
theorem lawEnds_facts : joinedFacts Tryz.pinned.checked.prog 16 Tryz.f16 Rows.scanEndsSpec Rows.scanEndsRow = true := by
  unfold joinedFacts
  rw [lawEnds_inPlace, lawEnds_unfollowed, lawEnds_recurses, lawEnds_named, prog_laidOut, prog_mapsRowed, prog_stops, prog_stopKnobs, prog_stopsHeard, prog_plainKeys, lawEnds_wf]
  kernel_rfl
end Go.Proofs.YtpdbgpkedehpgaaGreatDoor
