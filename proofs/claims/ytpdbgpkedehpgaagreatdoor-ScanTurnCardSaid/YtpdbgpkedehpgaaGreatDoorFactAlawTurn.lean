/-
  armarium/armariumlaw15.ScanTurn: the closed facts of its row that ask much, one by one: together they pass the memory limit. No condition.
-/
import Derived.Test.YtpdbgpkedehpgaaGreatDoorCards
import Derived.JoinedOf
import Derived.Test.YtpdbgpkedehpgaaGreatDoorFactElawTurn
import Derived.Test.YtpdbgpkedehpgaaGreatDoorFactFlawTurn
namespace Go.Proofs.YtpdbgpkedehpgaaGreatDoor
open Go
set_option maxRecDepth 100000
theorem lawTurn_facts : joinedFacts Tryz.pinned.checked.prog 5 Tryz.f5 Rows.scanTurnSpec Rows.scanTurnRow = true := by
  unfold joinedFacts
  rw [lawTurn_inPlace, lawTurn_unfollowed, lawTurn_recurses, lawTurn_named, prog_laidOut, prog_mapsRowed, prog_stops, prog_stopKnobs, prog_stopsHeard, prog_plainKeys, lawTurn_wf]
  kernel_rfl
end Go.Proofs.YtpdbgpkedehpgaaGreatDoor
