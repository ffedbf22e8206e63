/-
  armarium/armariumlaw15.AskTurn: the closed facts of its row that ask much, one by one: together they pass the memory limit. No condition.
-/
import Derived.Test.YtpdbgpkedehpgaaGreatDoorCards
import Derived.JoinedOf
import Derived.Test.YtpdbgpkedehpgaaGreatDoorFactElawATurn
import Derived.Test.YtpdbgpkedehpgaaGreatDoorFactFlawATurn
namespace Go.Proofs.YtpdbgpkedehpgaaGreatDoor
open Go
set_option maxRecDepth 100000
theorem lawATurn_facts : joinedFacts Tryz.pinned.checked.prog 10 Tryz.f10 Rows.askTurnSpec Rows.askTurnUptoRow = true := by
  unfold joinedFacts
  rw [lawATurn_inPlace, lawATurn_unfollowed, lawATurn_recurses, lawATurn_named, prog_laidOut, prog_mapsRowed, prog_stops, prog_stopKnobs, prog_stopsHeard, prog_plainKeys, lawATurn_wf]
  kernel_rfl
end Go.Proofs.YtpdbgpkedehpgaaGreatDoor
