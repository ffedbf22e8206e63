/-
  armarium/armariumlaw15.AskAll: the closed facts of its row that ask much, one by one: together they pass the memory limit. No condition.
-/
import Derived.Test.YtpdbgpkedehpgaaGreatDoorCards
import Derived.JoinedOf
import Derived.Test.YtpdbgpkedehpgaaGreatDoorFactElawAAll
import Derived.Test.YtpdbgpkedehpgaaGreatDoorFactFlawAAll
namespace Go.Proofs.YtpdbgpkedehpgaaGreatDoor
open Go
set_option maxRecDepth 100000
theorem lawAAll_facts : joinedFacts Tryz.pinned.checked.prog 9 Tryz.f9 Rows.askAllSpec Rows.askAllRow = true := by
  unfold joinedFacts
  rw [lawAAll_inPlace, lawAAll_unfollowed, lawAAll_recurses, lawAAll_named, prog_laidOut, prog_mapsRowed, prog_stops, prog_stopKnobs, prog_stopsHeard, prog_plainKeys, lawAAll_wf]
  kernel_rfl
end Go.Proofs.YtpdbgpkedehpgaaGreatDoor
