/-
  armarium/armariumlaw15.AskVersion: the closed facts of its row that ask much, one by one: together they pass the memory limit. No condition.
-/
import Derived.Test.YtpdbgpkedehpgaaGreatDoorCards
import Derived.JoinedOf
import Derived.Test.YtpdbgpkedehpgaaGreatDoorFactElawV
import Derived.Test.YtpdbgpkedehpgaaGreatDoorFactFlawV
namespace Go.Proofs.YtpdbgpkedehpgaaGreatDoor
open Go
set_option maxRecDepth 100000
theorem lawV_facts : joinedFacts Tryz.pinned.checked.prog 20 Tryz.f20 Rows.askVersionSpec Rows.askVersionRow = true := by
  unfold joinedFacts
  rw [lawV_inPlace, lawV_unfollowed, lawV_recurses, lawV_named, prog_laidOut, prog_mapsRowed, prog_stops, prog_stopKnobs, prog_stopsHeard, prog_plainKeys, lawV_wf]
  kernel_rfl
end Go.Proofs.YtpdbgpkedehpgaaGreatDoor
