/-
  armarium/armariumlaw15.AskParts: the closed facts of its row that ask much, one by one: together they pass the memory limit. No condition.
-/
import Derived.Test.YtpdbgpkedehpgaaGreatDoorCards
import Derived.JoinedOf
import Derived.Test.YtpdbgpkedehpgaaGreatDoorFactElawParts
import Derived.Test.YtpdbgpkedehpgaaGreatDoorFactFlawParts
namespace Go.Proofs.YtpdbgpkedehpgaaGreatDoor
open Go
set_option maxRecDepth 100000
theorem lawParts_facts : joinedFacts Tryz.pinned.checked.prog 19 Tryz.f19 Rows.askPartsSpec Rows.askPartsRow = true := by
  unfold joinedFacts
  rw [lawParts_inPlace, lawParts_unfollowed, lawParts_recurses, lawParts_named, prog_laidOut, prog_mapsRowed, prog_stops, prog_stopKnobs, prog_stopsHeard, prog_plainKeys, lawParts_wf]
  kernel_rfl
end Go.Proofs.YtpdbgpkedehpgaaGreatDoor
