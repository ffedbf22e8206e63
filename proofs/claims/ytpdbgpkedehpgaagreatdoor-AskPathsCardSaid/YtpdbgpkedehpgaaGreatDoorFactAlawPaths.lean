/-
  armarium/armariumlaw15.AskPaths: the closed facts of its row that ask much, one by one: together they pass the memory limit. No condition.
-/
import Derived.Test.YtpdbgpkedehpgaaGreatDoorCards
import Derived.JoinedOf
import Derived.Test.YtpdbgpkedehpgaaGreatDoorFactElawPaths
import Derived.Test.YtpdbgpkedehpgaaGreatDoorFactFlawPaths
namespace Go.Proofs.YtpdbgpkedehpgaaGreatDoor
open Go
set_option maxRecDepth 100000
theorem lawPaths_facts : joinedFacts Tryz.pinned.checked.prog 18 Tryz.f18 Rows.askPathsSpec Rows.askPathsRow = true := by
  unfold joinedFacts
  rw [lawPaths_inPlace, lawPaths_unfollowed, lawPaths_recurses, lawPaths_named, prog_laidOut, prog_mapsRowed, prog_stops, prog_stopKnobs, prog_stopsHeard, prog_plainKeys, lawPaths_wf]
  kernel_rfl
end Go.Proofs.YtpdbgpkedehpgaaGreatDoor
