/-
  armarium/armariumlaw15.ScanMethods: the closed facts of its row that ask much, one by one: together they pass the memory limit. No condition.
-/
import Derived.Test.YtpdbgpkedehpgaaGreatDoorCards
import Derived.JoinedOf
import Derived.Test.YtpdbgpkedehpgaaGreatDoorFactElawMeth
import Derived.Test.YtpdbgpkedehpgaaGreatDoorFactFlawMeth
namespace Go.Proofs.YtpdbgpkedehpgaaGreatDoor
open Go
set_option maxRecDepth 100000
theorem lawMeth_facts : joinedFacts Tryz.pinned.checked.prog 14 Tryz.f14 Rows.scanMethodsSpec Rows.scanMethodsRow = true := by
  unfold joinedFacts
  rw [lawMeth_inPlace, lawMeth_unfollowed, lawMeth_recurses, lawMeth_named, prog_laidOut, prog_mapsRowed, prog_stops, prog_stopKnobs, prog_stopsHeard, prog_plainKeys, lawMeth_wf]
  kernel_rfl
end Go.Proofs.YtpdbgpkedehpgaaGreatDoor
