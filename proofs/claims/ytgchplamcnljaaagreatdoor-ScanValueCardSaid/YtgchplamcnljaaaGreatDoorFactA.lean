/-
  armariumlaw15.ScanValue: the closed facts of its row that ask much, one by one: together they pass the memory limit.
-/
import Derived.Test.YtgchplamcnljaaaGreatDoorCards
import Derived.JoinedOf
import Derived.Test.YtgchplamcnljaaaGreatDoorFactE
import Derived.Test.YtgchplamcnljaaaGreatDoorFactF
namespace Go.Proofs.YtgchplamcnljaaaGreatDoor
open Go
set_option maxRecDepth 100000
theorem value_facts : joinedFacts Tryz.pinned.checked.prog 3 Tryz.f3 Rows.scanValueSpec Rows.scanValueRow = true := by
  unfold joinedFacts
  rw [value_inPlace, value_unfollowed, value_recurses, value_named, prog_laidOut, prog_mapsRowed, prog_stops, prog_stopKnobs, prog_stopsHeard, prog_plainKeys, value_wf]
  kernel_rfl
end Go.Proofs.YtgchplamcnljaaaGreatDoor
