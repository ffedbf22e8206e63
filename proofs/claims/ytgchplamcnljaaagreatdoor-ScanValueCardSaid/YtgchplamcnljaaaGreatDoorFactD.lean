/-
  armariumlaw15.ScanValue: closed facts of its card, one by one.
-/
import Derived.Test.YtgchplamcnljaaaGreatDoorCards
import Derived.SevenTiedAt
namespace Go.Proofs.YtgchplamcnljaaaGreatDoor
open Go
set_option maxRecDepth 100000
theorem value_goes : false = Rows.scanValueRow.goesBy Tryz.pinned.checked.prog := by kernel_rfl
end Go.Proofs.YtgchplamcnljaaaGreatDoor
