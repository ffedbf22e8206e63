/-
  armarium/armariumlaw17.SheetAny: closed facts of its card, one by one. No condition.
-/
import Derived.Test.YtnblkjapeiaedaaGreatDoorCards
import Derived.SevenTiedAt
namespace Go.Proofs.YtnblkjapeiaedaaGreatDoor
open Go
set_option maxRecDepth 100000
theorem lawXAny_goes : false = Rows.sheetAnyRow.goesBy Tryz.pinned.checked.prog := by kernel_rfl
end Go.Proofs.YtnblkjapeiaedaaGreatDoor
