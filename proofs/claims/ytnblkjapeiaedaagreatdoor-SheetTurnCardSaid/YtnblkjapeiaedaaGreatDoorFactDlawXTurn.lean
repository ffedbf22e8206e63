/-
  armarium/armariumlaw17.SheetTurn: closed facts of its card, one by one. No condition.
-/
import Derived.Test.YtnblkjapeiaedaaGreatDoorCards
import Derived.SevenTiedAt
namespace Go.Proofs.YtnblkjapeiaedaaGreatDoor
open Go
set_option maxRecDepth 100000
theorem lawXTurn_goes : false = Rows.sheetTurnRow.goesBy Tryz.pinned.checked.prog := by kernel_rfl
end Go.Proofs.YtnblkjapeiaedaaGreatDoor
