/-
  armariumlaw19.FrontNone: closed facts of its card, one by one.
-/
import Derived.Test.YtdbaigcnlmnliaaGreatDoorCards
import Derived.SevenTiedAt
namespace Go.Proofs.YtdbaigcnlmnliaaGreatDoor
open Go
set_option maxRecDepth 100000
theorem none_goes : false = Rows.frontNoneRow.goesBy Tryz.pinned.checked.prog := by kernel_rfl
end Go.Proofs.YtdbaigcnlmnliaaGreatDoor
