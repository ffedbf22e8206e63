/-
  armarium/armariumlaw15.ScanMany: closed facts of its card, one by one. No condition.
-/
import Derived.Test.YtpdbgpkedehpgaaGreatDoorCards
import Derived.SevenTiedAt
namespace Go.Proofs.YtpdbgpkedehpgaaGreatDoor
open Go
set_option maxRecDepth 100000
theorem lawMany_goes : false = Rows.scanManyRow.goesBy Tryz.pinned.checked.prog := by kernel_rfl
end Go.Proofs.YtpdbgpkedehpgaaGreatDoor
