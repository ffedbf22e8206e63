/-
  armarium/armariumlaw15.ScanEnds: closed facts of its card, one by one. No condition.
-/
import Derived.Test.YtpdbgpkedehpgaaGreatDoorCards
import Derived.SevenTiedAt
namespace Go.Proofs.YtpdbgpkedehpgaaGreatDoor
open Go
set_option maxRecDepth 100000
theorem lawEnds_goes : false = Rows.scanEndsRow.goesBy Tryz.pinned.checked.prog := by kernel_rfl
end Go.Proofs.YtpdbgpkedehpgaaGreatDoor
