/-
  armariumlaw15.ScanNone: closed facts of its card, one by one.
-/
import Derived.Test.YtpdbgpkedehpgaaGreatDoorNoneA
import Derived.SevenTiedAt
namespace Go.Proofs.YtpdbgpkedehpgaaGreatDoor
open Go
set_option maxRecDepth 100000
theorem none_goes : false = Rows.scanNoneRow.goesBy Tryz.pinned.checked.prog := by kernel_rfl
end Go.Proofs.YtpdbgpkedehpgaaGreatDoor
