/-
  armariumlaw15.ScanNone: the closed facts of its row that ask much, one by one: together they pass the memory limit.
-/
import Derived.Test.YtpdbgpkedehpgaaGreatDoorCards
import Derived.JoinedOf
namespace Go.Proofs.YtpdbgpkedehpgaaGreatDoor
open Go
set_option maxRecDepth 100000
theorem prog_laidOut : laidOutB Tryz.pinned.checked.prog = true := by kernel_rfl
theorem prog_mapsRowed : mapsRowed Tryz.pinned.checked.prog = true := by kernel_rfl
theorem prog_stops : Tryz.pinned.checked.prog.stops = [] := by kernel_rfl
theorem prog_stopKnobs : Tryz.pinned.checked.prog.stopKnobs = [] := by kernel_rfl
theorem prog_stopsHeard : Tryz.pinned.checked.prog.stopsHeard = true := by kernel_rfl
theorem prog_plainKeys : Tryz.pinned.checked.prog.plainKeys = Rows.scanNoneRow.plainKeys := by kernel_rfl
theorem none_wf : Rows.scanNoneRow.wf (OpenSpec.ofChange Rows.scanNoneSpec) = true := by kernel_rfl
theorem none_inPlace : Tryz.pinned.checked.prog.inPlace 12 = Rows.scanNoneRow.inPlace := by kernel_rfl
theorem none_unfollowed : Tryz.pinned.checked.prog.unfollowed 12 = Rows.scanNoneRow.unfollowed := by kernel_rfl
theorem none_recurses : Tryz.pinned.checked.prog.recurses 12 = Rows.scanNoneRow.recurses := by kernel_rfl
theorem none_named : Tryz.pinned.checked.prog.varsNamed 12 = Rows.scanNoneRow.named := by kernel_rfl
theorem none_facts : joinedFacts Tryz.pinned.checked.prog 12 Tryz.f12 Rows.scanNoneSpec Rows.scanNoneRow = true := by
  unfold joinedFacts
  rw [none_inPlace, none_unfollowed, none_recurses, none_named, prog_laidOut, prog_mapsRowed, prog_stops, prog_stopKnobs, prog_stopsHeard, prog_plainKeys, none_wf]
  kernel_rfl
end Go.Proofs.YtpdbgpkedehpgaaGreatDoor
