/-
  armarium/armariumlaw25.TaleRight: the closed facts of its row that ask much, one by one: together they pass the memory limit. No condition.
-/
import Derived.Test.YtkgejlchafionaaGreatDoorCards
import Derived.JoinedOf
namespace Go.Proofs.YtkgejlchafionaaGreatDoor
open Go
set_option maxRecDepth 100000
theorem prog_laidOut:laidOutB Tryz.pinned.checked.prog=true:=by kernel_rfl
theorem prog_mapsRowed:mapsRowed Tryz.pinned.checked.prog=true:=by kernel_rfl
theorem prog_stops:Tryz.pinned.checked.prog.stops=[]:=by kernel_rfl
theorem prog_stopKnobs:Tryz.pinned.checked.prog.stopKnobs=[]:=by kernel_rfl
theorem prog_stopsHeard:Tryz.pinned.checked.prog.stopsHeard=true:=by kernel_rfl
theorem prog_plainKeys:Tryz.pinned.checked.prog.plainKeys=Rows.taleRightRow.plainKeys:=by kernel_rfl
