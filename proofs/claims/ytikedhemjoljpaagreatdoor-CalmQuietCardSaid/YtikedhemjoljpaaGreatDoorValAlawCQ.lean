/-
  armarium/armariumlaw22.CalmQuiet: a world for the witness. No condition.
-/
import Derived.Test.YtikedhemjoljpaaGreatDoorRow
namespace Go.Proofs.YtikedhemjoljpaaGreatDoor
open Go Go.Eng Go.ChangeShapes Go.WideShapes Go.ChangeAt Go.RowKit
set_option maxRecDepth 100000
def wArgs : Array Value := #[.int .i64 0, .int .i64 0]
noncomputable abbrev wW (os : Os) : World := (World.laidAll Tryz.prog os laidAll).forCall (fun _ _ => 0) ⟨#[], wArgs, []⟩
theorem w_shaped (os : Os) : (wW os).Shaped Tryz.prog := World.shaped_of_ZipB (by kernel_rfl) (by kernel_rfl)
theorem w_met (os : Os) : laidMet Tryz.prog laidAll (wW os).memory := laidMet_laidAll _ (by kernel_rfl) (by kernel_rfl)
theorem w_ok (os : Os) : Input.okWideB Tryz.prog (wW os) 8 ⟨#[], wArgs, []⟩ = true := by kernel_rfl
theorem w_reads (os : Os) {H : Type} (enc : TypeId × Value → H) : ∃ places, DataW.whole enc Tryz.prog (wW os).memory Tryz.f8.params.toList Rows.calmQuietSpec.vars false wArgs.toList 8 = some ([.lit (.int .i64 0), .lit (.int .i64 0)], [], places) :=
  ⟨[], by kernel_rfl⟩
end Go.Proofs.YtikedhemjoljpaaGreatDoor
