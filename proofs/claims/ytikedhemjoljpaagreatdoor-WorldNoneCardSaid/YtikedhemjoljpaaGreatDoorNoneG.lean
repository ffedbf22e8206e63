/-
  armariumlaw22.WorldNone: a world for the witness.
-/
import Derived.Test.YtikedhemjoljpaaGreatDoorRow
namespace Go.Proofs.YtikedhemjoljpaaGreatDoor
open Go Go.Eng Go.ChangeShapes Go.WideShapes Go.ChangeAt Go.RowKit
set_option maxRecDepth 100000

theorem none_shaped (os : Os) : ((World.laidAll Tryz.prog os laidAll).forCall (fun _ _ => 0) ⟨#[], #[], []⟩).Shaped Tryz.prog := World.shaped_of_ZipB (by kernel_rfl) (by kernel_rfl)
theorem none_met (os : Os) : laidMet Tryz.prog laidAll ((World.laidAll Tryz.prog os laidAll).forCall (fun _ _ => 0) ⟨#[], #[], []⟩).memory := laidMet_laidAll _ (by kernel_rfl) (by kernel_rfl)
end Go.Proofs.YtikedhemjoljpaaGreatDoor
