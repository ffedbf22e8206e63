/-
  armarium/armariumlaw25.TaleRight: a world for the witness. No condition.
-/
import Derived.Test.YtkgejlchafionaaGreatDoorRow
namespace Go.Proofs.YtkgejlchafionaaGreatDoor
open Go Go.Eng Go.ChangeShapes Go.WideShapes Go.ChangeAt Go.RowKit
set_option maxRecDepth 100000
def wArgs:Array Value:=#[.slice none 0 0]
noncomputable abbrev wW (os:Os):World:=(World.laidAll Tryz.prog os laidAll).forCall (λ_ _=>0) ⟨#[],wArgs,[]⟩
theorem w_shaped (os:Os):(wW os).Shaped Tryz.prog:=World.shaped_of_ZipB (by kernel_rfl) (by kernel_rfl)
theorem w_met (os:Os):laidMet Tryz.prog laidAll (wW os).memory:=laidMet_laidAll _ (by kernel_rfl) (by kernel_rfl)
theorem w_ok (os:Os):Input.okWideB Tryz.prog (wW os) 5 ⟨#[],wArgs,[]⟩=true:=by kernel_rfl
theorem w_reads (os:Os) {H:Type} (enc:TypeId×Value->H):∃places,DataW.whole enc Tryz.prog (wW os).memory Tryz.f5.params.toList Rows.taleRightSpec.vars false wArgs.toList 8=some ([.nil],[],places):=
 ⟨[],by kernel_rfl⟩
