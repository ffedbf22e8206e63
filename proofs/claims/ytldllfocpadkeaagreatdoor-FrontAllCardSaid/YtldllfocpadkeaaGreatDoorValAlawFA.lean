/-
  armarium/armariumlaw19.FrontAll: a world for the witness. No condition.
-/
import Derived.Test.YtldllfocpadkeaaGreatDoorRow
namespace Go.Proofs.YtldllfocpadkeaaGreatDoor
open Go Go.Eng Go.ChangeShapes Go.WideShapes Go.ChangeAt Go.RowKit
set_option maxRecDepth 100000
def wArgs:Array Value:=#[.slice none 0 0,.string ⟨#[]⟩,.slice none 0 0,.slice none 0 0]
noncomputable abbrev wW (os:Os):World:=(World.laidAll Tryz.prog os laidAll).forCall (λ_ _=>0) ⟨#[],wArgs,[]⟩
theorem w_shaped (os:Os):(wW os).Shaped Tryz.prog:=World.shaped_of_ZipB (by kernel_rfl) (by kernel_rfl)
theorem w_met (os:Os):laidMet Tryz.prog laidAll (wW os).memory:=laidMet_laidAll _ (by kernel_rfl) (by kernel_rfl)
theorem w_ok (os:Os):Input.okWideB Tryz.prog (wW os) 5 ⟨#[],wArgs,[]⟩=true:=by kernel_rfl
theorem w_reads (os:Os) {H:Type} (enc:TypeId×Value->H):∃places,DataW.whole enc Tryz.prog (wW os).memory Tryz.f5.params.toList Rows.frontAllSpec.vars false wArgs.toList 8=some ([.nil,.lit (.string []),.nil,.nil],[],places):=
 ⟨[],by kernel_rfl⟩
