/-
  armarium/armariumlaw25.TaleFits: a world for the witness. No condition.
-/
import Derived.Test.YtkgejlchafionaaGreatDoorRow
namespace Go.Proofs.YtkgejlchafionaaGreatDoor
open Go Go.Eng Go.ChangeShapes Go.WideShapes Go.ChangeAt Go.RowKit
set_option maxRecDepth 100000
def wArgs:Array Value:=#[.agg #[.int .i64 0,.string ⟨#[]⟩,.int .i64 0,.string ⟨#[]⟩,.int .i64 0,.string ⟨#[]⟩,.string ⟨#[]⟩,.string ⟨#[]⟩,.int .i64 0,.bool false],.agg #[.int .i64 0,.slice none 0 0,.slice none 0 0,.int .i64 0,.int .i64 0,.int .i64 0,.int .i64 0,.int .i64 0],.agg #[.int .i64 0,.string ⟨#[]⟩,.string ⟨#[]⟩,.int .i64 0,.int .i64 0,.string ⟨#[]⟩,.int .i64 0,.int .i64 0],.bool false]
noncomputable abbrev wW (os:Os):World:=(World.laidAll Tryz.prog os laidAll).forCall (λ_ _=>0) ⟨#[],wArgs,[]⟩
theorem w_shaped (os:Os):(wW os).Shaped Tryz.prog:=World.shaped_of_ZipB (by kernel_rfl) (by kernel_rfl)
theorem w_met (os:Os):laidMet Tryz.prog laidAll (wW os).memory:=laidMet_laidAll _ (by kernel_rfl) (by kernel_rfl)
theorem w_ok (os:Os):Input.okWideB Tryz.prog (wW os) 3 ⟨#[],wArgs,[]⟩=true:=by kernel_rfl
theorem w_reads (os:Os) {H:Type} (enc:TypeId×Value->H):∃places,DataW.whole enc Tryz.prog (wW os).memory Tryz.f3.params.toList Rows.taleFitsSpec.vars false wArgs.toList 8=some ([.agg [.lit (.int .i64 0),.lit (.string []),.lit (.int .i64 0),.lit (.string []),.lit (.int .i64 0),.lit (.string []),.lit (.string []),.lit (.string []),.lit (.int .i64 0),.lit (.bool false)],.agg [.lit (.int .i64 0),.nil,.nil,.agg [.lit (.int .i64 0),.lit (.int .i64 0),.lit (.int .i64 0),.lit (.int .i64 0),.lit (.int .i64 0)]],.agg [.lit (.int .i64 0),.lit (.string []),.lit (.string []),.lit (.int .i64 0),.lit (.int .i64 0),.lit (.string []),.lit (.int .i64 0),.lit (.int .i64 0)],.lit (.bool false)],[],places):=
 ⟨[],by kernel_rfl⟩
