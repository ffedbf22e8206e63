/-
  armariumlaw22.WorldDown: the law, whatever number it is given. No condition.
-/
import Derived.Test.YtikedhemjoljpaaGreatDoorLawS0
namespace Go.Proofs.YtikedhemjoljpaaGreatDoor
noncomputable section
open Go Go.Eng
set_option maxRecDepth 1000000
theorem wd_k (n : Int) : kzTrueS Tryz.prog (envQ smS []) 100000 [] 6 [sy (.int .i64 n)] = some [] := by kernel_rfl
theorem lawWD_run {w : World} (hgl : GlW glC w) {args : Array Value} {x : DenL [.int .i64]} (hx : RdAll (fzW w) [.int .i64] x args.toList) (_ : BdL [.int .i64] x) : Calls Tryz.prog 6 args w fun e w' => e = .returned (.bool true) ∧ Same w w' := by
  rw [rd_i1 hx]
  exact kz_true_s (envQ_ok (l := []) smS_ok trivial) gl_ne (wd_k x.1) trivial (fun _ _ => ar_cons (vr_sy _) (ar_nil _ _)) w hgl
end
end Go.Proofs.YtikedhemjoljpaaGreatDoor
