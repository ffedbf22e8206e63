/-
  armariumlaw22.WorldSizes: the law: the outcomes of its comparisons are told ahead. No condition.
-/
import Derived.Test.YtikedhemjoljpaaGreatDoorLawS0
namespace Go.Proofs.YtikedhemjoljpaaGreatDoor
noncomputable section
open Go Go.Eng
set_option maxRecDepth 1000000
theorem ws1 (n : Int) : kzTrueS Tryz.prog (envQ smS []) 100000 [1, 0, 1, 0, 0, 0, 0, 0, 1] 4 [sy (.int .i64 n)] = some [(((1 : Int) == max 1 (min n 5)) == true), (decide ((6 : Int) ≤ max 1 (min n 5)) == false), (decide ((5 : Int) ≤ max 1 (min n 5)) == false), (decide ((4 : Int) ≤ max 1 (min n 5)) == false), (decide ((3 : Int) ≤ max 1 (min n 5)) == false), (decide ((2 : Int) ≤ max 1 (min n 5)) == false), (decide ((1 : Int) ≤ max 1 (min n 5)) == true), (decide ((2 : Int) ≤ min (max n 1) 5) == false), (decide ((1 : Int) ≤ min (max n 1) 5) == true)] := by kernel_rfl
theorem ws2 (n : Int) : kzTrueS Tryz.prog (envQ smS []) 100000 [1, 1, 0, 1, 1, 0, 0, 0, 0, 1] 4 [sy (.int .i64 n)] = some [(((2 : Int) == max 1 (min n 5)) == true), (decide ((6 : Int) ≤ max 1 (min n 5)) == false), (decide ((5 : Int) ≤ max 1 (min n 5)) == false), (decide ((4 : Int) ≤ max 1 (min n 5)) == false), (decide ((3 : Int) ≤ max 1 (min n 5)) == false), (decide ((2 : Int) ≤ max 1 (min n 5)) == true), (decide ((1 : Int) ≤ max 1 (min n 5)) == true), (decide ((3 : Int) ≤ min (max n 1) 5) == false), (decide ((2 : Int) ≤ min (max n 1) 5) == true), (decide ((1 : Int) ≤ min (max n 1) 5) == true)] := by kernel_rfl
theorem ws3 (n : Int) : kzTrueS Tryz.prog (envQ smS []) 100000 [1, 1, 1, 0, 1, 1, 1, 0, 0, 0, 1] 4 [sy (.int .i64 n)] = some [(((3 : Int) == max 1 (min n 5)) == true), (decide ((6 : Int) ≤ max 1 (min n 5)) == false), (decide ((5 : Int) ≤ max 1 (min n 5)) == false), (decide ((4 : Int) ≤ max 1 (min n 5)) == false), (decide ((3 : Int) ≤ max 1 (min n 5)) == true), (decide ((2 : Int) ≤ max 1 (min n 5)) == true), (decide ((1 : Int) ≤ max 1 (min n 5)) == true), (decide ((4 : Int) ≤ min (max n 1) 5) == false), (decide ((3 : Int) ≤ min (max n 1) 5) == true), (decide ((2 : Int) ≤ min (max n 1) 5) == true), (decide ((1 : Int) ≤ min (max n 1) 5) == true)] := by kernel_rfl
theorem ws4 (n : Int) : kzTrueS Tryz.prog (envQ smS []) 100000 [1, 1, 1, 1, 0, 1, 1, 1, 1, 0, 0, 1] 4 [sy (.int .i64 n)] = some [(((4 : Int) == max 1 (min n 5)) == true), (decide ((6 : Int) ≤ max 1 (min n 5)) == false), (decide ((5 : Int) ≤ max 1 (min n 5)) == false), (decide ((4 : Int) ≤ max 1 (min n 5)) == true), (decide ((3 : Int) ≤ max 1 (min n 5)) == true), (decide ((2 : Int) ≤ max 1 (min n 5)) == true), (decide ((1 : Int) ≤ max 1 (min n 5)) == true), (decide ((5 : Int) ≤ min (max n 1) 5) == false), (decide ((4 : Int) ≤ min (max n 1) 5) == true), (decide ((3 : Int) ≤ min (max n 1) 5) == true), (decide ((2 : Int) ≤ min (max n 1) 5) == true), (decide ((1 : Int) ≤ min (max n 1) 5) == true)] := by kernel_rfl
theorem ws5 (n : Int) : kzTrueS Tryz.prog (envQ smS []) 100000 [1, 1, 1, 1, 1, 0, 1, 1, 1, 1, 1, 0, 1] 4 [sy (.int .i64 n)] = some [(((5 : Int) == max 1 (min n 5)) == true), (decide ((6 : Int) ≤ max 1 (min n 5)) == false), (decide ((5 : Int) ≤ max 1 (min n 5)) == true), (decide ((4 : Int) ≤ max 1 (min n 5)) == true), (decide ((3 : Int) ≤ max 1 (min n 5)) == true), (decide ((2 : Int) ≤ max 1 (min n 5)) == true), (decide ((1 : Int) ≤ max 1 (min n 5)) == true), (decide ((6 : Int) ≤ min (max n 1) 5) == false), (decide ((5 : Int) ≤ min (max n 1) 5) == true), (decide ((4 : Int) ≤ min (max n 1) 5) == true), (decide ((3 : Int) ≤ min (max n 1) 5) == true), (decide ((2 : Int) ≤ min (max n 1) 5) == true), (decide ((1 : Int) ≤ min (max n 1) 5) == true)] := by kernel_rfl
theorem ws_one {n : Int} {ora : List Nat} {pc : List Bool} (h : kzTrueS Tryz.prog (envQ smS []) 100000 ora 4 [sy (.int .i64 n)] = some pc) (hp : AllP pc) {w : World} (hgl : GlW glC w) : Calls Tryz.prog 4 #[.int .i64 n] w fun e w' => e = .returned (.bool true) ∧ Same w w' :=
  kz_true_s (envQ_ok (l := []) smS_ok trivial) gl_ne h hp (fun _ _ => ar_cons (vr_sy _) (ar_nil _ _)) w hgl
theorem ws_all (n : Int) {w : World} (hgl : GlW glC w) : Calls Tryz.prog 4 #[.int .i64 n] w fun e w' => e = .returned (.bool true) ∧ Same w w' := by
  have hm : max 1 (min n 5) = min (max n 1) 5 := by omega
  rcases (by omega : n ≤ 1 ∨ n = 2 ∨ n = 3 ∨ n = 4 ∨ 5 ≤ n) with h | h | h | h | h
  · have e : min (max n 1) 5 = 1 := by omega
    exact ws_one (ws1 n) (by rw [hm, e]; exact ⟨rfl, rfl, rfl, rfl, rfl, rfl, rfl, rfl, rfl, trivial⟩) hgl
  · have e : min (max n 1) 5 = 2 := by omega
    exact ws_one (ws2 n) (by rw [hm, e]; exact ⟨rfl, rfl, rfl, rfl, rfl, rfl, rfl, rfl, rfl, rfl, trivial⟩) hgl
  · have e : min (max n 1) 5 = 3 := by omega
    exact ws_one (ws3 n) (by rw [hm, e]; exact ⟨rfl, rfl, rfl, rfl, rfl, rfl, rfl, rfl, rfl, rfl, rfl, trivial⟩) hgl
  · have e : min (max n 1) 5 = 4 := by omega
    exact ws_one (ws4 n) (by rw [hm, e]; exact ⟨rfl, rfl, rfl, rfl, rfl, rfl, rfl, rfl, rfl, rfl, rfl, rfl, trivial⟩) hgl
  · have e : min (max n 1) 5 = 5 := by omega
    exact ws_one (ws5 n) (by rw [hm, e]; exact ⟨rfl, rfl, rfl, rfl, rfl, rfl, rfl, rfl, rfl, rfl, rfl, rfl, rfl, trivial⟩) hgl
theorem lawWS_run {w : World} (hgl : GlW glC w) {args : Array Value} {x : DenL [.int .i64]} (hx : RdAll (fzW w) [.int .i64] x args.toList) (_ : BdL [.int .i64] x) : Calls Tryz.prog 4 args w fun e w' => e = .returned (.bool true) ∧ Same w w' := by
  rw [rd_i1 hx]
  exact ws_all x.1 hgl
end
end Go.Proofs.YtikedhemjoljpaaGreatDoor
