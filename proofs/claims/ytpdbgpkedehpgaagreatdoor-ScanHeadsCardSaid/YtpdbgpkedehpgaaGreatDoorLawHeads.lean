/-
  armariumlaw15.ScanHeads: the plain law and the contract of the function. No condition.
-/
import Derived.Test.YtpdbgpkedehpgaaGreatDoorLawB
namespace Go.Proofs.YtpdbgpkedehpgaaGreatDoor
open Go Go.Eng Nice
set_option maxRecDepth 1000000
abbrev shlawHeads : List (Nat × List (Nat × Sh)) := []
noncomputable def olawHeads (x : DenL [.str, .str, .int .i64, .int .i64]) : Option (DenL [.bool]) := fO Tryz.prog (envS [(21, trueS), (24, cutS), (23, sameTS)]) (shOf shlawHeads) Tryz.f15 [.str, .str, .int .i64, .int .i64] [.bool] x
theorem elawHeads_g (N : Nat) (s t : List UInt8) (a b : Int) : fON Tryz.prog (envS [(21, trueS), (24, cutS), (23, sameTS)]) (shOf shlawHeads) Tryz.f15 [.str, .str, .int .i64, .int .i64] [.bool] N (s, t, a, b, ()) =
  (gd [smP ([71, 69, 84, 32, 47, 32, 72, 84, 84, 80, 47, 49, 46, 49, 13, 10] ++ cut s ((20 : Int)) ++ cut t ((30 : Int)) ++ [13, 10, 13, 10]) [], decide (([71, 69, 84, 32, 47, 32, 72, 84, 84, 80, 47, 49, 46, 49, 13, 10] ++ cut s ((20 : Int)) ++ cut t ((30 : Int))).length + 4 ≤ 1099511627776), decide (([71, 69, 84, 32, 47, 32, 72, 84, 84, 80, 47, 49, 46, 49, 13, 10] ++ cut s ((20 : Int))).length + (cut t ((30 : Int))).length ≤ 1099511627776), decide (16 + (cut s ((20 : Int))).length ≤ 1099511627776), smP ([71, 69, 84, 32, 47, 32, 72, 84, 84, 80, 47, 49, 46, 49, 13, 10] ++ cut s ((20 : Int)) ++ [58] ++ List.take ((a.tmod ((5 : Int)) + (5 : Int)).tmod ((5 : Int))).toNat ([32, 9, 32, 9] : List UInt8) ++ cut t ((30 : Int)) ++ List.take ((b.tmod ((5 : Int)) + (5 : Int)).tmod ((5 : Int))).toNat ([32, 9, 32, 9] : List UInt8) ++ [13, 10, 13, 10]) [], decide (([71, 69, 84, 32, 47, 32, 72, 84, 84, 80, 47, 49, 46, 49, 13, 10] ++ cut s ((20 : Int)) ++ [58] ++ List.take ((a.tmod ((5 : Int)) + (5 : Int)).tmod ((5 : Int))).toNat ([32, 9, 32, 9] : List UInt8) ++ cut t ((30 : Int)) ++ List.take ((b.tmod ((5 : Int)) + (5 : Int)).tmod ((5 : Int))).toNat ([32, 9, 32, 9] : List UInt8)).length + 4 ≤ 1099511627776), decide (([71, 69, 84, 32, 47, 32, 72, 84, 84, 80, 47, 49, 46, 49, 13, 10] ++ cut s ((20 : Int)) ++ [58] ++ List.take ((a.tmod ((5 : Int)) + (5 : Int)).tmod ((5 : Int))).toNat ([32, 9, 32, 9] : List UInt8) ++ cut t ((30 : Int))).length + (List.take ((b.tmod ((5 : Int)) + (5 : Int)).tmod ((5 : Int))).toNat ([32, 9, 32, 9] : List UInt8)).length ≤ 1099511627776), decide ((0 : Int) ≤ (b.tmod ((5 : Int)) + (5 : Int)).tmod ((5 : Int))), decide ((b.tmod ((5 : Int)) + (5 : Int)).tmod ((5 : Int)) ≤ (4 : Int)), decide (inK IntKind.i64 (b.tmod ((5 : Int)) + (5 : Int))), decide (([71, 69, 84, 32, 47, 32, 72, 84, 84, 80, 47, 49, 46, 49, 13, 10] ++ cut s ((20 : Int)) ++ [58] ++ List.take ((a.tmod ((5 : Int)) + (5 : Int)).tmod ((5 : Int))).toNat ([32, 9, 32, 9] : List UInt8)).length + (cut t ((30 : Int))).length ≤ 1099511627776), decide (([71, 69, 84, 32, 47, 32, 72, 84, 84, 80, 47, 49, 46, 49, 13, 10] ++ cut s ((20 : Int)) ++ [58]).length + (List.take ((a.tmod ((5 : Int)) + (5 : Int)).tmod ((5 : Int))).toNat ([32, 9, 32, 9] : List UInt8)).length ≤ 1099511627776), decide ((0 : Int) ≤ (a.tmod ((5 : Int)) + (5 : Int)).tmod ((5 : Int))), decide ((a.tmod ((5 : Int)) + (5 : Int)).tmod ((5 : Int)) ≤ (4 : Int)), decide (inK IntKind.i64 (a.tmod ((5 : Int)) + (5 : Int))), decide (([71, 69, 84, 32, 47, 32, 72, 84, 84, 80, 47, 49, 46, 49, 13, 10] ++ cut s ((20 : Int))).length + 1 ≤ 1099511627776), decide (16 + (cut s ((20 : Int))).length ≤ 1099511627776)] (some (true, ()))) := by kernel_rfl
theorem olawHeads_g (x : DenL [.str, .str, .int .i64, .int .i64]) : olawHeads x = fON Tryz.prog (envS [(21, trueS), (24, cutS), (23, sameTS)]) (shOf shlawHeads) Tryz.f15 [.str, .str, .int .i64, .int .i64] [.bool] heads0 x := rfl

theorem lawHeads_m (s t : List UInt8) (a b : Int) : olawHeads (s, t, a, b, ()) = some (true, ()) := by
  have hc0 : ([] : List Int).length ≤ 140737488355328 := by decide
  have c1 : (cut s 20).length ≤ 20 := cut_len s 20
  have c2 : (cut t 30).length ≤ 30 := cut_len t 30
  obtain ⟨j, ej, j4, a1, a2⟩ := five a
  obtain ⟨k, ek, k4, b1, b2⟩ := five b
  rw [olawHeads_g, elawHeads_g, ej, ek, show (j : Int).toNat = j from rfl, show (k : Int).toNat = k from rfl]
  have t1 : (List.take j ([32, 9, 32, 9] : List UInt8)).length ≤ 4 := by rw [List.length_take]; exact Nat.min_le_right _ _
  have t2 : (List.take k ([32, 9, 32, 9] : List UInt8)).length ≤ 4 := by rw [List.length_take]; exact Nat.min_le_right _ _
  generalize List.take j ([32, 9, 32, 9] : List UInt8) = T1 at t1 ⊢
  generalize List.take k ([32, 9, 32, 9] : List UInt8) = T2 at t2 ⊢
  rw [gdB (smP_ok (by simp only [List.length_append, List.length_cons, List.length_nil]; omega) hc0)]
  rw [gdT (by simp only [List.length_append, List.length_cons, List.length_nil]; omega), gdT (by simp only [List.length_append, List.length_cons, List.length_nil]; omega), gdT (by omega)]
  rw [gdB (smP_ok (by simp only [List.length_append, List.length_cons, List.length_nil]; omega) hc0)]
  rw [gdT (by simp only [List.length_append, List.length_cons, List.length_nil]; omega), gdT (by simp only [List.length_append, List.length_cons, List.length_nil]; omega), gdT (by omega), gdT (by omega), gdT (inK_i64.2 ⟨by omega, by omega⟩)]
  rw [gdT (by simp only [List.length_append, List.length_cons, List.length_nil]; omega), gdT (by simp only [List.length_append, List.length_cons, List.length_nil]; omega), gdT (by omega), gdT (by omega), gdT (inK_i64.2 ⟨by omega, by omega⟩)]
  rw [gdT (by simp only [List.length_append, List.length_cons, List.length_nil]; omega), gdT (by omega), gN]
theorem lawHeads_n (x : DenL [.str, .str, .int .i64, .int .i64]) (hb : BdL [.str, .str, .int .i64, .int .i64] x) : olawHeads x = some (true, ()) := by
  obtain ⟨s, t, a, b, ⟨⟩⟩ := x
  exact lawHeads_m s t a b
theorem lawHeads_c : PC 15 (ofO [.str, .str, .int .i64, .int .i64] [.bool] olawHeads) := (pureO (envS_ok (l := [(21, trueS), (24, cutS), (23, sameTS)]) ⟨begun_c, cut_c, same_c, trivial⟩) gl_ne Tryz.func15 (by kernel_rfl) (by decide))
theorem lawHeads_run {w : World} (hgl : GlW glC w) {args : Array Value} {x : DenL [.str, .str, .int .i64, .int .i64]} (hx : RdAll (fzW w) [.str, .str, .int .i64, .int .i64] x args.toList) (hb : BdL [.str, .str, .int .i64, .int .i64] x) : Calls Tryz.prog 15 args w fun e w' => e = .returned (.bool true) ∧ Same w w' :=
  law_calls lawHeads_c (fun x hb => by
    have := lawHeads_n x hb
    exact ⟨by show (olawHeads x).isSome = true; rw [this]; rfl, by show (olawHeads x).getD _ = _; rw [this]; rfl⟩) hgl hx hb
end Go.Proofs.YtpdbgpkedehpgaaGreatDoor
