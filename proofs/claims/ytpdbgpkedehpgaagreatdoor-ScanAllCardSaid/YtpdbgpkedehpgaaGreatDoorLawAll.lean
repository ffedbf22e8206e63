/-
  armariumlaw15.ScanAll: the plain law and the contract of the function. No condition.
-/
import Derived.Test.YtpdbgpkedehpgaaGreatDoorLineR
namespace Go.Proofs.YtpdbgpkedehpgaaGreatDoor
open Go Go.Eng Nice
set_option maxRecDepth 1000000
abbrev shlawAll : List (Nat × List (Nat × Sh)) := [(6, [(0, (.one (.dat ReqT))), (1, (.one .sym)), (2, (.one (.dat (.int .i64)))), (6, (.one .sym)), (8, (.one .sym)), (9, (.one .sym))])]
noncomputable def hlawAll_0 (n : Nat) (t0 : List (Ty.Den ReqT)) (t1 : List UInt8) (t2 : List (Ty.Den (.int .i64))) (t6 : Bool) (t8 : List UInt8) (t9 : Int) : Option (DenL [.bool]) := rH Tryz.prog (envS [(21, trueS), (24, cutS), (22, lineRS), (23, sameTS)]) (shOf shlawAll) Tryz.f3 [.bool] n 0 [(0, dt 9), (1, sy (.string (bs t1))), (2, dt 10), (6, .bool t6), (8, sy (.string (bs t8))), (9, sy (.int .i64 t9))] [.dat ReqT t0, .dat (.int .i64) t2]
noncomputable def olawAll (x : DenL [.slice ReqT, .str, .slice (.int .i64)]) : Option (DenL [.bool]) := fO Tryz.prog (envS [(21, trueS), (24, cutS), (22, lineRS), (23, sameTS)]) (shOf shlawAll) Tryz.f3 [.slice ReqT, .str, .slice (.int .i64)] [.bool] x
theorem elawAll_g (N : Nat) (rs : List (Ty.Den ReqT)) (s : List UInt8) (cs : List Int) : fON Tryz.prog (envS [(21, trueS), (24, cutS), (22, lineRS), (23, sameTS)]) (shOf shlawAll) Tryz.f3 [.slice ReqT, .str, .slice (.int .i64)] [.bool] N (rs, s, cs, ()) =
  (hlawAll_0 N (rs) (s) (cs) (false) ([]) ((0 : Int))) := by kernel_rfl
theorem olawAll_g (x : DenL [.slice ReqT, .str, .slice (.int .i64)]) : olawAll x = fON Tryz.prog (envS [(21, trueS), (24, cutS), (22, lineRS), (23, sameTS)]) (shOf shlawAll) Tryz.f3 [.slice ReqT, .str, .slice (.int .i64)] [.bool] heads0 x := rfl
theorem elawAll (rs : List (Ty.Den ReqT)) (s : List UInt8) (cs : List Int) : olawAll (rs, s, cs, ()) =
  (hlawAll_0 heads0 (rs) (s) (cs) (false) ([]) ((0 : Int))) := elawAll_g heads0 rs s cs
theorem elawAll_0 (n : Nat) (t0 : List (Ty.Den ReqT)) (t1 : List UInt8) (t2 : List (Ty.Den (.int .i64))) (t6 : Bool) (t8 : List UInt8) (t9 : Int) : hlawAll_0 (n + 1) t0 t1 t2 t6 t8 t9 =
  (bif decide (t9 < (↑t0.length : Int)) then
 (bif decide (t9 < (4 : Int)) then
 (gd [decide (inK IntKind.i64 (t9 + (1 : Int))), decide (t8.length + (lineRN ((t0.getD t9.toNat (ReqT).dflt).fst, (t0.getD t9.toNat (ReqT).dflt).snd.fst, (t0.getD t9.toNat (ReqT).dflt).snd.snd.fst, (t0.getD t9.toNat (ReqT).dflt).snd.snd.snd.fst, (t0.getD t9.toNat (ReqT).dflt).snd.snd.snd.snd.fst, ())).length ≤ 1099511627776), lineRP ((t0.getD t9.toNat (ReqT).dflt).fst, (t0.getD t9.toNat (ReqT).dflt).snd.fst, (t0.getD t9.toNat (ReqT).dflt).snd.snd.fst, (t0.getD t9.toNat (ReqT).dflt).snd.snd.snd.fst, (t0.getD t9.toNat (ReqT).dflt).snd.snd.snd.snd.fst, ()), decide (t9.toNat < t0.length), decide ((0 : Int) ≤ t9), decide (t9 < (↑t0.length : Int))] (hlawAll_0 n (t0) (t1) (t2) (t6) (t8 ++ lineRN ((t0.getD t9.toNat (ReqT).dflt).fst, (t0.getD t9.toNat (ReqT).dflt).snd.fst, (t0.getD t9.toNat (ReqT).dflt).snd.snd.fst, (t0.getD t9.toNat (ReqT).dflt).snd.snd.snd.fst, (t0.getD t9.toNat (ReqT).dflt).snd.snd.snd.snd.fst, ())) (t9 + (1 : Int))))
 else
 (gd [smP (t8 ++ cut t1 ((60 : Int))) t2, decide (t8.length + (cut t1 ((60 : Int))).length ≤ 1099511627776)] (some (true, ()))))
  else
 (gd [smP (t8 ++ cut t1 ((60 : Int))) t2, decide (t8.length + (cut t1 ((60 : Int))).length ≤ 1099511627776)] (some (true, ())))) := by kernel_rfl

theorem lawAll_l (rs : List ReqD) (s : List UInt8) (cs : List Int) (hc : cs.length ≤ 140737488355328) (t6 : Bool) : ∀ (r i n : Nat) (acc : List UInt8), i + r = 4 → r < n → acc.length ≤ 100000 - 3000 * r → hlawAll_0 n rs s cs t6 acc (i : Int) = some (true, ()) := by
  have c1 : (cut s 60).length ≤ 60 := cut_len s 60
  intro r
  induction r with
  | zero =>
    intro i n acc hi hn ha
    obtain ⟨n, rfl⟩ : ∃ k, n = k + 1 := ⟨n - 1, by omega⟩
    rw [elawAll_0]
    by_cases h : (i : Int) < (rs.length : Int)
    · rw [cdT h, cdF (by omega), gdB (smP_ok (by simp only [List.length_append]; omega) hc), gdT (by omega), gN]
    · rw [cdF h, gdB (smP_ok (by simp only [List.length_append]; omega) hc), gdT (by omega), gN]
  | succ r ih =>
    intro i n acc hi hn ha
    obtain ⟨n, rfl⟩ : ∃ k, n = k + 1 := ⟨n - 1, by omega⟩
    rw [elawAll_0]
    by_cases h : (i : Int) < (rs.length : Int)
    · rw [cdT h, cdT (by omega)]
      rw [show (i : Int).toNat = i from rfl]
      obtain ⟨l1, l2⟩ := lineR_ok (rs.getD i (ReqT).dflt)
      have ih' := ih (i + 1) n (acc ++ lineRN (rs.getD i (ReqT).dflt)) (by omega) (by omega) (by simp only [List.length_append]; omega)
      simp only [Int.natCast_add, Int.natCast_one] at ih'
      rw [gdT (inK_i64.2 ⟨by omega, by omega⟩), gdT (show acc.length + (lineRN (rs.getD i (ReqT).dflt)).length ≤ 1099511627776 by omega), gdB l1, gdT (by omega), gdT (by omega), gdT (by omega), gN]
      exact ih'
    · rw [cdF h, gdB (smP_ok (by simp only [List.length_append]; omega) hc), gdT (by omega), gN]
theorem lawAll_n (x : DenL [.slice ReqT, .str, .slice (.int .i64)]) (hb : BdL [.slice ReqT, .str, .slice (.int .i64)] x) : olawAll x = some (true, ()) := by
  obtain ⟨rs, s, cs, ⟨⟩⟩ := x
  have hc : cs.length ≤ reach := hb.2.2.1.1
  have := reach_le
  rw [olawAll_g, elawAll_g]
  exact lawAll_l rs s cs (by omega) false 4 0 heads0 [] rfl (by unfold heads0; omega) (by simp)
theorem lawAll_c : PC 3 (ofO [.slice ReqT, .str, .slice (.int .i64)] [.bool] olawAll) := (pureO (envS_ok (l := [(21, trueS), (24, cutS), (22, lineRS), (23, sameTS)]) ⟨begun_c, cut_c, line22_c, same_c, trivial⟩) gl_ne Tryz.func3 (by kernel_rfl) (by decide))
theorem lawAll_run {w : World} (hgl : GlW glC w) {args : Array Value} {x : DenL [.slice ReqT, .str, .slice (.int .i64)]} (hx : RdAll (fzW w) [.slice ReqT, .str, .slice (.int .i64)] x args.toList) (hb : BdL [.slice ReqT, .str, .slice (.int .i64)] x) : Calls Tryz.prog 3 args w fun e w' => e = .returned (.bool true) ∧ Same w w' :=
  law_calls lawAll_c (fun x hb => by
    have := lawAll_n x hb
    exact ⟨by show (olawAll x).isSome = true; rw [this]; rfl, by show (olawAll x).getD _ = _; rw [this]; rfl⟩) hgl hx hb
end Go.Proofs.YtpdbgpkedehpgaaGreatDoor
