/-
  armariumlaw15.ScanAny: the plain law and the contract of the function. No condition.
-/
import Derived.Test.YtpdbgpkedehpgaaGreatDoorM3
import Derived.Test.YtpdbgpkedehpgaaGreatDoorEng11
import Derived.Test.YtpdbgpkedehpgaaGreatDoorBegC
namespace Go.Proofs.YtpdbgpkedehpgaaGreatDoor
open Go Go.Eng Nice
set_option maxRecDepth 1000000
abbrev shlawAny : List (Nat × List (Nat × Sh)) := []
noncomputable def olawAny (x : DenL [.str, .slice (.int .i64)]) : Option (DenL [.bool]) := fO Tryz.prog (envS [(21, trueS), (24, cutS), (23, sameTS)]) (shOf shlawAny) Tryz.f4 [.str, .slice (.int .i64)] [.bool] x
theorem elawAny_g (N : Nat) (s : List UInt8) (cs : List Int) : fON Tryz.prog (envS [(21, trueS), (24, cutS), (23, sameTS)]) (shOf shlawAny) Tryz.f4 [.str, .slice (.int .i64)] [.bool] N (s, cs, ()) =
  (gd [smP (cut s ((200 : Int))) cs] (some (true, PUnit.unit))) := by kernel_rfl
theorem olawAny_g (x : DenL [.str, .slice (.int .i64)]) : olawAny x = fON Tryz.prog (envS [(21, trueS), (24, cutS), (23, sameTS)]) (shOf shlawAny) Tryz.f4 [.str, .slice (.int .i64)] [.bool] heads0 x := rfl
theorem elawAny (s : List UInt8) (cs : List Int) : olawAny (s, cs, ()) =
  (gd [smP (cut s ((200 : Int))) cs] (some (true, PUnit.unit))) := elawAny_g heads0 s cs

theorem cut_len (s : List UInt8) (n : Int) : (cut s n).length ≤ n.toNat := by
  unfold cut; rw [List.length_take]; omega
theorem smP_ok {s : List UInt8} {cs : List Int} (h1 : s.length ≤ 1000000) (h2 : cs.length ≤ 140737488355328) : smP s cs = true := by
  unfold smP
  rw [decide_eq_true h1, decide_eq_true h2]; rfl
theorem lawAny_n (x : DenL [.str, .slice (.int .i64)]) (hb : BdL [.str, .slice (.int .i64)] x) : olawAny x = some (true, ()) := by
  obtain ⟨s, cs, ⟨⟩⟩ := x
  have hc : cs.length ≤ reach := hb.2.1.1
  have l1 := cut_len s 200
  have hr : reach ≤ 140737488355328 := by decide
  rw [olawAny_g, elawAny_g, gdB (smP_ok (by omega) (by omega)), gN]
theorem begun_c : PC 21 trueS := pure_true begun15_run
theorem lawAny_c : PC 4 (ofO [.str, .slice (.int .i64)] [.bool] olawAny) := (pureO (envS_ok (l := [(21, trueS), (24, cutS), (23, sameTS)]) ⟨begun_c, cut_c, same_c, trivial⟩) gl_ne Tryz.func4 (by kernel_rfl) (by decide))
theorem lawAny_run {w : World} (hgl : GlW glC w) {args : Array Value} {x : DenL [.str, .slice (.int .i64)]} (hx : RdAll (fzW w) [.str, .slice (.int .i64)] x args.toList) (hb : BdL [.str, .slice (.int .i64)] x) : Calls Tryz.prog 4 args w fun e w' => e = .returned (.bool true) ∧ Same w w' :=
  law_calls lawAny_c (fun x hb => by
    have := lawAny_n x hb
    exact ⟨by show (olawAny x).isSome = true; rw [this]; rfl, by show (olawAny x).getD _ = _; rw [this]; rfl⟩) hgl hx hb
end Go.Proofs.YtpdbgpkedehpgaaGreatDoor
