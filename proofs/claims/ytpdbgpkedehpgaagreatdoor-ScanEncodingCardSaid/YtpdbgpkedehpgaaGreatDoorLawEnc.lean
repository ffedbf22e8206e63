/-
  armariumlaw15.ScanEncoding: the plain law and the contract of the function. No condition.
-/
import Derived.Test.YtpdbgpkedehpgaaGreatDoorLawB
namespace Go.Proofs.YtpdbgpkedehpgaaGreatDoor
open Go Go.Eng Nice
set_option maxRecDepth 1000000
def putB : List UInt8 := [80, 85, 84, 32, 47, 111, 47, 107, 32, 72, 84, 84, 80, 47, 49, 46, 49, 13, 10]
def teU : List UInt8 := [84, 82, 65, 78, 83, 70, 69, 82, 45, 69, 110, 99, 111, 100, 105, 110, 103]
def teL : List UInt8 := [116, 114, 97, 110, 115, 102, 101, 114, 45, 101, 110, 99, 111, 100, 105, 110, 103]
def chB : List UInt8 := [58, 32, 99, 104, 117, 110, 107, 101, 100, 13, 10, 13, 10]
abbrev shlawEnc : List (Nat × List (Nat × Sh)) := []
noncomputable def olawEnc (x : DenL [.str, .bool]) : Option (DenL [.bool]) := fO Tryz.prog (envO [(21, trueS), (24, cutS), (23, sameTS)] [(26, feedsS)]) (shOf shlawEnc) Tryz.f17 [.str, .bool] [.bool] x
theorem elawEnc_g (N : Nat) (s : List UInt8) (b : Bool) : fON Tryz.prog (envO [(21, trueS), (24, cutS), (23, sameTS)] [(26, feedsS)]) (shOf shlawEnc) Tryz.f17 [.str, .bool] [.bool] N (s, b, ()) =
  (bif b then
 (gd [feedsP () (putB ++ teU ++ chB, [], ()), decide ((putB ++ teU ++ [58, 32] ++ cut s ((10 : Int))).length + 4 ≤ 1099511627776), decide (38 + (cut s ((10 : Int))).length ≤ 1099511627776)] (bif Int.ofNat (List.length (feedsN () (putB ++ teU ++ chB, [], ())).snd.fst) == (0 : Int) then
 (bif (feedsN () (putB ++ teU ++ chB, [], ())).snd.snd.fst.snd.fst == (400 : Int) then
 (gd [smP (putB ++ teU ++ [58, 32] ++ cut s ((10 : Int)) ++ [13, 10, 13, 10]) []] (some (true, ())))
 else
 (some (false, ())))
 else
 (some (false, ()))))
  else
 (gd [feedsP () (putB ++ teL ++ chB, [], ()), decide ((putB ++ teL ++ [58, 32] ++ cut s ((10 : Int))).length + 4 ≤ 1099511627776), decide (38 + (cut s ((10 : Int))).length ≤ 1099511627776)] (bif Int.ofNat (List.length (feedsN () (putB ++ teL ++ chB, [], ())).snd.fst) == (0 : Int) then
 (bif (feedsN () (putB ++ teL ++ chB, [], ())).snd.snd.fst.snd.fst == (400 : Int) then
 (gd [smP (putB ++ teL ++ [58, 32] ++ cut s ((10 : Int)) ++ [13, 10, 13, 10]) []] (some (true, ())))
 else
 (some (false, ())))
 else
 (some (false, ()))))) := by kernel_rfl
theorem olawEnc_g (x : DenL [.str, .bool]) : olawEnc x = fON Tryz.prog (envO [(21, trueS), (24, cutS), (23, sameTS)] [(26, feedsS)]) (shOf shlawEnc) Tryz.f17 [.str, .bool] [.bool] heads0 x := rfl

theorem feeds_ok (T : List UInt8) (cs : List Int) (hT : T.length ≤ 1000000) (hc : cs.length ≤ 140737488355328) : feedsP () (T, cs, ()) = true ∧ (feedsN () (T, cs, ())).2.1 = (scanR (T.length + 1) T).1 ∧ (feedsN () (T, cs, ())).2.2.1.2.1 = (scanR (T.length + 1) T).2.1 := by
  obtain ⟨f1, f2⟩ := feeds_hid (feeds_n T cs hc hT)
  obtain ⟨r1, r2, r3⟩ := scan_outs T
  rw [f2]
  exact ⟨f1, r2, r1⟩
theorem enc_U : (scanR ((putB ++ teU ++ chB).length + 1) (putB ++ teU ++ chB)).1.length = 0 ∧ (scanR ((putB ++ teU ++ chB).length + 1) (putB ++ teU ++ chB)).2.1 = 400 := ⟨by kernel_rfl, by kernel_rfl⟩
theorem enc_L : (scanR ((putB ++ teL ++ chB).length + 1) (putB ++ teL ++ chB)).1.length = 0 ∧ (scanR ((putB ++ teL ++ chB).length + 1) (putB ++ teL ++ chB)).2.1 = 400 := ⟨by kernel_rfl, by kernel_rfl⟩
theorem lawEnc_m (s : List UInt8) (b : Bool) : olawEnc (s, b, ()) = some (true, ()) := by
  have hc0 : ([] : List Int).length ≤ 140737488355328 := by decide
  have c1 : (cut s 10).length ≤ 10 := cut_len s 10
  have lp : putB.length = 19 := rfl
  have lu : teU.length = 17 := rfl
  have ll : teL.length = 17 := rfl
  have lc : chB.length = 13 := rfl
  rw [olawEnc_g, elawEnc_g]
  cases b
  · obtain ⟨f1, f2, f3⟩ := feeds_ok (putB ++ teL ++ chB) [] (by simp only [List.length_append]; omega) hc0
    obtain ⟨e1, e2⟩ := enc_L
    rw [cF, gdB f1, gdT (by simp only [List.length_append, List.length_cons, List.length_nil]; omega), gdT (by omega), gN, f2, e1, f3, e2]
    rw [ceT (show Int.ofNat 0 = 0 from rfl), ceT (show (400 : Int) = 400 from rfl), gdB (smP_ok (by simp only [List.length_append, List.length_cons, List.length_nil]; omega) hc0), gN]
  · obtain ⟨f1, f2, f3⟩ := feeds_ok (putB ++ teU ++ chB) [] (by simp only [List.length_append]; omega) hc0
    obtain ⟨e1, e2⟩ := enc_U
    rw [cT, gdB f1, gdT (by simp only [List.length_append, List.length_cons, List.length_nil]; omega), gdT (by omega), gN, f2, e1, f3, e2]
    rw [ceT (show Int.ofNat 0 = 0 from rfl), ceT (show (400 : Int) = 400 from rfl), gdB (smP_ok (by simp only [List.length_append, List.length_cons, List.length_nil]; omega) hc0), gN]
theorem lawEnc_n (x : DenL [.str, .bool]) (hb : BdL [.str, .bool] x) : olawEnc x = some (true, ()) := by
  obtain ⟨s, b, ⟨⟩⟩ := x
  exact lawEnc_m s b
theorem lawEnc_c : PC 17 (ofO [.str, .bool] [.bool] olawEnc) := (pureO (envO_ok (l := [(21, trueS), (24, cutS), (23, sameTS)]) (o := [(26, feedsS)]) ⟨begun_c, cut_c, same_c, trivial⟩ ⟨feeds_c, trivial⟩) gl_ne Tryz.func17 (by kernel_rfl) (by decide))
theorem lawEnc_run {w : World} (hgl : GlW glC w) {args : Array Value} {x : DenL [.str, .bool]} (hx : RdAll (fzW w) [.str, .bool] x args.toList) (hb : BdL [.str, .bool] x) : Calls Tryz.prog 17 args w fun e w' => e = .returned (.bool true) ∧ Same w w' :=
  law_calls lawEnc_c (fun x hb => by
    have := lawEnc_n x hb
    exact ⟨by show (olawEnc x).isSome = true; rw [this]; rfl, by show (olawEnc x).getD _ = _; rw [this]; rfl⟩) hgl hx hb
end Go.Proofs.YtpdbgpkedehpgaaGreatDoor
