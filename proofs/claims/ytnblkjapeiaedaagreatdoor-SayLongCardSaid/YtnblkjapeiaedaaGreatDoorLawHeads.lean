/-
  SayHeads: the plain law and the contract. No condition.
-/
import Derived.Test.YtnblkjapeiaedaaGreatDoorP2
import Derived.Test.YtnblkjapeiaedaaGreatDoorEng11
import Derived.Test.YtnblkjapeiaedaaGreatDoorBegD
namespace Nice
open Go Go.Eng
def hA (n v : List UInt8) : AnsD := (200, [(cut n 32, cut v 102, ())], cut [] 400, ())
def hB : AnsD := (200, [([99, 111, 110, 116, 101, 110, 116, 45, 76, 69, 78, 71, 84, 72], [51], ())], [], ())
def hC (k : Int) (v : List UInt8) : AnsD := (k, [], cut v 400, ())
def hhX (a b c : AnsD) : Option (DenL [.bool]) :=
  bif aputN a false == aputN a false then
    (bif amayB b then gd [aputP b, aputP a, aputP a, aputP a, aputP a] (some (false, ()))
    else (bif aputN b true == [] then
        (bif amayB c then (bif amayB c then gd [aputP c, aputP c, aputP b, aputP b, aputP a, aputP a, aputP a, aputP a] (some (true, ())) else gd [aputP c, aputP c, aputP b, aputP b, aputP a, aputP a, aputP a, aputP a] (some (false, ())))
        else (bif amayB c then gd [aputP c, aputP c, aputP b, aputP b, aputP a, aputP a, aputP a, aputP a] (some (false, ())) else gd [aputP c, aputP c, aputP b, aputP b, aputP a, aputP a, aputP a, aputP a] (some (true, ()))))
      else gd [aputP b, aputP b, aputP a, aputP a, aputP a, aputP a] (some (false, ()))))
  else gd [aputP a, aputP a, aputP a, aputP a] (some (false, ()))
def hhE (a b c : AnsD) : Option (DenL [.bool]) :=
  bif amayB a then (bif amayB a then hhX a b c else gd [aputP a, aputP a] (some (false, ())))
  else (bif amayB a then gd [aputP a, aputP a] (some (false, ())) else hhX a b c)
theorem hB_may : amayB hB = false := by kernel_rfl
theorem hB_put : aputN hB true = [] := by kernel_rfl
theorem hB_p : aputP hB = true := by kernel_rfl
theorem cut_le (s : List UInt8) (k : Nat) : (cut s (k : Int)).length ≤ k := by
  unfold cut; rw [List.length_take]; exact Nat.min_le_left _ _
theorem headP_cut {n v : List UInt8} (a : n.length ≤ 1000) (b : v.length ≤ 1000) : headP (n, v, ()) = true := by
  unfold headP bndS
  rw [Bool.and_eq_true, decide_eq_true_eq, decide_eq_true_eq]
  exact ⟨Nat.le_trans a (by decide), Nat.le_trans b (by decide)⟩
theorem hA_p (n v : List UInt8) : aputP (hA n v) = true := by
  show headsP [(cut n 32, cut v 102, ())] = true
  have h : headP (cut n 32, cut v 102, ()) = true := headP_cut (Nat.le_trans (cut_le n 32) (by decide)) (Nat.le_trans (cut_le v 102) (by decide))
  unfold headsP
  rw [List.all_cons, List.all_nil, h]; rfl
theorem hC_p (k : Int) (v : List UInt8) : aputP (hC k v) = true := rfl
theorem hhE_n (a c : AnsD) (h1 : aputP a = true) (h2 : aputP c = true) : hhE a hB c = some (true, ()) := by
  have key : hhX a hB c = some (true, ()) := by
    unfold hhX
    rw [beq_self_eq_true, xT, hB_may, xF, hB_put, show (([] : List UInt8) == []) = true from rfl, xT, gdB h2, gdB h2, gdB hB_p, gdB hB_p, gdB h1, gdB h1, gdB h1, gdB h1, xG, gdB h2, gdB h2, gdB hB_p, gdB hB_p, gdB h1, gdB h1, gdB h1, gdB h1, xG]
    cases amayB c <;> rfl
  unfold hhE
  rw [key]
  cases amayB a <;> rfl
end Nice
namespace Go.Proofs.YtnblkjapeiaedaaGreatDoor
open Go Go.Eng Nice
set_option maxRecDepth 1000000
abbrev shcut : List (Nat × List (Nat × Sh)) := []
noncomputable def ocut (x : DenL [.str, .int .i64]) : Option (DenL [.str]) := fO Tryz.prog (envS []) (shOf shcut) Tryz.f15 [.str, .int .i64] [.str] x
theorem ecut_g (N : Nat) (s : List UInt8) (n : Int) : fON Tryz.prog (envS []) (shOf shcut) Tryz.f15 [.str, .int .i64] [.str] N (s, n, ()) =
  (gd [decide ((0 : Int) ≤ min (s.length : Int) n), decide (min (s.length : Int) n ≤ (s.length : Int))] (some (List.take (min (s.length : Int) n).toNat s, ()))) := by kernel_rfl
theorem ocut_g (x : DenL [.str, .int .i64]) : ocut x = fON Tryz.prog (envS []) (shOf shcut) Tryz.f15 [.str, .int .i64] [.str] heads0 x := rfl
theorem cut_n (s : List UInt8) (n : Int) (h : 0 ≤ n) : ocut (s, n, ()) = some (cut s n, ()) := by
  rw [ocut_g, ecut_g]
  rw [gdT (by omega), gdT (Int.min_le_left _ _), gd_nil]
  have : List.take (min (s.length : Int) n).toNat s = cut s n := by
    unfold cut
    by_cases hn : n ≤ s.length
    · rw [Int.min_eq_right hn]
    · rw [Int.min_eq_left (by omega), List.take_of_length_le (by simp), List.take_of_length_le (by omega)]
  rw [this]
theorem cut_c : PC 15 cutS := (pureO (sh := shOf shcut) (envS_ok (l := []) trivial) gl_ne Tryz.func15 (by kernel_rfl) (by decide)).nice fun ⟨s, n, ()⟩ h => cut_n s n (of_decide_eq_true h)
theorem begun_c : PC 13 trueS := pure_true begun17_run
noncomputable def olawHeads (x : DenL [.str, .str, .int .i64]) : Option (DenL [.bool]) := fO Tryz.prog (envS [(13, trueS), (15, cutS), (16, aputS), (17, amayAS), (18, amayAS), (19, aputS)]) (shOf []) Tryz.f10 [.str, .str, .int .i64] [.bool] x
theorem elawHeads_g (N : Nat) (n v : List UInt8) (k : Int) : fON Tryz.prog (envS [(13, trueS), (15, cutS), (16, aputS), (17, amayAS), (18, amayAS), (19, aputS)]) (shOf []) Tryz.f10 [.str, .str, .int .i64] [.bool] N (n, v, k, ()) = hhE (hA n v) hB (hC k v) := by kernel_rfl
theorem olawHeads_g (x : DenL [.str, .str, .int .i64]) : olawHeads x = fON Tryz.prog (envS [(13, trueS), (15, cutS), (16, aputS), (17, amayAS), (18, amayAS), (19, aputS)]) (shOf []) Tryz.f10 [.str, .str, .int .i64] [.bool] heads0 x := rfl
theorem lawHeads_n (x : DenL [.str, .str, .int .i64]) : olawHeads x = some (true, ()) := by
  obtain ⟨n, v, k, ⟨⟩⟩ := x
  rw [olawHeads_g, elawHeads_g]
  exact hhE_n _ _ (hA_p n v) (hC_p k v)
theorem lawHeads_c : PC 10 (ofO [.str, .str, .int .i64] [.bool] olawHeads) := (pureO (envS_ok (l := [(13, trueS), (15, cutS), (16, aputS), (17, amayAS), (18, amayAS), (19, aputS)]) ⟨begun_c, cut_c, aput_c, amay_c, rmay_c, rput_c, trivial⟩) gl_ne Tryz.func10 (by kernel_rfl) (by decide))
theorem lawHeads_run {w : World} (hgl : GlW glC w) {args : Array Value} {x : DenL [.str, .str, .int .i64]} (hx : RdAll (fzW w) [.str, .str, .int .i64] x args.toList) (hb : BdL [.str, .str, .int .i64] x) : Calls Tryz.prog 10 args w fun e w' => e = .returned (.bool true) ∧ Same w w' :=
  law_calls lawHeads_c (fun x _ => by
    have := lawHeads_n x
    exact ⟨by show (olawHeads x).isSome = true; rw [this]; rfl, by show (olawHeads x).getD _ = _; rw [this]; rfl⟩) hgl hx hb
end Go.Proofs.YtnblkjapeiaedaaGreatDoor
