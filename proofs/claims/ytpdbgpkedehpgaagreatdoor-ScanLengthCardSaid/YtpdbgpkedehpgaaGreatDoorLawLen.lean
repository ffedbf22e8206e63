/-
  armariumlaw15.ScanLength: the plain law and the contract of the function. No condition.
-/
import Derived.Test.YtpdbgpkedehpgaaGreatDoorLawB
import Derived.Test.YtpdbgpkedehpgaaGreatDoorCDig
namespace Go.Proofs.YtpdbgpkedehpgaaGreatDoor
open Go Go.Eng Nice
set_option maxRecDepth 1000000
def hdL : List UInt8 := [80, 85, 84, 32, 47, 111, 47, 107, 32, 72, 84, 84, 80, 47, 49, 46, 49, 13, 10, 67, 111, 110, 116, 101, 110, 116, 45, 76, 101, 110, 103, 116, 104, 58, 32]
def clL : List UInt8 := [99, 111, 110, 116, 101, 110, 116, 45, 108, 101, 110, 103, 116, 104, 58, 32, 48, 13, 10]
def txL (tw : Bool) (n : Int) : List UInt8 := bif tw then hdL ++ digits n ++ [13, 10] ++ clL ++ ([13, 10] ++ List.replicate n.toNat 0) else hdL ++ digits n ++ [13, 10] ++ ([13, 10] ++ List.replicate n.toNat 0)
abbrev shlawLen : List (Nat × List (Nat × Sh)) := []
noncomputable def olawLen (x : DenL [.str, .str, .int .i64, .bool]) : Option (DenL [.bool]) := fO Tryz.prog (envO [(21, trueS), (24, cutS), (25, digitsS), (28, scanLenS), (23, sameTS)] [(26, feedsS)]) (shOf shlawLen) Tryz.f6 [.str, .str, .int .i64, .bool] [.bool] x
theorem elawLen_g (N : Nat) (s t : List UInt8) (n : Int) (b : Bool) : fON Tryz.prog (envO [(21, trueS), (24, cutS), (25, digitsS), (28, scanLenS), (23, sameTS)] [(26, feedsS)]) (shOf shlawLen) Tryz.f6 [.str, .str, .int .i64, .bool] [.bool] N (s, t, n, b, ()) =
  (bif decide (n < (0 : Int)) then
 (some (true, ()))
  else
 (bif decide (n > (320 : Int)) then
 (some (true, ()))
 else
 (gd [decide ((hdL ++ cut s ((8 : Int)) ++ [13, 10, 13, 10]).length + (cut t ((8 : Int))).length ≤ 1099511627776), decide ((hdL ++ cut s ((8 : Int))).length + 4 ≤ 1099511627776), decide (35 + (cut s ((8 : Int))).length ≤ 1099511627776), decide ((hdL ++ digits n).length + 2 ≤ 1099511627776), decide (35 + (digits n).length ≤ 1099511627776), decide (Int.negSucc 9223372036854775807 ≤ n) && decide (n ≤ (9223372036854775807 : Int))] (bif b then
 (gd [feedsP () (txL true n, [], ()), decide ((hdL ++ digits n ++ [13, 10] ++ clL).length + ([13, 10] ++ List.replicate n.toNat (0 : UInt8)).length ≤ 1099511627776), decide (2 + (List.replicate n.toNat (0 : UInt8)).length ≤ 1099511627776), decide ((0 : Int) ≤ n), decide (n ≤ (1099511627776 : Int)), decide (n = n), decide ((hdL ++ digits n ++ [13, 10]).length + 19 ≤ 1099511627776)] (bif b then
 (bif (feedsN () (txL true n, [], ())).snd.snd.fst.snd.fst == (400 : Int) then
 (bif (↑(List.length (feedsN () (txL true n, [], ())).snd.fst) : Int) == (1 : Int) then
 (some (false, ()))
 else
 (gd [smP (hdL ++ cut s ((8 : Int)) ++ [13, 10, 13, 10] ++ cut t ((8 : Int))) []] (some (true, ()))))
 else
 (some (false, ())))
 else
 (bif decide (n > (300 : Int)) then
 (bif (feedsN () (txL true n, [], ())).snd.snd.fst.snd.fst == (413 : Int) then
 (bif (↑(List.length (feedsN () (txL true n, [], ())).snd.fst) : Int) == (1 : Int) then
 (some (false, ()))
 else
 (gd [smP (hdL ++ cut s ((8 : Int)) ++ [13, 10, 13, 10] ++ cut t ((8 : Int))) []] (some (true, ()))))
 else
 (some (false, ())))
 else
 (bif (feedsN () (txL true n, [], ())).snd.snd.fst.snd.fst == (0 : Int) then
 (bif (↑(List.length (feedsN () (txL true n, [], ())).snd.fst) : Int) == (1 : Int) then
 (bif (↑(List.length (List.getD (feedsN () (txL true n, [], ())).snd.fst 0 (ReqT).dflt).snd.snd.snd.snd.fst) : Int) == n then
 (bif scanLen (List.getD (feedsN () (txL true n, [], ())).snd.fst 0 (ReqT).dflt).snd.snd.snd.fst == n then
 (gd [smP (hdL ++ cut s ((8 : Int)) ++ [13, 10, 13, 10] ++ cut t ((8 : Int))) [], scanLenP (List.getD (feedsN () (txL true n, [], ())).snd.fst 0 (ReqT).dflt).snd.snd.snd.fst, decide (0 < List.length (feedsN () (txL true n, [], ())).snd.fst), decide ((0 : Int) < (↑(List.length (feedsN () (txL true n, [], ())).snd.fst) : Int)), decide (0 < List.length (feedsN () (txL true n, [], ())).snd.fst), decide ((0 : Int) < (↑(List.length (feedsN () (txL true n, [], ())).snd.fst) : Int))] (some (true, ())))
 else
 (gd [scanLenP (List.getD (feedsN () (txL true n, [], ())).snd.fst 0 (ReqT).dflt).snd.snd.snd.fst, decide (0 < List.length (feedsN () (txL true n, [], ())).snd.fst), decide ((0 : Int) < (↑(List.length (feedsN () (txL true n, [], ())).snd.fst) : Int)), decide (0 < List.length (feedsN () (txL true n, [], ())).snd.fst), decide ((0 : Int) < (↑(List.length (feedsN () (txL true n, [], ())).snd.fst) : Int))] (some (false, ()))))
 else
 (gd [decide (0 < List.length (feedsN () (txL true n, [], ())).snd.fst), decide ((0 : Int) < (↑(List.length (feedsN () (txL true n, [], ())).snd.fst) : Int))] (some (false, ()))))
 else
 (some (false, ())))
 else
 (some (false, ()))))))
 else
 (gd [feedsP () (txL false n, [], ()), decide ((hdL ++ digits n ++ [13, 10]).length + ([13, 10] ++ List.replicate n.toNat (0 : UInt8)).length ≤ 1099511627776), decide (2 + (List.replicate n.toNat (0 : UInt8)).length ≤ 1099511627776), decide ((0 : Int) ≤ n), decide (n ≤ (1099511627776 : Int)), decide (n = n)] (bif b then
 (bif (feedsN () (txL false n, [], ())).snd.snd.fst.snd.fst == (400 : Int) then
 (bif (↑(List.length (feedsN () (txL false n, [], ())).snd.fst) : Int) == (1 : Int) then
 (some (false, ()))
 else
 (gd [smP (hdL ++ cut s ((8 : Int)) ++ [13, 10, 13, 10] ++ cut t ((8 : Int))) []] (some (true, ()))))
 else
 (some (false, ())))
 else
 (bif decide (n > (300 : Int)) then
 (bif (feedsN () (txL false n, [], ())).snd.snd.fst.snd.fst == (413 : Int) then
 (bif (↑(List.length (feedsN () (txL false n, [], ())).snd.fst) : Int) == (1 : Int) then
 (some (false, ()))
 else
 (gd [smP (hdL ++ cut s ((8 : Int)) ++ [13, 10, 13, 10] ++ cut t ((8 : Int))) []] (some (true, ()))))
 else
 (some (false, ())))
 else
 (bif (feedsN () (txL false n, [], ())).snd.snd.fst.snd.fst == (0 : Int) then
 (bif (↑(List.length (feedsN () (txL false n, [], ())).snd.fst) : Int) == (1 : Int) then
 (bif (↑(List.length (List.getD (feedsN () (txL false n, [], ())).snd.fst 0 (ReqT).dflt).snd.snd.snd.snd.fst) : Int) == n then
 (bif scanLen (List.getD (feedsN () (txL false n, [], ())).snd.fst 0 (ReqT).dflt).snd.snd.snd.fst == n then
 (gd [smP (hdL ++ cut s ((8 : Int)) ++ [13, 10, 13, 10] ++ cut t ((8 : Int))) [], scanLenP (List.getD (feedsN () (txL false n, [], ())).snd.fst 0 (ReqT).dflt).snd.snd.snd.fst, decide (0 < List.length (feedsN () (txL false n, [], ())).snd.fst), decide ((0 : Int) < (↑(List.length (feedsN () (txL false n, [], ())).snd.fst) : Int)), decide (0 < List.length (feedsN () (txL false n, [], ())).snd.fst), decide ((0 : Int) < (↑(List.length (feedsN () (txL false n, [], ())).snd.fst) : Int))] (some (true, ())))
 else
 (gd [scanLenP (List.getD (feedsN () (txL false n, [], ())).snd.fst 0 (ReqT).dflt).snd.snd.snd.fst, decide (0 < List.length (feedsN () (txL false n, [], ())).snd.fst), decide ((0 : Int) < (↑(List.length (feedsN () (txL false n, [], ())).snd.fst) : Int)), decide (0 < List.length (feedsN () (txL false n, [], ())).snd.fst), decide ((0 : Int) < (↑(List.length (feedsN () (txL false n, [], ())).snd.fst) : Int))] (some (false, ()))))
 else
 (gd [decide (0 < List.length (feedsN () (txL false n, [], ())).snd.fst), decide ((0 : Int) < (↑(List.length (feedsN () (txL false n, [], ())).snd.fst) : Int))] (some (false, ()))))
 else
 (some (false, ())))
 else
 (some (false, ())))))))))) := by kernel_rfl
theorem olawLen_g (x : DenL [.str, .str, .int .i64, .bool]) : olawLen x = fON Tryz.prog (envO [(21, trueS), (24, cutS), (25, digitsS), (28, scanLenS), (23, sameTS)] [(26, feedsS)]) (shOf shlawLen) Tryz.f6 [.str, .str, .int .i64, .bool] [.bool] heads0 x := rfl

def okLn (tw : Bool) (n : Nat) : Bool :=
  let R := scanR ((txL tw n).length + 1) (txL tw n)
  decide ((digits (n : Int)).length ≤ 3) && (if tw = true then R.2.1 == 400 && !(R.1.length == 1)
  else if 300 < n then R.2.1 == 413 && !(R.1.length == 1)
  else R.2.1 == 0 && (R.1.length == 1 && ((R.1.getD 0 (ReqT).dflt).2.2.2.2.1.length == n && (refLen (R.1.getD 0 (ReqT).dflt).2.2.2.1 == ((n : Int), (0 : Int)) && (decide ((R.1.getD 0 (ReqT).dflt).2.2.2.1.length ≤ 10) && (R.1.getD 0 (ReqT).dflt).2.2.2.1.all fun h => decide (h.1.length ≤ 1000 ∧ h.2.1.length ≤ 1000))))))
theorem okLn_1 : (List.range 321).all (okLn true) = true := by kernel_rfl
theorem okLn_0 : (List.range 321).all (okLn false) = true := by kernel_rfl
theorem feeds_l2 (T : List UInt8) (cs : List Int) (hT : T.length ≤ 1000000) (hc : cs.length ≤ 140737488355328) : feedsP () (T, cs, ()) = true ∧ (feedsN () (T, cs, ())).2.1 = (scanR (T.length + 1) T).1 ∧ (feedsN () (T, cs, ())).2.2.1.2.1 = (scanR (T.length + 1) T).2.1 := by
  obtain ⟨f1, f2⟩ := feeds_hid (feeds_n T cs hc hT)
  obtain ⟨r1, r2, r3⟩ := scan_outs T
  rw [f2]
  exact ⟨f1, r2, r1⟩
theorem lawLen_m (s t : List UInt8) (n : Int) (b : Bool) : olawLen (s, t, n, b, ()) = some (true, ()) := by
  have hc0 : ([] : List Int).length ≤ 140737488355328 := by decide
  have c1 : (cut s 8).length ≤ 8 := cut_len s 8
  have c2 : (cut t 8).length ≤ 8 := cut_len t 8
  have lh : hdL.length = 35 := rfl
  have lc : clL.length = 19 := rfl
  rw [olawLen_g, elawLen_g]
  by_cases h1 : n < 0
  · rw [cdT h1]
  rw [cdF h1]
  by_cases h2 : n > 320
  · rw [cdT h2]
  rw [cdF h2]
  obtain ⟨k, rfl⟩ := Int.eq_ofNat_of_zero_le (show 0 ≤ n by omega)
  have hr : (List.replicate ((k : Int)).toNat (0 : UInt8)).length = k := by rw [List.length_replicate]; rfl
  have hb : (decide (Int.negSucc 9223372036854775807 ≤ (k : Int)) && decide ((k : Int) ≤ (9223372036854775807 : Int))) = true := by
    rw [Bool.and_eq_true, decide_eq_true_eq, decide_eq_true_eq]; exact ⟨by omega, by omega⟩
  have g0 : smP (hdL ++ cut s 8 ++ [13, 10, 13, 10] ++ cut t 8) [] = true := smP_ok (by simp only [List.length_append, List.length_cons, List.length_nil]; omega) hc0
  have o1 := List.all_eq_true.1 okLn_1 k (List.mem_range.2 (by omega))
  have o0 := List.all_eq_true.1 okLn_0 k (List.mem_range.2 (by omega))
  unfold okLn at o1 o0
  simp only [Bool.and_eq_true, decide_eq_true_eq, if_true, Bool.false_eq_true, if_false] at o1 o0
  obtain ⟨hd, o1⟩ := o1
  obtain ⟨-, o0⟩ := o0
  have lt1 : (txL true (k : Int)).length ≤ 1000 := by
    unfold txL
    rw [cT]
    simp only [List.length_append, List.length_cons, List.length_nil]
    omega
  have lt0 : (txL false (k : Int)).length ≤ 1000 := by
    unfold txL
    rw [cF]
    simp only [List.length_append, List.length_cons, List.length_nil]
    omega
  rw [gdT (by simp only [List.length_append, List.length_cons, List.length_nil]; omega), gdT (by simp only [List.length_append]; omega), gdT (by omega), gdT (by simp only [List.length_append]; omega), gdT (by omega), gdB hb, gN]
  cases b
  · obtain ⟨f1, f2, f3⟩ := feeds_l2 (txL false (k : Int)) [] (by omega) hc0
    rw [cF, gdB f1, gdT (by simp only [List.length_append, List.length_cons, List.length_nil]; omega), gdT (by omega), gdT (by omega), gdT (by omega), gdT rfl, gN, cF, f2, f3]
    generalize scanR ((txL false (k : Int)).length + 1) (txL false (k : Int)) = R at o0
    by_cases h3 : 300 < k
    · rw [if_pos h3, Bool.and_eq_true, beq_iff_eq, Bool.not_eq_true', beq_eq_false_iff_ne] at o0
      rw [cdT (by omega), ceT o0.1, ceF (show ¬ ((R.1.length : Nat) : Int) = 1 by have := o0.2; omega), gdB g0, gN]
    · rw [if_neg h3] at o0
      simp only [Bool.and_eq_true, beq_iff_eq, decide_eq_true_eq, List.all_eq_true] at o0
      obtain ⟨p1, p2, p3, p4, p5, p6⟩ := o0
      have hsl : scanLen (R.1.getD 0 (ReqT).dflt).2.2.2.1 = (k : Int) := by
        obtain ⟨e1, e2⟩ := mOut_ref (R.1.getD 0 (ReqT).dflt).2.2.2.1
        rw [e2 (by rw [p4]; show (0 : Int) ≠ 400; decide), p4]
      have hsp : scanLenP (R.1.getD 0 (ReqT).dflt).2.2.2.1 = true := scanLenP_ok (by omega) (fun h hh => by have := p6 h hh; omega)
      have q2 : @List.length (Ty.Den ReqT) R.1 = 1 := p2
      rw [cdF (by omega), ceT p1, ceT (show ((R.1.length : Nat) : Int) = 1 by omega), ceT (show (((R.1.getD 0 (ReqT).dflt).2.2.2.2.1.length : Nat) : Int) = (k : Int) by omega), ceT hsl, gdB g0, gdB hsp, gdT (by omega), gdT (by omega), gdT (by omega), gdT (by omega), gN]
  · obtain ⟨f1, f2, f3⟩ := feeds_l2 (txL true (k : Int)) [] (by omega) hc0
    rw [cT, gdB f1, gdT (by simp only [List.length_append, List.length_cons, List.length_nil]; omega), gdT (by omega), gdT (by omega), gdT (by omega), gdT rfl, gdT (by simp only [List.length_append, List.length_cons, List.length_nil]; omega), gN, cT, f2, f3]
    generalize scanR ((txL true (k : Int)).length + 1) (txL true (k : Int)) = R at o1
    rw [beq_iff_eq, Bool.not_eq_true', beq_eq_false_iff_ne] at o1
    rw [ceT o1.1, ceF (show ¬ ((R.1.length : Nat) : Int) = 1 by have := o1.2; omega), gdB g0, gN]
theorem lawLen_n (x : DenL [.str, .str, .int .i64, .bool]) (hb : BdL [.str, .str, .int .i64, .bool] x) : olawLen x = some (true, ()) := by
  obtain ⟨s, t, n, b, ⟨⟩⟩ := x
  exact lawLen_m s t n b
theorem lawLen_c : PC 6 (ofO [.str, .str, .int .i64, .bool] [.bool] olawLen) := (pureO (envO_ok (l := [(21, trueS), (24, cutS), (25, digitsS), (28, scanLenS), (23, sameTS)]) (o := [(26, feedsS)]) ⟨begun_c, cut_c, digits_c, slen_c, same_c, trivial⟩ ⟨feeds_c, trivial⟩) gl_ne Tryz.func6 (by kernel_rfl) (by decide))
theorem lawLen_run {w : World} (hgl : GlW glC w) {args : Array Value} {x : DenL [.str, .str, .int .i64, .bool]} (hx : RdAll (fzW w) [.str, .str, .int .i64, .bool] x args.toList) (hb : BdL [.str, .str, .int .i64, .bool] x) : Calls Tryz.prog 6 args w fun e w' => e = .returned (.bool true) ∧ Same w w' :=
  law_calls lawLen_c (fun x hb => by
    have := lawLen_n x hb
    exact ⟨by show (olawLen x).isSome = true; rw [this]; rfl, by show (olawLen x).getD _ = _; rw [this]; rfl⟩) hgl hx hb
end Go.Proofs.YtpdbgpkedehpgaaGreatDoor
