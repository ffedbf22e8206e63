/-
  armariumlaw15.ScanMethods: the plain law and the contract of the function. No condition.
-/
import Derived.Test.YtpdbgpkedehpgaaGreatDoorLawB
namespace Go.Proofs.YtpdbgpkedehpgaaGreatDoor
open Go Go.Eng Nice
set_option maxRecDepth 1000000
def spM : List UInt8 := [32, 32, 32]
def tlM : List UInt8 := [47, 112, 32, 72, 84, 84, 80, 47, 49, 46, 49, 13, 10, 13, 10]
abbrev shlawMeth : List (Nat × List (Nat × Sh)) := [(8, [(0, (.one .sym)), (1, (.one .sym)), (2, (.one .sym)), (6, (.one .sym)), (8, (.one (.vec .byte 5))), (35, (.one .sym)), (36, (.one .sym))])]
noncomputable def hlawMeth_0 (n : Nat) (t0 : Int) (t1 : Int) (t2 : Int) (t6 : Bool) (t8 : List (Ty.Den .byte)) (t35 : Int) (t36 : Int) : Option (DenL [.bool]) := rH Tryz.prog (envO [(21, trueS), (23, sameTS)] [(26, feedsS)]) (shOf shlawMeth) Tryz.f14 [.bool] n 0 [(0, sy (.int .i64 t0)), (1, sy (.int .u8 t1)), (2, sy (.int .i64 t2)), (6, .bool t6), (8, dt 9), (35, sy (.int .i64 t35)), (36, sy (.int .i64 t36))] [.vec .byte t8 5]
noncomputable def olawMeth (x : DenL [.int .i64, .byte, .int .i64]) : Option (DenL [.bool]) := fO Tryz.prog (envO [(21, trueS), (23, sameTS)] [(26, feedsS)]) (shOf shlawMeth) Tryz.f14 [.int .i64, .byte, .int .i64] [.bool] x
theorem elawMeth_g (N : Nat) (n : Int) (c : UInt8) (b : Int) : fON Tryz.prog (envO [(21, trueS), (23, sameTS)] [(26, feedsS)]) (shOf shlawMeth) Tryz.f14 [.int .i64, .byte, .int .i64] [.bool] N (n, c, b, ()) =
  (bif decide (n < (0 : Int)) then
 (some (true, ()))
  else
 (bif decide (n > (14 : Int)) then
 (some (true, ()))
 else
 (bif decide (b < (0 : Int)) then
 (some (true, ()))
 else
 (bif decide (b > (3 : Int)) then
 (some (true, ()))
 else
 (gd [decide ((0 : Int) ≤ n), decide (n ≤ (1099511627776 : Int)), decide (n = n)] (hlawMeth_0 N (n) ((↑c.toNat : Int)) (b) (false) (List.replicate n.toNat (0 : UInt8)) ((↑(List.replicate n.toNat (0 : UInt8)).length : Int)) ((0 : Int)))))))) := by kernel_rfl
theorem olawMeth_g (x : DenL [.int .i64, .byte, .int .i64]) : olawMeth x = fON Tryz.prog (envO [(21, trueS), (23, sameTS)] [(26, feedsS)]) (shOf shlawMeth) Tryz.f14 [.int .i64, .byte, .int .i64] [.bool] heads0 x := rfl
theorem elawMeth_0 (n : Nat) (t0 : Int) (t1 : Int) (t2 : Int) (t6 : Bool) (t8 : List (Ty.Den .byte)) (t35 : Int) (t36 : Int) : hlawMeth_0 (n + 1) t0 t1 t2 t6 t8 t35 t36 =
  (bif decide (t36 < t35) then
 (gd [decide (inK IntKind.i64 (t36 + (1 : Int))), decide (t36.toNat < t8.length), decide ((0 : Int) ≤ t36), decide (t36 < (↑t8.length : Int))] (hlawMeth_0 n (t0) (t1) (t2) (t6) (t8.set t36.toNat (UInt8.ofNat 77)) (t35) (t36 + (1 : Int))))
  else
 (gd [feedsP () (t8 ++ List.take t2.toNat spM ++ tlM, [], ()), decide ((t8 ++ List.take t2.toNat spM).length + 15 ≤ 1099511627776), decide (t8.length + (List.take t2.toNat spM).length ≤ 1099511627776), decide ((0 : Int) ≤ t2), decide (t2 ≤ (3 : Int))] (bif decide (t0 ≥ (1 : Int)) then
 (bif decide (t0 ≤ (10 : Int)) then
 (bif t2 == (1 : Int) then
 (bif (↑(List.length (feedsN () (t8 ++ List.take t2.toNat spM ++ tlM, [], ())).snd.fst) : Int) == (1 : Int) then
 (bif (feedsN () (t8 ++ List.take t2.toNat spM ++ tlM, [], ())).snd.snd.fst.snd.fst == (400 : Int) then
 (some (false, ()))
 else
 (gd [smP ([71, 69, 84, 32, 47, 63] ++ [UInt8.ofNat t1.toNat] ++ [32, 72, 84, 84, 80, 47, 49, 46, 49, 13, 10, 13, 10]) [], smP ([71, 69, 84, 32, 47] ++ [UInt8.ofNat t1.toNat] ++ [32, 72, 84, 84, 80, 47, 49, 46, 49, 13, 10, 13, 10]) [], smP ([UInt8.ofNat t1.toNat] ++ (t8 ++ List.take t2.toNat spM ++ tlM)) [], decide (1 + (t8 ++ List.take t2.toNat spM ++ tlM).length ≤ 1099511627776)] (some (true, ()))))
 else
 (some (false, ())))
 else
 (bif (↑(List.length (feedsN () (t8 ++ List.take t2.toNat spM ++ tlM, [], ())).snd.fst) : Int) == (1 : Int) then
 (some (false, ()))
 else
 (bif (feedsN () (t8 ++ List.take t2.toNat spM ++ tlM, [], ())).snd.snd.fst.snd.fst == (400 : Int) then
 (gd [smP ([71, 69, 84, 32, 47, 63] ++ [UInt8.ofNat t1.toNat] ++ [32, 72, 84, 84, 80, 47, 49, 46, 49, 13, 10, 13, 10]) [], smP ([71, 69, 84, 32, 47] ++ [UInt8.ofNat t1.toNat] ++ [32, 72, 84, 84, 80, 47, 49, 46, 49, 13, 10, 13, 10]) [], smP ([UInt8.ofNat t1.toNat] ++ (t8 ++ List.take t2.toNat spM ++ tlM)) [], decide (1 + (t8 ++ List.take t2.toNat spM ++ tlM).length ≤ 1099511627776)] (some (true, ())))
 else
 (some (false, ())))))
 else
 (bif (↑(List.length (feedsN () (t8 ++ List.take t2.toNat spM ++ tlM, [], ())).snd.fst) : Int) == (1 : Int) then
 (some (false, ()))
 else
 (bif (feedsN () (t8 ++ List.take t2.toNat spM ++ tlM, [], ())).snd.snd.fst.snd.fst == (400 : Int) then
 (gd [smP ([71, 69, 84, 32, 47, 63] ++ [UInt8.ofNat t1.toNat] ++ [32, 72, 84, 84, 80, 47, 49, 46, 49, 13, 10, 13, 10]) [], smP ([71, 69, 84, 32, 47] ++ [UInt8.ofNat t1.toNat] ++ [32, 72, 84, 84, 80, 47, 49, 46, 49, 13, 10, 13, 10]) [], smP ([UInt8.ofNat t1.toNat] ++ (t8 ++ List.take t2.toNat spM ++ tlM)) [], decide (1 + (t8 ++ List.take t2.toNat spM ++ tlM).length ≤ 1099511627776)] (some (true, ())))
 else
 (some (false, ())))))
 else
 (bif (↑(List.length (feedsN () (t8 ++ List.take t2.toNat spM ++ tlM, [], ())).snd.fst) : Int) == (1 : Int) then
 (some (false, ()))
 else
 (bif (feedsN () (t8 ++ List.take t2.toNat spM ++ tlM, [], ())).snd.snd.fst.snd.fst == (400 : Int) then
 (gd [smP ([71, 69, 84, 32, 47, 63] ++ [UInt8.ofNat t1.toNat] ++ [32, 72, 84, 84, 80, 47, 49, 46, 49, 13, 10, 13, 10]) [], smP ([71, 69, 84, 32, 47] ++ [UInt8.ofNat t1.toNat] ++ [32, 72, 84, 84, 80, 47, 49, 46, 49, 13, 10, 13, 10]) [], smP ([UInt8.ofNat t1.toNat] ++ (t8 ++ List.take t2.toNat spM ++ tlM)) [], decide (1 + (t8 ++ List.take t2.toNat spM ++ tlM).length ≤ 1099511627776)] (some (true, ())))
 else
 (some (false, ()))))))) := by kernel_rfl

def txM (k b : Nat) : List UInt8 := List.replicate k 77 ++ List.take b spM ++ tlM
def okM (k b : Nat) : Bool :=
  let R := scanR ((txM k b).length + 1) (txM k b)
  if 1 ≤ k ∧ k ≤ 10 ∧ b = 1 then R.1.length == 1 && !(R.2.1 == 400) else !(R.1.length == 1) && R.2.1 == 400
theorem okM_all : ((List.range 15).all fun k => (List.range 4).all fun b => okM k b) = true := by kernel_rfl
theorem feeds_m (T : List UInt8) (cs : List Int) (hT : T.length ≤ 1000000) (hc : cs.length ≤ 140737488355328) : feedsP () (T, cs, ()) = true ∧ (feedsN () (T, cs, ())).2.1 = (scanR (T.length + 1) T).1 ∧ (feedsN () (T, cs, ())).2.2.1.2.1 = (scanR (T.length + 1) T).2.1 := by
  obtain ⟨f1, f2⟩ := feeds_hid (feeds_n T cs hc hT)
  obtain ⟨r1, r2, r3⟩ := scan_outs T
  rw [f2]
  exact ⟨f1, r2, r1⟩
theorem meth_e (n k b : Nat) (c : UInt8) (hk : k ≤ 14) (hb : b ≤ 3) (t6 : Bool) : hlawMeth_0 (n + 1) (k : Int) (c.toNat : Int) (b : Int) t6 (List.replicate k 77) (k : Int) (k : Int) = some (true, ()) := by
  have hc0 : ([] : List Int).length ≤ 140737488355328 := by decide
  have ho := List.all_eq_true.1 (List.all_eq_true.1 okM_all k (List.mem_range.2 (by omega))) b (List.mem_range.2 (by omega))
  unfold okM at ho
  simp only at ho
  have lt : tlM.length = 15 := rfl
  have ls : (List.take b spM).length ≤ 3 := by rw [List.length_take]; exact Nat.min_le_right _ _
  have lr : (List.replicate k (77 : UInt8)).length = k := List.length_replicate
  have ltx : (txM k b).length ≤ 32 := by unfold txM; simp only [List.length_append]; omega
  obtain ⟨f1, f2, f3⟩ := feeds_m (txM k b) [] (by omega) hc0
  rw [elawMeth_0, cdF (by omega), show (b : Int).toNat = b from rfl, show (c.toNat : Int).toNat = c.toNat from rfl]
  rw [show List.replicate k (77 : UInt8) ++ List.take b spM ++ tlM = txM k b from rfl]
  have g1 : smP ([71, 69, 84, 32, 47, 63] ++ [UInt8.ofNat c.toNat] ++ [32, 72, 84, 84, 80, 47, 49, 46, 49, 13, 10, 13, 10]) [] = true := smP_ok (by simp only [List.length_append, List.length_cons, List.length_nil]; omega) hc0
  have g2 : smP ([71, 69, 84, 32, 47] ++ [UInt8.ofNat c.toNat] ++ [32, 72, 84, 84, 80, 47, 49, 46, 49, 13, 10, 13, 10]) [] = true := smP_ok (by simp only [List.length_append, List.length_cons, List.length_nil]; omega) hc0
  have g3 : smP ([UInt8.ofNat c.toNat] ++ (txM k b)) [] = true := smP_ok (by simp only [List.length_append, List.length_cons, List.length_nil]; omega) hc0
  have g4 : 1 + (txM k b).length ≤ 1099511627776 := by omega
  rw [gdB f1, gdT (by simp only [List.length_append]; omega), gdT (by omega), gdT (by omega), gdT (by omega), gN, f2, f3]
  generalize scanR ((txM k b).length + 1) (txM k b) = R at ho
  by_cases hok : 1 ≤ k ∧ k ≤ 10 ∧ b = 1
  · rw [if_pos hok, Bool.and_eq_true, beq_iff_eq, Bool.not_eq_true', beq_eq_false_iff_ne] at ho
    rw [cdT (by omega), cdT (by omega), ceT (by omega), ceT (show ((R.1.length : Nat) : Int) = 1 by omega), ceF ho.2, gdB g1, gdB g2, gdB g3, gdT g4, gN]
  · rw [if_neg hok, Bool.and_eq_true, Bool.not_eq_true', beq_eq_false_iff_ne, beq_iff_eq] at ho
    have e1 : ¬ ((R.1.length : Nat) : Int) = 1 := by omega
    by_cases h1 : 1 ≤ k
    · rw [cdT (by omega)]
      by_cases h2 : k ≤ 10
      · rw [cdT (by omega), ceF (by omega), ceF e1, ceT ho.2, gdB g1, gdB g2, gdB g3, gdT g4, gN]
      · rw [cdF (by omega), ceF e1, ceT ho.2, gdB g1, gdB g2, gdB g3, gdT g4, gN]
    · rw [cdF (by omega), ceF e1, ceT ho.2, gdB g1, gdB g2, gdB g3, gdT g4, gN]
theorem meth_l (k b : Nat) (c : UInt8) (hk : k ≤ 14) (hb : b ≤ 3) (t6 : Bool) : ∀ (r i n : Nat), k = i + r → r < n → hlawMeth_0 n (k : Int) (c.toNat : Int) (b : Int) t6 (List.replicate i 77 ++ List.replicate r 0) (k : Int) (i : Int) = some (true, ()) := by
  intro r
  induction r with
  | zero =>
    intro i n he hn
    obtain ⟨n, rfl⟩ : ∃ m, n = m + 1 := ⟨n - 1, by omega⟩
    have : i = k := by omega
    subst this
    rw [List.replicate_zero, List.append_nil]
    exact meth_e n i b c hk hb t6
  | succ r ih =>
    intro i n he hn
    obtain ⟨n, rfl⟩ : ∃ m, n = m + 1 := ⟨n - 1, by omega⟩
    have li : (List.replicate i (77 : UInt8)).length = i := List.length_replicate
    have lr : (List.replicate r (0 : UInt8)).length = r := List.length_replicate
    have hlen : (List.replicate i (77 : UInt8) ++ List.replicate (r + 1) 0).length = i + r + 1 := by rw [List.length_append, List.length_replicate, List.length_replicate]; omega
    have hset : (List.replicate i (77 : UInt8) ++ List.replicate (r + 1) 0).set i (UInt8.ofNat 77) = List.replicate (i + 1) 77 ++ List.replicate r 0 := by
      rw [List.replicate_succ]
      have := set_mid (List.replicate i (77 : UInt8)) (List.replicate r 0) 0 (UInt8.ofNat 77)
      rw [li] at this
      rw [this, List.replicate_succ', List.append_assoc]
      rfl
    have ih' := ih (i + 1) n (by omega) (by omega)
    simp only [Int.natCast_add, Int.natCast_one] at ih'
    rw [elawMeth_0, cdT (by omega), show (i : Int).toNat = i from rfl, hset, gdT (inK_i64.2 ⟨by omega, by omega⟩), gdT (by exact Nat.lt_of_lt_of_eq (show i < i + r + 1 by omega) hlen.symm), gdT (by omega), gdT (by exact Int.ofNat_lt.2 (Nat.lt_of_lt_of_eq (show i < i + r + 1 by omega) hlen.symm)), gN]
    exact ih'
theorem lawMeth_m (n : Int) (c : UInt8) (b : Int) : olawMeth (n, c, b, ()) = some (true, ()) := by
  rw [olawMeth_g, elawMeth_g]
  by_cases h1 : n < 0
  · rw [cdT h1]
  rw [cdF h1]
  by_cases h2 : n > 14
  · rw [cdT h2]
  rw [cdF h2]
  by_cases h3 : b < 0
  · rw [cdT h3]
  rw [cdF h3]
  by_cases h4 : b > 3
  · rw [cdT h4]
  rw [cdF h4]
  obtain ⟨k, rfl⟩ := Int.eq_ofNat_of_zero_le (show 0 ≤ n by omega)
  obtain ⟨j, rfl⟩ := Int.eq_ofNat_of_zero_le (show 0 ≤ b by omega)
  rw [gdT (by omega), gdT (by omega), gdT rfl, gN, show (k : Int).toNat = k from rfl, show ((List.replicate k (0 : UInt8)).length : Int) = (k : Int) by rw [List.length_replicate]]
  exact meth_l k j c (by omega) (by omega) false k 0 heads0 (by omega) (by unfold heads0; omega)
theorem lawMeth_n (x : DenL [.int .i64, .byte, .int .i64]) (hb : BdL [.int .i64, .byte, .int .i64] x) : olawMeth x = some (true, ()) := by
  obtain ⟨n, c, b, ⟨⟩⟩ := x
  exact lawMeth_m n c b
theorem lawMeth_c : PC 14 (ofO [.int .i64, .byte, .int .i64] [.bool] olawMeth) := (pureO (envO_ok (l := [(21, trueS), (23, sameTS)]) (o := [(26, feedsS)]) ⟨begun_c, same_c, trivial⟩ ⟨feeds_c, trivial⟩) gl_ne Tryz.func14 (by kernel_rfl) (by decide))
theorem lawMeth_run {w : World} (hgl : GlW glC w) {args : Array Value} {x : DenL [.int .i64, .byte, .int .i64]} (hx : RdAll (fzW w) [.int .i64, .byte, .int .i64] x args.toList) (hb : BdL [.int .i64, .byte, .int .i64] x) : Calls Tryz.prog 14 args w fun e w' => e = .returned (.bool true) ∧ Same w w' :=
  law_calls lawMeth_c (fun x hb => by
    have := lawMeth_n x hb
    exact ⟨by show (olawMeth x).isSome = true; rw [this]; rfl, by show (olawMeth x).getD _ = _; rw [this]; rfl⟩) hgl hx hb
end Go.Proofs.YtpdbgpkedehpgaaGreatDoor
