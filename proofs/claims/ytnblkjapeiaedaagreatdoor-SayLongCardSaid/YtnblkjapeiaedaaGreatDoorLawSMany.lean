/-
  SayMany: the plain law and the contract. No condition.
-/
import Derived.Test.YtnblkjapeiaedaaGreatDoorLawSAny
namespace Nice
open Go Go.Eng
def txtA : List AnsD → List UInt8
  | [] => []
  | a :: r => aputN a false ++ txtA r
theorem txtA_snoc : ∀ (l : List AnsD) (a : AnsD), txtA (l ++ [a]) = txtA l ++ aputN a false
  | [], a => by
    show aputN a false ++ [] = [] ++ _
    rw [List.append_nil, List.nil_append]
  | x :: l, a => by
    show aputN x false ++ txtA (l ++ [a]) = (aputN x false ++ txtA l) ++ _
    rw [txtA_snoc l a, List.append_assoc]
theorem txtA_len : ∀ (l : List AnsD), (∀ a, a ∈ l → amayB a = true) → (txtA l).length ≤ 30000 * l.length
  | [], _ => Nat.le_refl _
  | a :: l, h => by
    have h1 := (aput_len (h a (List.mem_cons_self ..)) false).2
    have h2 := txtA_len l fun a hm => h a (List.mem_cons_of_mem _ hm)
    show (aputN a false ++ txtA l).length ≤ _
    rw [List.length_append, List.length_cons]
    omega
noncomputable def smA (l : List AnsD) (t : List UInt8) (ins : List AnsD) (i : Int) (a : AnsD) (y n0 fin : BO) : BO :=
  bif decide (i < (l.length : Int)) then
    (bif decide (i < 6) then gd [decide (i.toNat < l.length), decide (0 ≤ i), decide (i < (l.length : Int))]
      (bif amayB a then gd [decide (inK .i64 (i + 1)), decide ((2 * (ins.length + [a].length) + 400) * 48 ≤ 281474976710656), decide (t.length + (aputN a false).length ≤ 1099511627776), aputP a, aputP a] y else gd [decide (inK .i64 (i + 1)), aputP a] n0)
    else fin)
  else fin
noncomputable def smB (t : List UInt8) (ins : List AnsD) (i : Int) (g : AnsD × Int × Int) (a : AnsD) (nx : BO) : BO :=
  bif decide (i < (ins.length : Int)) then gd [bndS t] (bif g.2.2 != 0 then bO false else bif eqAns g.1 a then gd [decide (inK .i64 (i + 1)), decide (0 ≤ g.2.1), decide (g.2.1 ≤ (t.length : Int)), ansB g.1, decide (i.toNat < ins.length), decide (0 ≤ i), decide (i < (ins.length : Int))] nx
      else gd [ansB g.1, decide (i.toNat < ins.length), decide (0 ≤ i), decide (i < (ins.length : Int))] (bO false))
  else gd [bndS t] (bif t == [] then (bif g.2.2 == 2 then bO true else bO false) else bO false)
theorem get_nil : (getN [] false).2.2 = 2 := by kernel_rfl
end Nice
namespace Go.Proofs.YtnblkjapeiaedaaGreatDoor
open Go Go.Eng Nice Go.RowKit
set_option maxRecDepth 1000000
noncomputable abbrev envSMany := envS [(13, trueS), (14, answS), (15, cutS), (16, aputS), (18, amayAS), (22, getSp), (23, eqAS)]
abbrev shsm : List (Nat × List (Nat × Sh)) := [(7, [(0, (.one (.dat (.pair (.int .i64) (.pair (.slice (.pair .str (.pair .str .unit))) (.pair .str .unit)))))), (2, (.one .sym)), (4, (.one .sym)), (5, (.one (.vec AnsT 24))), (6, (.one .sym))]), (14, [(2, (.one .sym)), (4, (.one .sym)), (5, (.one (.vec AnsT 24))), (8, (.one .sym))])]
noncomputable def hsm0 (n : Nat) (l : List AnsD) (c : Bool) (t : List UInt8) (ins : List AnsD) (i : Int) : BO := rH Tryz.prog envSMany (shOf shsm) Tryz.f5 [.bool] n 0 [(0, dt 10), (2, .bool c), (4, sy (.string (bs t))), (5, dt 11), (6, sy (.int .i64 i))] [.dat (.pair (.int .i64) (.pair (.slice (.pair .str (.pair .str .unit))) (.pair .str .unit))) l, .vec AnsT ins 24]
noncomputable def hsm1 (n : Nat) (c : Bool) (t : List UInt8) (ins : List AnsD) (i : Int) : BO := rH Tryz.prog envSMany (shOf shsm) Tryz.f5 [.bool] n 1 [(2, .bool c), (4, sy (.string (bs t))), (5, dt 10), (8, sy (.int .i64 i))] [.vec AnsT ins 24]
noncomputable def olawSMany (x : DenL [.slice AnsT]) : BO := fO Tryz.prog envSMany (shOf shsm) Tryz.f5 [.slice AnsT] [.bool] x
theorem elawSMany_g (N : Nat) (l : List AnsD) : fON Tryz.prog envSMany (shOf shsm) Tryz.f5 [.slice AnsT] [.bool] N (l, ()) = hsm0 N l false [] [] 0 := by kernel_rfl
theorem olawSMany_g (x : DenL [.slice AnsT]) : olawSMany x = fON Tryz.prog envSMany (shOf shsm) Tryz.f5 [.slice AnsT] [.bool] heads0 x := rfl
theorem elawSMany_0 (n : Nat) (l : List AnsD) (c : Bool) (t : List UInt8) (ins : List AnsD) (i : Int) : hsm0 (n + 1) l c t ins i =
  smA l t ins i (answN (l.getD i.toNat (AnsT).dflt)) (hsm0 n l c (t ++ aputN (answN (l.getD i.toNat (AnsT).dflt)) false) (ins ++ [answN (l.getD i.toNat (AnsT).dflt)]) (i + 1)) (hsm0 n l c t ins (i + 1)) (hsm1 n c t ins 0) := by kernel_rfl
theorem elawSMany_1 (n : Nat) (c : Bool) (t : List UInt8) (ins : List AnsD) (i : Int) : hsm1 (n + 1) c t ins i = smB t ins i (getN t false) (ins.getD i.toNat (AnsT).dflt) (hsm1 n c (t.drop (getN t false).2.1.toNat) ins (i + 1)) := by kernel_rfl
theorem sm1_l (c : Bool) (ins : List AnsD) (hm : ∀ a, a ∈ ins → amayB a = true) (hl : ins.length ≤ 6) : ∀ (r i n : Nat), ins.length = i + r → r < n → hsm1 n c (txtA (ins.drop i)) ins (i : Int) = bO true := by
  intro r
  induction r with
  | zero =>
    intro i n hi hn
    obtain ⟨n, rfl⟩ : ∃ k, n = k + 1 := ⟨n - 1, by omega⟩
    rw [elawSMany_1, List.drop_eq_nil_of_le (by omega)]
    unfold smB
    rw [cdF (by omega)]
    show gd [bndS []] (bif (([] : List UInt8) == []) then (bif (getN [] false).2.2 == 2 then bO true else bO false) else bO false) = _
    rw [get_nil]; rfl
  | succ r ih =>
    intro i n hi hn
    obtain ⟨n, rfl⟩ : ∃ k, n = k + 1 := ⟨n - 1, by omega⟩
    have h1 : i < ins.length := by omega
    have d1 : ins.drop i = ins.getD i (AnsT).dflt :: ins.drop (i + 1) := by
      rw [List.drop_eq_getElem_cons h1, List.getD_eq_getElem?_getD, List.getElem?_eq_getElem h1]; rfl
    have ha : amayB (ins.getD i (AnsT).dflt) = true := hm _ (by
      rw [List.getD_eq_getElem?_getD, List.getElem?_eq_getElem h1]; exact List.getElem_mem h1)
    have hx := txtA_len (ins.drop i) fun a hx => hm a (List.mem_of_mem_drop hx)
    have hx2 : (ins.drop i).length = ins.length - i := List.length_drop
    have hb : bndS (txtA (ins.drop i)) = true := decide_eq_true (by omega)
    have this := ih (i + 1) n (by omega) (by omega)
    simp only [Int.natCast_add, Int.natCast_one] at this
    have hg : getN (txtA (ins.drop i)) false = (ins.getD i (AnsT).dflt, ((aputN (ins.getD i (AnsT).dflt) false).length : Int), 0) := by
      rw [d1]
      exact get_fwd ha false (txtA (ins.drop (i + 1)))
    have hd : (txtA (ins.drop i)).drop (aputN (ins.getD i (AnsT).dflt) false).length = txtA (ins.drop (i + 1)) := by
      rw [d1]
      exact List.drop_left
    have hlen : (aputN (ins.getD i (AnsT).dflt) false).length ≤ (txtA (ins.drop i)).length := by
      rw [d1]
      show _ ≤ (aputN (ins.getD i (AnsT).dflt) false ++ txtA (ins.drop (i + 1))).length
      rw [List.length_append]; omega
    rw [elawSMany_1, hg]
    unfold smB
    dsimp only
    rw [Int.toNat_natCast, Int.toNat_natCast, hd, this, cdT (by omega), gdB hb, xG, show ((0 : Int) != 0) = false from rfl, xF, eqAns_refl, xT, gdT (inK_i64.2 ⟨by omega, by omega⟩), gdT (by omega), gdT (by omega), gdB (may_ans ha), gdT h1, gdT (by omega), gdT (by omega), xG]
theorem sm0_l (l : List AnsD) (c : Bool) : ∀ (r i n : Nat) (ins : List AnsD), 6 = i + r → 20 + r < n → ins.length ≤ i → (∀ a, a ∈ ins → amayB a = true) → hsm0 n l c (txtA ins) ins (i : Int) = bO true := by
  intro r
  induction r with
  | zero =>
    intro i n ins hi hn hl hm
    obtain ⟨n, rfl⟩ : ∃ k, n = k + 1 := ⟨n - 1, by omega⟩
    have f := sm1_l c ins hm (by omega) ins.length 0 n (by omega) (by omega)
    rw [List.drop_zero] at f
    rw [elawSMany_0]
    unfold smA
    rw [cdF (show ¬ (i : Int) < 6 by omega)]
    show (bif _ then hsm1 n c (txtA ins) ins ((0 : Nat) : Int) else hsm1 n c (txtA ins) ins ((0 : Nat) : Int)) = _
    rw [f]
    cases decide ((i : Int) < (l.length : Int)) <;> rfl
  | succ r ih =>
    intro i n ins hi hn hl hm
    obtain ⟨n, rfl⟩ : ∃ k, n = k + 1 := ⟨n - 1, by omega⟩
    rw [elawSMany_0]
    unfold smA
    by_cases h1 : i < l.length
    · rw [cdT (by omega), cdT (by omega), show (i : Int).toNat = i from rfl, gdT h1, gdT (by omega), gdT (by omega), xG]
      have hp := answ_p (l.getD i (AnsT).dflt)
      generalize answN (l.getD i (AnsT).dflt) = a at hp ⊢
      cases ha : amayB a
      · have this := ih (i + 1) n ins (by omega) (by omega) (by omega) hm
        simp only [Int.natCast_add, Int.natCast_one] at this
        rw [xF, gdT (inK_i64.2 ⟨by omega, by omega⟩), gdB hp, xG, this]
      · have hm2 : ∀ b, b ∈ ins ++ [a] → amayB b = true := fun b hb => by
          rcases List.mem_append.1 hb with hb | hb
          · exact hm b hb
          · rw [List.mem_singleton.1 hb]; exact ha
        have this := ih (i + 1) n (ins ++ [a]) (by omega) (by omega) (by rw [List.length_append, List.length_singleton]; omega) hm2
        simp only [Int.natCast_add, Int.natCast_one] at this
        rw [txtA_snoc] at this
        have l1 := (aput_len ha false).2
        have l2 := txtA_len ins hm
        rw [xT, gdT (inK_i64.2 ⟨by omega, by omega⟩), gdT (by rw [List.length_singleton]; omega), gdT (by omega), gdB hp, gdB hp, xG, this]
    · have f := sm1_l c ins hm (by omega) ins.length 0 n (by omega) (by omega)
      rw [List.drop_zero] at f
      rw [cdF (by omega)]
      exact f
theorem lawSMany_n (x : DenL [.slice AnsT]) : olawSMany x = some (true, ()) := by
  obtain ⟨l, ⟨⟩⟩ := x
  rw [olawSMany_g, elawSMany_g]
  exact sm0_l l false 6 0 heads0 [] rfl (by unfold heads0; omega) (Nat.le_refl _) fun a h => absurd h (by simp)
theorem lawSMany_c : PC 5 (ofO [.slice AnsT] [.bool] olawSMany) := (pureO (sh := shOf shsm) (envS_ok (l := [(13, trueS), (14, answS), (15, cutS), (16, aputS), (18, amayAS), (22, getSp), (23, eqAS)]) ⟨begun_c, answ_c, cut_c, aput_c, rmay_c, get_c, eqa_c, trivial⟩) gl_ne Tryz.func5 (by kernel_rfl) (by decide))
theorem lawSMany_run {w : World} (hgl : GlW glC w) {args : Array Value} {x : DenL [.slice AnsT]} (hx : RdAll (fzW w) [.slice AnsT] x args.toList) (hb : BdL [.slice AnsT] x) : Calls Tryz.prog 5 args w fun e w' => e = .returned (.bool true) ∧ Same w w' :=
  law_calls lawSMany_c (fun x _ => by
    have := lawSMany_n x
    exact ⟨by show (olawSMany x).isSome = true; rw [this]; rfl, by show (olawSMany x).getD _ = _; rw [this]; rfl⟩) hgl hx hb
end Go.Proofs.YtnblkjapeiaedaaGreatDoor
