/-
  SayAll: the plain law and the contract. No condition.
-/
import Derived.Test.YtnblkjapeiaedaaGreatDoorP7
namespace Nice
open Go Go.Eng
def saX (a : AnsD) (t m : List UInt8) (b : AnsD) (g : AnsD × Int × Int) : BO :=
  bif !t == t then gd [aputP a, aputP a, aputP a] (bO false) else bif !wordsN a.1 == wordsN a.1 then gd [aputP a, aputP a, aputP a] (bO false)
  else gd [aputP a, aputP a, aputP a] (bif t == [] then (bif amayB a then gd [aputP a] (bO false) else gd [aputP a] (bO true))
    else gd [bndS (t ++ cut m 40), decide (t.length + (cut m 40).length ≤ 1099511627776)] (bif g.2.2 == 0 then (bif g.2.1 == (t.length : Int) then (bif eqAns g.1 b then gd [ansB g.1] (bO true) else gd [ansB g.1] (bO false)) else bO false) else bO false))
def saW (a : AnsD) (t m : List UInt8) (b : AnsD) (g : AnsD × Int × Int) : BO :=
  gd [aputP a] (bif amayB a then (bif amayB a then saX a t m b g else gd [aputP a, aputP a] (bO false)) else (bif amayB a then gd [aputP a, aputP a] (bO false) else saX a t m b g))
def bareA (a : AnsD) : AnsD := (a.1, a.2.1, [], ())
theorem answ_p (x : AnsD) : aputP (answN x) = true := by
  refine Go.Proofs.YtnblkjapeiaedaaGreatDoor.headsP_iff.2 ⟨?_, fun h hm => ?_⟩
  · show ((x.2.1.take 12).map cutHd).length ≤ _
    rw [List.length_map, List.length_take]
    omega
  · obtain ⟨y, _, rfl⟩ := List.mem_map.1 hm
    exact headP_cut (Nat.le_trans (cut_le y.1 32) (by decide)) (Nat.le_trans (cut_le y.2.1 102) (by decide))
theorem hdT_len {h : HeadD} (hb : headB h = true) : (hdT h).length ≤ 134 := by
  obtain ⟨h1, h2⟩ := headB_len hb
  unfold hdT
  simp only [List.length_append, List.length_cons, List.length_nil]
  omega
theorem hdsT_len : ∀ (l : List HeadD), (∀ h, h ∈ l → headB h = true) → (hdsT l).length ≤ 134 * l.length
  | [], _ => Nat.le_refl _
  | h :: l, hh => by
    have h1 := hdT_len (hh h (List.mem_cons_self ..))
    have h2 := hdsT_len l fun h hm => hh h (List.mem_cons_of_mem _ hm)
    show (hdT h ++ hdsT l).length ≤ _
    rw [List.length_append, List.length_cons]
    omega
theorem endH_len (st : Int) {k : Nat} (h : k ≤ 20000) : (endH st k).length ≤ 40 := by
  have := dec_len h
  unfold endH
  cases st != 204
  · show ([13, 10] : List UInt8).length ≤ 40
    decide
  · show (endL k).length ≤ 40
    unfold endL
    simp only [List.length_append]
    show 14 + (2 + ((Lib.decDigits k).length + 4)) ≤ 40
    omega
theorem statT_len : stats.all (fun n => decide ((statT n).length ≤ 80) && decide (1 ≤ (statT n).length)) = true := by kernel_rfl
theorem aput_len {a : AnsD} (h : amayB a = true) (c : Bool) : 1 ≤ (aputN a c).length ∧ (aputN a c).length ≤ 30000 := by
  obtain ⟨n, hs, b, ⟨⟩⟩ := a
  obtain ⟨m1, m2, m3, m4, m5⟩ := may_iff.1 h
  have h1 := List.all_eq_true.1 statT_len n m1
  rw [Bool.and_eq_true, decide_eq_true_eq, decide_eq_true_eq] at h1
  have h2 := hdsT_len hs m3
  have h3 := endH_len n m4
  rw [aput_eq h]
  show 1 ≤ (statT n ++ (hdsT hs ++ (endH n b.length ++ (bif c then [] else b)))).length ∧ (statT n ++ (hdsT hs ++ (endH n b.length ++ (bif c then [] else b)))).length ≤ 30000
  have h4 : (bif c then [] else b : List UInt8).length ≤ 20000 := by
    cases c
    · exact m4
    · exact Nat.zero_le _
  simp only [List.length_append]
  omega
theorem aput_ne {a : AnsD} (h : amayB a = true) (c : Bool) : (aputN a c == []) = false := by
  rw [beq_eq_false_iff_ne]
  intro e
  have := (aput_len h c).1
  rw [e] at this
  exact absurd this (by decide)
theorem may_ans {a : AnsD} (h : amayB a = true) : ansB a = true := by
  obtain ⟨n, hs, b, ⟨⟩⟩ := a
  obtain ⟨m1, m2, m3, m4, m5⟩ := may_iff.1 h
  exact decide_eq_true (show hs.length ≤ 140737488355328 by omega)
theorem saX_n (a : AnsD) (c : Bool) (m : List UInt8) (hp : aputP a = true) : saX a (aputN a c) m (bif c then bareA a else a) (getN (aputN a c ++ cut m 40) c) = bO true := by
  unfold saX
  rw [beq_self_eq_true, Bool.not_true, xF, beq_self_eq_true, Bool.not_true, xF, gdB hp, gdB hp, gdB hp, xG]
  cases h : amayB a
  · have e : aputN a c = [] := by unfold aputN; rw [h]; rfl
    rw [e, show (([] : List UInt8) == []) = true from rfl, xT, xF, gdB hp, xG]
  · have hl := aput_len h c
    have hm := cut_le m 40
    have hb : bndS (aputN a c ++ cut m 40) = true := decide_eq_true (by
      have hm : (cut m 40).length ≤ 40 := hm
      rw [List.length_append]; omega)
    have hm : (cut m 40).length ≤ 40 := hm
    rw [aput_ne h c, xF, gdB hb, gdT (by omega), xG, get_fwd h c]
    have ha := may_ans h
    cases c
    · show (bif (0 : Int) == 0 then (bif ((aputN a false).length : Int) == ((aputN a false).length : Int) then (bif eqAns a a then gd [ansB a] (bO true) else gd [ansB a] (bO false)) else bO false) else bO false) = _
      rw [beq_self_eq_true, xT, beq_self_eq_true, xT, eqAns_refl, xT, gdB ha, xG]
    · show (bif (0 : Int) == 0 then (bif ((aputN a true).length : Int) == ((aputN a true).length : Int) then (bif eqAns (bareA a) (bareA a) then gd [ansB a] (bO true) else gd [ansB a] (bO false)) else bO false) else bO false) = _
      rw [beq_self_eq_true, xT, beq_self_eq_true, xT, eqAns_refl, xT, gdB ha, xG]
theorem saW_n (a : AnsD) (c : Bool) (m : List UInt8) (hp : aputP a = true) : saW a (aputN a c) m (bif c then bareA a else a) (getN (aputN a c ++ cut m 40) c) = bO true := by
  unfold saW
  rw [saX_n a c m hp, gdB hp, xG]
  cases amayB a <;> rfl
end Nice
namespace Go.Proofs.YtnblkjapeiaedaaGreatDoor
open Go Go.Eng Nice Go.RowKit
set_option maxRecDepth 1000000
noncomputable abbrev envSAll := envS [(13, trueS), (14, answS), (15, cutS), (16, aputS), (17, amayAS), (18, amayAS), (19, aputS), (20, wordsS), (21, wordsS), (22, getSp), (23, eqAS)]
noncomputable def olawSAll (x : DenL [AnsT, .str, .bool]) : BO := fO Tryz.prog envSAll (shOf []) Tryz.f3 [AnsT, .str, .bool] [.bool] x
theorem elawSAll_0 (N : Nat) (n : Int) (hs : List HeadD) (b m : List UInt8) : fON Tryz.prog envSAll (shOf []) Tryz.f3 [AnsT, .str, .bool] [.bool] N ((n, hs, b, ()), m, false, ()) =
  saW (answN (n, hs, b, ())) (aputN (answN (n, hs, b, ())) false) m (answN (n, hs, b, ())) (getN (aputN (answN (n, hs, b, ())) false ++ cut m 40) false) := by kernel_rfl
theorem elawSAll_1 (N : Nat) (n : Int) (hs : List HeadD) (b m : List UInt8) : fON Tryz.prog envSAll (shOf []) Tryz.f3 [AnsT, .str, .bool] [.bool] N ((n, hs, b, ()), m, true, ()) =
  saW (answN (n, hs, b, ())) (aputN (answN (n, hs, b, ())) true) m (bareA (answN (n, hs, b, ()))) (getN (aputN (answN (n, hs, b, ())) true ++ cut m 40) true) := by kernel_rfl
theorem olawSAll_g (x : DenL [AnsT, .str, .bool]) : olawSAll x = fON Tryz.prog envSAll (shOf []) Tryz.f3 [AnsT, .str, .bool] [.bool] heads0 x := rfl
theorem lawSAll_n (x : DenL [AnsT, .str, .bool]) : olawSAll x = some (true, ()) := by
  obtain ⟨⟨n, hs, b, ⟨⟩⟩, m, c, ⟨⟩⟩ := x
  rw [olawSAll_g]
  cases c
  · rw [elawSAll_0]
    exact saW_n (answN (n, hs, b, ())) false m (answ_p _)
  · rw [elawSAll_1]
    exact saW_n (answN (n, hs, b, ())) true m (answ_p _)
theorem lawSAll_c : PC 3 (ofO [AnsT, .str, .bool] [.bool] olawSAll) := (pureO (envS_ok (l := [(13, trueS), (14, answS), (15, cutS), (16, aputS), (17, amayAS), (18, amayAS), (19, aputS), (20, wordsS), (21, wordsS), (22, getSp), (23, eqAS)]) ⟨begun_c, answ_c, cut_c, aput_c, amay_c, rmay_c, rput_c, words_c, rwords_c, get_c, eqa_c, trivial⟩) gl_ne Tryz.func3 (by kernel_rfl) (by decide))
theorem lawSAll_run {w : World} (hgl : GlW glC w) {args : Array Value} {x : DenL [AnsT, .str, .bool]} (hx : RdAll (fzW w) [AnsT, .str, .bool] x args.toList) (hb : BdL [AnsT, .str, .bool] x) : Calls Tryz.prog 3 args w fun e w' => e = .returned (.bool true) ∧ Same w w' :=
  law_calls lawSAll_c (fun x _ => by
    have := lawSAll_n x
    exact ⟨by show (olawSAll x).isSome = true; rw [this]; rfl, by show (olawSAll x).getD _ = _; rw [this]; rfl⟩) hgl hx hb
end Go.Proofs.YtnblkjapeiaedaaGreatDoor
