/-
  SheetAny: a text between the marks of a list is a list's, just its, or none's. No condition.
-/
import Derived.Test.YtnblkjapeiaedaaGreatDoorQ7
import Derived.Test.YtnblkjapeiaedaaGreatDoorQ7
namespace Nice
open Go Go.Eng
def bitL : List (List UInt8) := [begL, endL, nameL, nameE, keyL, keyE, nextL, nextE, [97], [98], verL, tagL, cloL, [55], [48, 48, 48, 49, 48, 48, 48, 49], goneL]
abbrev dE (d : ShD) : ShD := (d.1, d.2.1, d.2.2.1, d.2.2.2.1, ())
noncomputable def tailA (pre : List Bool) (t : List UInt8) (g : ShD × Int × Unit) : BO :=
  gd pre (bif g.2.1 != 0 then (bif g.2.1 == 1 then bO true else bO false)
    else bif decide ((g.1.2.1.length : Int) > 0) then (bif (g.1.1.length : Int) == 0 then (bif decide (((g.1.2.1.getD 0 (EntT).dflt).2.1.length : Int) > 0) then gd [decide (0 < g.1.2.1.length), decide (0 < (g.1.2.1.length : Int))] (bO true) else gd [decide (0 < g.1.2.1.length), decide (0 < (g.1.2.1.length : Int))] (bO false)) else bO false)
    else bif smayN (dE g.1) then (bif sputN (dE g.1) == t then gd [smayP (dE g.1), smayP (dE g.1)] (bO true) else gd [smayP (dE g.1), smayP (dE g.1)] (bO false)) else gd [smayP (dE g.1)] (bO false))
noncomputable def endA (l : List Int) (t : List UInt8) : BO :=
  bif IntKind.i64.wrap ((Nat.bitwise and ((l.length : Int) % 18446744073709551616).toNat 1 : Nat) : Int) == 1 then tailA [sgetS.pre (t ++ endL, ()), decide (t.length + 7 ≤ 1099511627776)] (t ++ endL) (sgetN (t ++ endL)) else tailA [sgetS.pre (t, ())] t (sgetN t)
abbrev pkA (l : List Int) (i : Int) : Int := (Int.tmod (l.getD i.toNat (Ty.int .i64).dflt) 16 + 16).tmod 16
noncomputable abbrev gdA (l : List Int) (t a : List UInt8) (i : Int) : List Bool := [decide (inK .i64 (i + 1)), decide (t.length + a.length ≤ 1099511627776), decide (inK .i64 (Int.tmod (l.getD i.toNat (Ty.int .i64).dflt) 16 + 16)), decide (i.toNat < l.length), decide (0 ≤ i), decide (i < (l.length : Int))]
/-- one of the bits -/
noncomputable def chA (l : List Int) (t : List UInt8) (i : Int) (nx : List UInt8 → BO) : Int → List (List UInt8) → BO
  | _, [] => none
  | k, a :: r => match r with
    | [] => gd (gdA l t a i ++ [pkA l i == k]) (nx (t ++ a))
    | _ :: _ => bif pkA l i == k then gd (gdA l t a i) (nx (t ++ a)) else chA l t i nx (k + 1) r
noncomputable def stepA (l : List Int) (t : List UInt8) (i : Int) (nx : List UInt8 → BO) : BO :=
  bif decide (i < (l.length : Int)) then (bif decide (i < 20) then chA l t i nx 0 bitL else endA l t) else endA l t
theorem tailA_n {pre : List Bool} (t : List UInt8) (h : ∀ y : BO, gd pre y = y) : tailA pre t (sgetN t) = bO true := by
  unfold tailA
  rw [h]
  rcases sget_cases t with q0 | ⟨d, q0, h1, _, h2, _⟩
  · rw [q0]; rfl
  · rw [q0]
    obtain ⟨n, l, b, x, ⟨⟩⟩ := d
    dsimp only
    rw [show ((0 : Int) != 0) = false from rfl, xF]
    have hm := smayN_iff h1
    have hp : smayP (n, l, b, x, ()) = true := by
      refine smayP_iff.2 ⟨by have := hm.2.2.1; show n.length ≤ _; have h : n.length ≤ 20 := this; omega, fun k hk => ?_, Go.Proofs.YtnblkjapeiaedaaGreatDoor.entsP_iff.2 ⟨by have h : l.length ≤ 20 := hm.2.2.2.1; show l.length ≤ _; omega, fun e he => ?_⟩⟩
      · have := isKey_bnd (hm.1 k hk)
        unfold bndS; exact decide_eq_true (by omega)
      · obtain ⟨_, q2, _, q4⟩ := entB_iff.1 (hm.2.1 e he)
        have q2 := isKey_bnd q2
        unfold entP bndS
        rw [Bool.and_eq_true, decide_eq_true_eq, decide_eq_true_eq]
        exact ⟨by omega, by omega⟩
    cases l with
    | nil =>
      rw [cdF (by simp), h1, xT, gdB hp, gdB hp, xG]
      have : sputN (n, [], b, x, ()) = t := by
        unfold sputN
        rw [h1, xT]
        exact (h2 rfl).symm
      rw [this, beq_self_eq_true, xT]
    | cons e l =>
      have hE : entB e = true := hm.2.1 e List.mem_cons_self
      obtain ⟨_, _, q3, _⟩ := entB_iff.1 hE
      have hn : n = [] := by
        cases n with
        | nil => rfl
        | cons k n =>
          unfold smayN at h1
          rw [Bool.and_eq_true] at h1
          have h3 := h1.1
          dsimp only at h3
          rw [decide_eq_true (show 0 < (k :: n).length from Nat.succ_pos _), decide_eq_true (show 0 < (e :: l).length from Nat.succ_pos _)] at h3
          cases h3
      subst hn
      rw [cdT (by rw [List.length_cons]; omega), show (((([] : List (List UInt8)).length : Nat) : Int) == 0) = true from rfl, xT, show (e :: l).getD 0 (EntT).dflt = e from rfl, cdT (by omega), gdT (by rw [List.length_cons]; omega), gdT (by rw [List.length_cons]; omega), xG]
theorem endA_n (l : List Int) {t : List UInt8} (ht : t.length ≤ 1073741000) : endA l t = bO true := by
  have hE : (t ++ endL).length = t.length + 7 := by rw [List.length_append]; rfl
  have h1 : sgetS.pre (t ++ endL, ()) = true := decide_eq_true (show (t ++ endL).length ≤ 1073741824 by omega)
  have h2 : sgetS.pre (t, ()) = true := decide_eq_true (show t.length ≤ 1073741824 by omega)
  unfold endA
  rw [tailA_n _ (fun y => by rw [gdB h1, gdT (by omega), xG]), tailA_n _ (fun y => by rw [gdB h2, xG])]
  cases IntKind.i64.wrap ((Nat.bitwise and ((l.length : Int) % 18446744073709551616).toNat 1 : Nat) : Int) == 1 <;> rfl
theorem chA_n (l : List Int) (t : List UInt8) (i : Nat) (nx : List UInt8 → BO) (hi : i < l.length) (hi20 : i < 20) (ht : t.length ≤ 1073741000) (hnx : ∀ a, a.length ≤ 20 → nx (t ++ a) = bO true) : ∀ (ts : List (List UInt8)) (k : Int), ts ≠ [] → (∀ a, a ∈ ts → a.length ≤ 20) → k ≤ pkA l (i : Int) → pkA l (i : Int) < k + ts.length → chA l t (i : Int) nx k ts = bO true
  | [], _, h, _, _, _ => absurd rfl h
  | [a], k, _, ha, hk, hk2 => by
    have hal := ha a List.mem_cons_self
    have e : pkA l (i : Int) = k := by
      rw [show ([a] : List (List UInt8)).length = 1 from rfl] at hk2; omega
    unfold chA
    have b1 := Int.tmod_lt_of_pos (l.getD i (Ty.int .i64).dflt) (b := 16) (by omega)
    have b2 := Int.lt_tmod_of_pos (l.getD i (Ty.int .i64).dflt) (b := 16) (by omega)
    have e2 : (pkA l (i : Int) == k) = true := beq_iff_eq.2 e
    unfold gdA
    simp only [List.cons_append, List.nil_append]
    rw [show ((i : Int)).toNat = i from rfl, gdT (inK_i64.2 ⟨by omega, by omega⟩), gdT (by omega), gdT (inK_i64.2 ⟨by omega, by omega⟩), gdT hi, gdT (by omega), gdT (by omega), gdB e2, xG, hnx a hal]
  | a :: c :: r, k, _, ha, hk, hk2 => by
    have hal := ha a List.mem_cons_self
    have b1 := Int.tmod_lt_of_pos (l.getD i (Ty.int .i64).dflt) (b := 16) (by omega)
    have b2 := Int.lt_tmod_of_pos (l.getD i (Ty.int .i64).dflt) (b := 16) (by omega)
    unfold chA
    cases e : pkA l (i : Int) == k
    · rw [xF]
      have : pkA l (i : Int) ≠ k := beq_eq_false_iff_ne.1 e
      exact chA_n l t i nx hi hi20 ht hnx (c :: r) (k + 1) (by simp) (fun a ha' => ha a (List.mem_cons_of_mem _ ha')) (by omega) (by rw [List.length_cons] at hk2; omega)
    · rw [xT]
      unfold gdA
      rw [show ((i : Int)).toNat = i from rfl, gdT (inK_i64.2 ⟨by omega, by omega⟩), gdT (by omega), gdT (inK_i64.2 ⟨by omega, by omega⟩), gdT hi, gdT (by omega), gdT (by omega), xG, hnx a hal]
theorem pkA_b (l : List Int) (i : Int) : 0 ≤ pkA l i ∧ pkA l i < 16 := by
  have b2 := Int.lt_tmod_of_pos (l.getD i.toNat (Ty.int .i64).dflt) (b := 16) (by omega)
  refine ⟨Int.tmod_nonneg _ (by omega), Int.tmod_lt_of_pos _ (by omega)⟩
end Nice
namespace Go.Proofs.YtnblkjapeiaedaaGreatDoor
open Go Go.Eng Nice Go.RowKit
set_option maxRecDepth 1000000
noncomputable abbrev enXA : Eng.Env := envS [(13, trueS), (27, sputS), (28, smayS), (32, sgetS)]
abbrev shxa : List (Nat × List (Nat × Sh)) := [(7, [(0, (.one (.dat (.int .i64)))), (2, (.one .sym)), (4, (.sli [.sym, .sym, .sym, .sym, .sym, .sym, .sym, .sym, .sym, .sym, .sym, .sym, .sym, .sym, .sym, .sym])), (5, (.one .sym)), (6, (.one .sym))])]
noncomputable def olawXAny (x : DenL [.slice (.int .i64)]) : BO := fO Tryz.prog enXA (shOf shxa) Tryz.f11 [.slice (.int .i64)] [.bool] x
noncomputable def hxa (N : Nat) (l : List Int) (t : List UInt8) (i : Int) : BO := rH Tryz.prog enXA (shOf shxa) Tryz.f11 [.bool] N 0 [(0, dt 10), (2, .bool false), (4, .slice (some ⟨11, 0, none⟩) 16 16), (5, sy (.string (bs t))), (6, sy (.int .i64 i))] [.dat (.int .i64) l, .row [sy (.string (bs begL)), sy (.string (bs endL)), sy (.string (bs nameL)), sy (.string (bs nameE)), sy (.string (bs keyL)), sy (.string (bs keyE)), sy (.string (bs nextL)), sy (.string (bs nextE)), sy (.string (bs [97])), sy (.string (bs [98])), sy (.string (bs verL)), sy (.string (bs tagL)), sy (.string (bs cloL)), sy (.string (bs [55])), sy (.string (bs [48, 48, 48, 49, 48, 48, 48, 49])), sy (.string (bs goneL))] 9 false]
theorem olawXAny_g (x : DenL [.slice (.int .i64)]) : olawXAny x = fON Tryz.prog enXA (shOf shxa) Tryz.f11 [.slice (.int .i64)] [.bool] heads0 x := rfl
theorem exa_g (N : Nat) (l : List Int) : fON Tryz.prog enXA (shOf shxa) Tryz.f11 [.slice (.int .i64)] [.bool] N (l, ()) = hxa N l begL 0 := by kernel_rfl
theorem exa_0 (N : Nat) (l : List Int) (t : List UInt8) (i : Int) : hxa (N + 1) l t i = stepA l t i (fun t' => hxa N l t' (i + 1)) := by kernel_rfl
theorem xa_l (l : List Int) : ∀ (r i N : Nat) (t : List UInt8), r + i = 20 → r < N → t.length + 20 * r ≤ 1000000 → hxa N l t (i : Int) = bO true := by
  intro r
  induction r with
  | zero =>
    intro i N t hi hN ht
    obtain ⟨N, rfl⟩ : ∃ m, N = m + 1 := ⟨N - 1, by omega⟩
    rw [exa_0]
    unfold stepA
    rw [endA_n l (by omega)]
    by_cases h : i < l.length
    · rw [cdT (show (i : Int) < (l.length : Int) by omega), cdF (show ¬ (i : Int) < 20 by omega)]
    · rw [cdF (show ¬ (i : Int) < (l.length : Int) by omega)]
  | succ r ih =>
    intro i N t hi hN ht
    obtain ⟨N, rfl⟩ : ∃ m, N = m + 1 := ⟨N - 1, by omega⟩
    rw [exa_0]
    unfold stepA
    rw [endA_n l (by omega)]
    by_cases h : i < l.length
    · rw [cdT (show (i : Int) < (l.length : Int) by omega), cdT (show (i : Int) < 20 by omega)]
      have hb := pkA_b l (i : Int)
      refine chA_n l t i _ h (by omega) (by omega) (fun a ha => ?_) bitL 0 (by decide) (by decide) hb.1 (by rw [show bitL.length = 16 from rfl]; omega)
      have := ih (i + 1) N (t ++ a) (by omega) (by omega) (by rw [List.length_append]; omega)
      simp only [Int.natCast_add, Int.natCast_one] at this
      exact this
    · rw [cdF (show ¬ (i : Int) < (l.length : Int) by omega)]
theorem lawXAny_n (x : DenL [.slice (.int .i64)]) : olawXAny x = some (true, ()) := by
  obtain ⟨l, ⟨⟩⟩ := x
  rw [olawXAny_g, exa_g]
  exact xa_l l 20 0 heads0 begL (by omega) (by unfold heads0; omega) (by rw [show begL.length = 6 from rfl]; omega)
theorem lawXAny_c : PC 11 (ofO [.slice (.int .i64)] [.bool] olawXAny) := (pureO (envS_ok (l := [(13, trueS), (27, sputS), (28, smayS), (32, sgetS)]) ⟨begun_c, sput_c, smay_c, sget_c, trivial⟩) gl_ne Tryz.func11 (by kernel_rfl) (by decide))
theorem lawXAny_run {w : World} (hgl : GlW glC w) {args : Array Value} {x : DenL [.slice (.int .i64)]} (hx : RdAll (fzW w) [.slice (.int .i64)] x args.toList) (hb : BdL [.slice (.int .i64)] x) : Calls Tryz.prog 11 args w fun e w' => e = .returned (.bool true) ∧ Same w w' :=
  law_calls lawXAny_c (fun x _ => by
    have := lawXAny_n x
    exact ⟨by show (olawXAny x).isSome = true; rw [this]; rfl, by show (olawXAny x).getD _ = _; rw [this]; rfl⟩) hgl hx hb
end Go.Proofs.YtnblkjapeiaedaaGreatDoor
