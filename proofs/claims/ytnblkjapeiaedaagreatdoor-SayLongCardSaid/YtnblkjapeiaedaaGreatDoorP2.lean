/-
  Part of the proof: SayR SayM SayN SayO SayDig SayQ. No condition.
-/
import Derived.Test.YtnblkjapeiaedaaGreatDoorP1
namespace Nice
open Go Go.Eng
/-! ### Lower -/
noncomputable def g3 (l : List UInt8) (i : Int) (r : List Bool) : List Bool := decide (i.toNat < l.length) :: decide (0 ≤ i) :: decide (i < (l.length : Int)) :: r
noncomputable def stepL (l : List UInt8) (i : Int) (nx : List UInt8 → Option (DenL [.str])) : Option (DenL [.str]) :=
  bif decide (i < (l.length : Int)) then
    bif decide (((l.getD i.toNat Ty.byte.dflt).toNat : Int) ≥ 65) then
      bif decide (((l.getD i.toNat Ty.byte.dflt).toNat : Int) ≤ 90) then
        gd (decide (inK .i64 (i + 1)) :: decide (i.toNat < l.length) :: decide (inK .u8 (IntKind.u8.wrap (((l.getD i.toNat Ty.byte.dflt).toNat : Int) + 32))) :: decide (0 ≤ i) :: decide (i < (l.length : Int)) :: g3 l i (g3 l i (g3 l i []))) (nx (l.set i.toNat (UInt8.ofNat (IntKind.u8.wrap (((l.getD i.toNat Ty.byte.dflt).toNat : Int) + 32)).toNat)))
      else gd (decide (inK .i64 (i + 1)) :: g3 l i (g3 l i [])) (nx l)
    else gd (decide (inK .i64 (i + 1)) :: g3 l i []) (nx l)
  else some (l, ())
theorem g3_ok {l : List UInt8} {i : Nat} (h : i < l.length) {r : List Bool} {α : Type} {o : Option α} : gd (g3 l (i : Int) r) o = gd r o := by
  unfold g3
  rw [gdT (show ((i : Int)).toNat < l.length from h), gdT (by omega), gdT (by omega)]
theorem lo_upX {c : UInt8} (h1 : 65 ≤ c.toNat) (h2 : c.toNat ≤ 90) : UInt8.ofNat (IntKind.u8.wrap ((c.toNat : Int) + 32)).toNat = lo c := by
  have : (List.range 256).all (fun n => !(decide (65 ≤ n) && decide (n ≤ 90)) || (UInt8.ofNat (IntKind.u8.wrap (((UInt8.ofNat n).toNat : Int) + 32)).toNat == lo (UInt8.ofNat n))) = true := by kernel_rfl
  have := List.all_eq_true.1 this c.toNat (List.mem_range.2 c.toNat_lt)
  rw [decide_eq_true h1, decide_eq_true h2, UInt8.ofNat_toNat] at this
  exact beq_iff_eq.1 this
theorem lo_sameX {c : UInt8} (h : ¬ (65 ≤ c.toNat ∧ c.toNat ≤ 90)) : lo c = c := by
  unfold lo
  rw [if_neg]
  rintro ⟨a, b⟩
  exact h ⟨UInt8.le_iff_toNat_le.1 a, UInt8.le_iff_toNat_le.1 b⟩
end Nice
namespace Go.Proofs.YtnblkjapeiaedaaGreatDoor
open Go Go.Eng Nice Go.RowKit
set_option maxRecDepth 1000000
abbrev shrlow : List (Nat × List (Nat × Sh)) := [(3, [(2, (.one .sym)), (3, (.one (.vec .byte 5))), (4, (.one .sym))])]
noncomputable def hrlow (n : Nat) (t l : List UInt8) (i : Int) : Option (DenL [.str]) := rH Tryz.prog (envS []) (shOf shrlow) Tryz.f41 [.str] n 0 [(2, sy (.string (bs t))), (3, dt 10), (4, sy (.int .i64 i))] [.vec .byte l 5]
noncomputable def orlow (x : DenL [.str]) : Option (DenL [.str]) := fO Tryz.prog (envS []) (shOf shrlow) Tryz.f41 [.str] [.str] x
theorem orlow_g (x : DenL [.str]) : orlow x = fON Tryz.prog (envS []) (shOf shrlow) Tryz.f41 [.str] [.str] heads0 x := rfl
theorem erlow_g (N : Nat) (s : List UInt8) : fON Tryz.prog (envS []) (shOf shrlow) Tryz.f41 [.str] [.str] N (s, ()) = hrlow N [] s 0 := by kernel_rfl
theorem erlow_0 (n : Nat) (t l : List UInt8) (i : Int) : hrlow (n + 1) t l i = stepL l i fun l' => hrlow n t l' (i + 1) := by kernel_rfl
theorem rlow_l (t : List UInt8) : ∀ (r : List UInt8) (a : List UInt8) (n : Nat), a.length + r.length ≤ 140737488355328 → r.length < n → hrlow n t (a ++ r) (a.length : Int) = some (a ++ lower r, ())
  | [], a, n, hl, hn => by
    obtain ⟨n, rfl⟩ : ∃ k, n = k + 1 := ⟨n - 1, by omega⟩
    rw [erlow_0]
    unfold stepL
    rw [cdF (by rw [List.append_nil]; omega)]; rfl
  | c :: r, a, n, hl, hn => by
    obtain ⟨n, rfl⟩ : ∃ k, n = k + 1 := ⟨n - 1, by simp only [List.length_cons] at hn; omega⟩
    simp only [List.length_cons] at hl hn
    have hlt : a.length < (a ++ c :: r).length := by simp
    have hg : (a ++ c :: r).getD a.length Ty.byte.dflt = c := getD_mid a r c _
    have key := rlow_l t r (a ++ [lo c]) n (by simp; omega) (by omega)
    have e1 : a ++ [lo c] ++ r = a ++ lo c :: r := by simp
    have e2 : a ++ [lo c] ++ lower r = a ++ lower (c :: r) := by simp [lower]
    rw [e1, e2, List.length_append] at key
    simp only [List.length_singleton, Int.natCast_add, Int.natCast_one] at key
    have hi : inK .i64 ((a.length : Int) + 1) := inK_i64.2 ⟨by omega, by omega⟩
    rw [erlow_0]
    unfold stepL
    rw [cdT (by omega), show ((a.length : Int)).toNat = a.length from rfl, hg]
    by_cases h1 : (c.toNat : Int) ≥ 65
    · by_cases h2 : (c.toNat : Int) ≤ 90
      · have hw := lo_upX (c := c) (by omega) (by omega)
        have hu : inK .u8 (IntKind.u8.wrap ((c.toNat : Int) + 32)) := inK_u8.2 (by rw [wrap_u8]; omega)
        rw [cdT h1, cdT h2, gdT hi, gdT hlt, gdT hu, gdT (by omega), gdT (by omega), g3_ok hlt, g3_ok hlt, g3_ok hlt, xG, hw, set_mid]
        exact key
      · rw [lo_sameX (by omega)] at key
        rw [cdT h1, cdF h2, gdT hi, g3_ok hlt, g3_ok hlt, xG]
        exact key
    · rw [lo_sameX (by omega)] at key
      rw [cdF h1, gdT hi, g3_ok hlt, xG]
      exact key
theorem rlow_c : PC 41 lowerS := (pureO (sh := shOf shrlow) (envS_ok (l := []) trivial) gl_ne Tryz.func41 (by kernel_rfl) (by decide)).nice fun ⟨s, ()⟩ h => by
  have hs : s.length ≤ 140737488355328 := of_decide_eq_true h
  show orlow _ = some (lower s, ())
  rw [orlow_g, erlow_g]
  exact rlow_l [] s [] heads0 (by simpa using hs) (by unfold heads0; omega)
end Go.Proofs.YtnblkjapeiaedaaGreatDoor
namespace Nice
open Go Go.Eng
def cH (c : UInt8) (x : Option (DenL [.bool])) : Option (DenL [.bool]) := bif (c.toNat : Int) != 45 then bO false else x
def cD (c : UInt8) (x : Option (DenL [.bool])) : Option (DenL [.bool]) := bif decide ((c.toNat : Int) < 48) then cH c x else bif decide ((c.toNat : Int) > 57) then cH c x else x
def cA (c : UInt8) (x : Option (DenL [.bool])) : Option (DenL [.bool]) := bif decide ((c.toNat : Int) < 97) then cD c x else bif decide ((c.toNat : Int) > 122) then cD c x else x
noncomputable def step1 (nm : List UInt8) (j : Int) (nx nx2 : Option (DenL [.bool])) : Option (DenL [.bool]) :=
  bif decide (j < (nm.length : Int)) then gd [decide (0 ≤ j), decide (j < ((lower nm).length : Int)), lowerP nm] (cA ((lower nm).getD j.toNat 0) (gd [decide (inK .i64 (j + 1))] nx)) else nx2
noncomputable def step2 (v : List UInt8) (i j : Int) (nx nx0 : Option (DenL [.bool])) : Option (DenL [.bool]) :=
  bif decide (j < (v.length : Int)) then
    (bif decide (((v.getD j.toNat 0).toNat : Int) < 32) then gd [decide (0 ≤ j), decide (j < (v.length : Int))] (bO false)
    else bif decide (((v.getD j.toNat 0).toNat : Int) > 126) then gd [decide (0 ≤ j), decide (j < (v.length : Int)), decide (0 ≤ j), decide (j < (v.length : Int))] (bO false)
    else gd [decide (inK .i64 (j + 1)), decide (0 ≤ j), decide (j < (v.length : Int)), decide (0 ≤ j), decide (j < (v.length : Int))] nx)
  else gd [decide (inK .i64 (i + 1))] nx0
noncomputable def cV (nm v : List UInt8) (nx : Option (DenL [.bool])) : Option (DenL [.bool]) :=
  bif !v == [] then
    (bif ((v.getD 0 0).toNat : Int) == 32 then gd [decide ((0 : Int) < (v.length : Int)), lowerP nm] (bO false)
    else bif ((v.getD ((v.length : Int) - 1).toNat 0).toNat : Int) == 32 then gd [decide ((0 : Int) ≤ (v.length : Int) - 1), decide ((v.length : Int) - 1 < (v.length : Int)), decide (inK .i64 ((v.length : Int) - 1)), decide ((0 : Int) < (v.length : Int)), lowerP nm] (bO false)
    else gd [decide ((0 : Int) ≤ (v.length : Int) - 1), decide ((v.length : Int) - 1 < (v.length : Int)), decide (inK .i64 ((v.length : Int) - 1)), decide ((0 : Int) < (v.length : Int)), lowerP nm] nx)
  else gd [lowerP nm] nx
noncomputable def step0 (hs : List HeadD) (i : Int) (nx : HeadD → Option (DenL [.bool])) : Option (DenL [.bool]) :=
  bif decide (i < (hs.length : Int)) then gd [decide (i.toNat < hs.length), decide (0 ≤ i), decide (i < (hs.length : Int)), decide (i.toNat < hs.length), decide (0 ≤ i), decide (i < (hs.length : Int))]
    (bif decide (((hs.getD i.toNat (HeadT).dflt).1.length : Int) < 1) then bO false
    else bif decide (((hs.getD i.toNat (HeadT).dflt).1.length : Int) > 30) then bO false
    else bif decide (((hs.getD i.toNat (HeadT).dflt).2.1.length : Int) > 100) then bO false
    else bif lower (hs.getD i.toNat (HeadT).dflt).1 == clen then gd [lowerP (hs.getD i.toNat (HeadT).dflt).1] (bO false)
    else cV (hs.getD i.toNat (HeadT).dflt).1 (hs.getD i.toNat (HeadT).dflt).2.1 (nx (hs.getD i.toNat (HeadT).dflt)))
  else bO true
def stepM (n : Int) (hs : List HeadD) (b : List UInt8) (nx : Option (DenL [.bool])) : Option (DenL [.bool]) :=
  bif wordsN n == [] then bO false else bif decide ((hs.length : Int) > 10) then bO false else bif decide ((b.length : Int) > 20000) then bO false else bif n == 204 then (bif !b == [] then bO false else nx) else nx
end Nice
namespace Go.Proofs.YtnblkjapeiaedaaGreatDoor
open Go Go.Eng Nice Go.RowKit
set_option maxRecDepth 1000000
abbrev shrmay : List (Nat × List (Nat × Sh)) := [(4, [(1, (.obj [.sym, (.dat (.pair .str (.pair .str .unit))), .sym])), (2, (.one .sym)), (3, (.one .sym))]), (10, [(1, (.obj [.sym, (.dat (.pair .str (.pair .str .unit))), .sym])), (2, (.one .sym)), (3, (.one .sym)), (4, (.one .sym)), (5, (.one .sym)), (6, (.one .sym))]), (16, [(1, (.obj [.sym, (.dat (.pair .str (.pair .str .unit))), .sym])), (2, (.one .sym)), (3, (.one .sym)), (4, (.one .sym)), (5, (.one .sym)), (6, (.one .sym)), (8, (.one .sym))])]
noncomputable def hm0 (k : Nat) (n : Int) (hs : List HeadD) (b : List UInt8) (q : Bool) (i : Int) : Option (DenL [.bool]) := rH Tryz.prog (envS [(21, wordsS), (41, lowerS)]) (shOf shrmay) Tryz.f18 [.bool] k 0 [(1, .pointer (some ⟨11, 0, none⟩)), (2, .bool q), (3, sy (.int .i64 i))] [.dat (.pair .str (.pair .str .unit)) hs, .row [sy (.int .i64 n), dt 10, sy (.string (bs b))] 24 false]
noncomputable def hm1 (k : Nat) (n : Int) (hs : List HeadD) (b : List UInt8) (q : Bool) (i : Int) (nm v : List UInt8) (j : Int) : Option (DenL [.bool]) := rH Tryz.prog (envS [(21, wordsS), (41, lowerS)]) (shOf shrmay) Tryz.f18 [.bool] k 1 [(1, .pointer (some ⟨11, 0, none⟩)), (2, .bool q), (3, sy (.int .i64 i)), (4, sy (.string (bs nm))), (5, sy (.string (bs v))), (6, sy (.int .i64 j))] [.dat (.pair .str (.pair .str .unit)) hs, .row [sy (.int .i64 n), dt 10, sy (.string (bs b))] 24 false]
noncomputable def hm2 (k : Nat) (n : Int) (hs : List HeadD) (b : List UInt8) (q : Bool) (i : Int) (nm v : List UInt8) (j l : Int) : Option (DenL [.bool]) := rH Tryz.prog (envS [(21, wordsS), (41, lowerS)]) (shOf shrmay) Tryz.f18 [.bool] k 2 [(1, .pointer (some ⟨11, 0, none⟩)), (2, .bool q), (3, sy (.int .i64 i)), (4, sy (.string (bs nm))), (5, sy (.string (bs v))), (6, sy (.int .i64 j)), (8, sy (.int .i64 l))] [.dat (.pair .str (.pair .str .unit)) hs, .row [sy (.int .i64 n), dt 10, sy (.string (bs b))] 24 false]
noncomputable def ormay (x : DenL [AnsT]) : Option (DenL [.bool]) := fO Tryz.prog (envS [(21, wordsS), (41, lowerS)]) (shOf shrmay) Tryz.f18 [AnsT] [.bool] x
theorem ormay_g (x : DenL [AnsT]) : ormay x = fON Tryz.prog (envS [(21, wordsS), (41, lowerS)]) (shOf shrmay) Tryz.f18 [AnsT] [.bool] heads0 x := rfl
theorem ermay_g (N : Nat) (n : Int) (hs : List HeadD) (b : List UInt8) : fON Tryz.prog (envS [(21, wordsS), (41, lowerS)]) (shOf shrmay) Tryz.f18 [AnsT] [.bool] N ((n, hs, b, ()), ()) = stepM n hs b (hm0 N n hs b false 0) := by kernel_rfl
theorem em0 (k : Nat) (n : Int) (hs : List HeadD) (b : List UInt8) (q : Bool) (i : Int) : hm0 (k + 1) n hs b q i = step0 hs i fun h => hm1 k n hs b q i h.1 h.2.1 0 := by kernel_rfl
theorem em1 (k : Nat) (n : Int) (hs : List HeadD) (b : List UInt8) (q : Bool) (i : Int) (nm v : List UInt8) (j : Int) : hm1 (k + 1) n hs b q i nm v j = step1 nm j (hm1 k n hs b q i nm v (j + 1)) (hm2 k n hs b q i nm v j 0) := by kernel_rfl
theorem em2 (k : Nat) (n : Int) (hs : List HeadD) (b : List UInt8) (q : Bool) (i : Int) (nm v : List UInt8) (j l : Int) : hm2 (k + 1) n hs b q i nm v j l = step2 v i l (hm2 k n hs b q i nm v j (l + 1)) (hm0 k n hs b q (i + 1)) := by kernel_rfl
end Go.Proofs.YtnblkjapeiaedaaGreatDoor
namespace Nice
open Go Go.Eng
def tB (n : Nat) : Bool := (decide (97 ≤ n) && decide (n ≤ 122)) || (decide (48 ≤ n) && decide (n ≤ 57)) || decide (n = 45)
theorem tB_lo (c : UInt8) : tB (lo c).toNat = tokB c := by
  have : (List.range 256).all (fun n => tB (lo (UInt8.ofNat n)).toNat == tokB (UInt8.ofNat n)) = true := by kernel_rfl
  have := List.all_eq_true.1 this c.toNat (List.mem_range.2 c.toNat_lt)
  rw [UInt8.ofNat_toNat] at this
  exact beq_iff_eq.1 this
theorem cH_eq (c : UInt8) (x : Option (DenL [.bool])) : cH c x = bif decide (c.toNat = 45) then x else bO false := by
  unfold cH bne
  by_cases h : c.toNat = 45
  · rw [show ((c.toNat : Int) == 45) = true from beq_iff_eq.2 (by omega), decide_eq_true h]; rfl
  · rw [show ((c.toNat : Int) == 45) = false from beq_eq_false_iff_ne.2 (by omega), decide_eq_false h]; rfl
theorem cD_eq (c : UInt8) (x : Option (DenL [.bool])) : cD c x = bif (decide (48 ≤ c.toNat) && decide (c.toNat ≤ 57)) || decide (c.toNat = 45) then x else bO false := by
  unfold cD
  by_cases h1 : (c.toNat : Int) < 48
  · rw [cdT h1, cH_eq, decide_eq_false (by omega : ¬ 48 ≤ c.toNat)]; rfl
  · by_cases h2 : (c.toNat : Int) > 57
    · rw [cdF h1, cdT h2, cH_eq, decide_eq_false (by omega : ¬ c.toNat ≤ 57), Bool.and_false]; rfl
    · rw [cdF h1, cdF h2, decide_eq_true (by omega : 48 ≤ c.toNat), decide_eq_true (by omega : c.toNat ≤ 57)]; rfl
theorem cA_eq (c : UInt8) (x : Option (DenL [.bool])) : cA c x = bif tB c.toNat then x else bO false := by
  unfold cA tB
  by_cases h1 : (c.toNat : Int) < 97
  · rw [cdT h1, cD_eq, decide_eq_false (by omega : ¬ 97 ≤ c.toNat)]; rfl
  · by_cases h2 : (c.toNat : Int) > 122
    · rw [cdF h1, cdT h2, cD_eq, decide_eq_false (by omega : ¬ c.toNat ≤ 122), Bool.and_false]; rfl
    · rw [cdF h1, cdF h2, decide_eq_true (by omega : 97 ≤ c.toNat), decide_eq_true (by omega : c.toNat ≤ 122)]; rfl
def endsB (v : List UInt8) : Bool := v == [] || (!((v.getD 0 0).toNat == 32) && !((v.getD (v.length - 1) 0).toNat == 32))
/-- a head, as the document has it -/
def headR (h : HeadD) : Bool := decide (1 ≤ h.1.length) && (decide (h.1.length ≤ 30) && (decide (h.2.1.length ≤ 100) && (!(lower h.1 == clen) && (endsB h.2.1 && (h.1.all tokB && h.2.1.all prB)))))
end Nice
namespace Go.Proofs.YtnblkjapeiaedaaGreatDoor
open Go Go.Eng Nice Go.RowKit
set_option maxRecDepth 1000000
theorem drop_c (s : List UInt8) {i : Nat} (h : i < s.length) : s.drop i = s.getD i 0 :: s.drop (i + 1) := by
  rw [List.drop_eq_getElem_cons h, List.getD_eq_getElem?_getD, List.getElem?_eq_getElem h]; rfl
theorem m2_l (n : Int) (hs : List HeadD) (b : List UInt8) (q : Bool) (i : Int) (nm v : List UInt8) (j : Int) (hv : v.length ≤ 100) (hi : inK .i64 (i + 1)) : ∀ (r l k : Nat), v.length = l + r → r < k → hm2 k n hs b q i nm v j (l : Int) = bif (v.drop l).all prB then hm0 (k - r - 1) n hs b q (i + 1) else bO false := by
  intro r
  induction r with
  | zero =>
    intro l k hl hk
    obtain ⟨k, rfl⟩ : ∃ m, k = m + 1 := ⟨k - 1, by omega⟩
    rw [em2]
    unfold step2
    rw [cdF (by omega), gdT hi, xG, List.drop_eq_nil_of_le (by omega)]; rfl
  | succ r ih =>
    intro l k hl hk
    obtain ⟨k, rfl⟩ : ∃ m, k = m + 1 := ⟨k - 1, by omega⟩
    have key := ih (l + 1) k (by omega) (by omega)
    simp only [Int.natCast_add, Int.natCast_one] at key
    rw [em2]
    unfold step2
    rw [cdT (by omega), show (l : Int).toNat = l from rfl, drop_c v (by omega), List.all_cons]
    have hp : prB (v.getD l 0) = (decide (32 ≤ (v.getD l 0).toNat) && decide ((v.getD l 0).toNat ≤ 126)) := by
      unfold prB; rw [Bool.eq_iff_iff, Bool.and_eq_true, decide_eq_true_iff, decide_eq_true_iff, decide_eq_true_iff]
    rw [hp]
    by_cases h1 : ((v.getD l 0).toNat : Int) < 32
    · rw [cdT h1, gdT (by omega), gdT (by omega), xG, decide_eq_false (by omega : ¬ 32 ≤ (v.getD l 0).toNat)]; rfl
    · by_cases h2 : ((v.getD l 0).toNat : Int) > 126
      · rw [cdF h1, cdT h2, gdT (by omega), gdT (by omega), gdT (by omega), gdT (by omega), xG, decide_eq_false (by omega : ¬ (v.getD l 0).toNat ≤ 126), Bool.and_false]; rfl
      · rw [cdF h1, cdF h2, gdT (inK_i64.2 ⟨by omega, by omega⟩), gdT (by omega), gdT (by omega), gdT (by omega), gdT (by omega), xG, decide_eq_true (by omega : 32 ≤ (v.getD l 0).toNat), decide_eq_true (by omega : (v.getD l 0).toNat ≤ 126), key]
        simp only [Bool.true_and]
        rw [show k + 1 - (r + 1) - 1 = k - r - 1 by omega]
theorem low_len (s : List UInt8) : (lower s).length = s.length := by unfold lower; rw [List.length_map]
theorem low_get (s : List UInt8) {i : Nat} (h : i < s.length) : (lower s).getD i 0 = lo (s.getD i 0) := by
  unfold lower
  rw [List.getD_eq_getElem?_getD, List.getElem?_map, List.getElem?_eq_getElem h, List.getD_eq_getElem?_getD, List.getElem?_eq_getElem h]; rfl
theorem m1_l (n : Int) (hs : List HeadD) (b : List UInt8) (q : Bool) (i : Int) (nm v : List UInt8) (hn : nm.length ≤ 30) : ∀ (r j k : Nat), nm.length = j + r → r < k → hm1 k n hs b q i nm v (j : Int) = bif (nm.drop j).all tokB then hm2 (k - r - 1) n hs b q i nm v (nm.length : Int) 0 else bO false := by
  have hlp : lowerP nm = true := decide_eq_true (by omega)
  intro r
  induction r with
  | zero =>
    intro j k hj hk
    obtain ⟨k, rfl⟩ : ∃ m, k = m + 1 := ⟨k - 1, by omega⟩
    rw [em1]
    unfold step1
    rw [cdF (by omega), List.drop_eq_nil_of_le (by omega), show (j : Int) = (nm.length : Int) by omega]; rfl
  | succ r ih =>
    intro j k hj hk
    obtain ⟨k, rfl⟩ : ∃ m, k = m + 1 := ⟨k - 1, by omega⟩
    have key := ih (j + 1) k (by omega) (by omega)
    simp only [Int.natCast_add, Int.natCast_one] at key
    rw [em1]
    unfold step1
    rw [cdT (by omega), show (j : Int).toNat = j from rfl, gdT (by omega), gdT (by rw [low_len]; omega), gdB hlp, xG, low_get nm (by omega), cA_eq, tB_lo, drop_c nm (by omega), List.all_cons, gdT (inK_i64.2 ⟨by omega, by omega⟩), xG, key]
    cases tokB (nm.getD j 0)
    · rfl
    · rw [xT, Bool.true_and, show k + 1 - (r + 1) - 1 = k - r - 1 by omega]
end Go.Proofs.YtnblkjapeiaedaaGreatDoor
namespace Nice
open Go Go.Eng
theorem dw_len (p : UInt8 → Bool) (l : List UInt8) : (l.dropWhile p).length ≤ l.length := (List.dropWhile_sublist p).length_le
theorem n32 {c : UInt8} (h : ¬ c = 32) : (c.toNat == 32) = false := beq_eq_false_iff_ne.2 fun e => h (UInt8.toNat_inj.1 e)
theorem trim_ends (v : List UInt8) : (trim1 v == v) = endsB v := by
  unfold trim1 Lib.trimB Lib.trimLeftB Lib.trimRightB endsB
  cases hr : v.reverse with
  | nil => have : v = [] := List.reverse_eq_nil_iff.1 hr; subst this; rfl
  | cons d m =>
    have hv : v = m.reverse ++ [d] := by rw [← List.reverse_reverse v, hr, List.reverse_cons]
    have hl : v.length = m.length + 1 := by rw [hv]; simp
    have hd : v.getD (v.length - 1) 0 = d := by
      rw [hl, hv, List.getD_eq_getElem?_getD, List.getElem?_append_right (by simp)]; simp
    have hne : (v == []) = false := by rw [hv]; cases m.reverse <;> rfl
    rw [hd, hne, Bool.false_or, List.dropWhile_cons]
    by_cases e : d = 32
    · subst e
      rw [if_pos (show ((32 : UInt8) == 32) = true from rfl)]
      have hn : List.dropWhile (fun x => x == 32) (List.dropWhile (fun x => x == 32) m).reverse ≠ v := fun h => by
        have h1 := congrArg List.length h
        have h2 := dw_len (fun x => x == 32) (List.dropWhile (fun x => x == 32) m).reverse
        have h3 := dw_len (fun x => x == 32) m
        rw [List.length_reverse] at h2
        omega
      rw [beq_eq_false_iff_ne.2 hn]
      show false = (_ && false)
      rw [Bool.and_false]
    · rw [if_neg (by rw [beq_iff_eq]; exact e), n32 e, ← hr, List.reverse_reverse, Bool.not_false, Bool.and_true]
      cases v with
      | nil => cases hne
      | cons c r =>
        show (List.dropWhile (fun x => x == 32) (c :: r) == c :: r) = !(c.toNat == 32)
        rw [List.dropWhile_cons]
        by_cases f : c = 32
        · subst f
          rw [if_pos (show ((32 : UInt8) == 32) = true from rfl)]
          have hn : List.dropWhile (fun x => x == 32) r ≠ 32 :: r := fun h => by
            have h1 := congrArg List.length h
            have h2 := dw_len (fun x => x == 32) r
            rw [List.length_cons] at h1
            omega
          rw [beq_eq_false_iff_ne.2 hn]; rfl
        · rw [if_neg (by rw [beq_iff_eq]; exact f), n32 f, beq_self_eq_true]; rfl
theorem headR_eq (h : HeadD) : headR h = headB h := by
  unfold headR headB
  rw [trim_ends, Bool.eq_iff_iff]
  simp only [Bool.and_eq_true, decide_eq_true_eq]
  constructor
  · rintro ⟨a, b, c, d, e, f, g⟩; exact ⟨⟨⟨a, b⟩, f, d⟩, c, g, e⟩
  · rintro ⟨⟨⟨a, b⟩, f, d⟩, c, g, e⟩; exact ⟨a, b, c, d, e, f, g⟩
theorem i32 (c : UInt8) : ((c.toNat : Int) == 32) = (c.toNat == 32) := by
  by_cases h : c.toNat = 32
  · rw [h]; rfl
  · rw [beq_eq_false_iff_ne.2 h, beq_eq_false_iff_ne.2 (fun e => h (by omega))]
theorem cV_eq {nm v : List UInt8} (hn : nm.length ≤ 30) (hv : v.length ≤ 100) (x : Option (DenL [.bool])) : cV nm v x = bif endsB v then x else bO false := by
  have hlp : lowerP nm = true := decide_eq_true (by omega)
  unfold cV endsB
  by_cases e : v = []
  · subst e
    show gd [lowerP nm] x = x
    rw [gdB hlp, xG]
  · have hl : 0 < v.length := List.length_pos_iff.2 e
    rw [beq_eq_false_iff_ne.2 e, Bool.not_false, xT, Bool.false_or, i32, i32, show ((v.length : Int) - 1).toNat = v.length - 1 by omega]
    cases (v.getD 0 0).toNat == 32
    · rw [xF]
      cases (v.getD (v.length - 1) 0).toNat == 32
      · rw [xF, gdT (by omega), gdT (by omega), gdT (inK_i64.2 ⟨by omega, by omega⟩), gdT (by omega), gdB hlp, xG]; rfl
      · rw [xT, gdT (by omega), gdT (by omega), gdT (inK_i64.2 ⟨by omega, by omega⟩), gdT (by omega), gdB hlp, xG]; rfl
    · rw [xT, gdT (by omega), gdB hlp, xG]; rfl
theorem all_any (l : List HeadD) : l.all headR = !anyN l := by
  unfold anyN
  induction l with
  | nil => rfl
  | cons a l ih => rw [List.all_cons, List.any_cons, ih, headR_eq, Bool.not_or, Bool.not_not]
end Nice
namespace Go.Proofs.YtnblkjapeiaedaaGreatDoor
open Go Go.Eng Nice Go.RowKit
set_option maxRecDepth 1000000
theorem dropH (l : List HeadD) {i : Nat} (h : i < l.length) : l.drop i = l.getD i (HeadT).dflt :: l.drop (i + 1) := by
  rw [List.drop_eq_getElem_cons h, List.getD_eq_getElem?_getD, List.getElem?_eq_getElem h]; rfl
theorem m0_l (n : Int) (hs : List HeadD) (b : List UInt8) (q : Bool) (hb : hs.length ≤ 10) : ∀ (r i k : Nat), hs.length = i + r → 200 * r < k → hm0 k n hs b q (i : Int) = bO ((hs.drop i).all headR) := by
  intro r
  induction r with
  | zero =>
    intro i k hi hk
    obtain ⟨k, rfl⟩ : ∃ m, k = m + 1 := ⟨k - 1, by omega⟩
    rw [em0]
    unfold step0
    rw [cdF (by omega), List.drop_eq_nil_of_le (by omega)]; rfl
  | succ r ih =>
    intro i k hi hk
    obtain ⟨k, rfl⟩ : ∃ m, k = m + 1 := ⟨k - 1, by omega⟩
    have hlt : i < hs.length := by omega
    have h64 : inK .i64 ((i : Int) + 1) := inK_i64.2 ⟨by omega, by omega⟩
    rw [em0]
    unfold step0
    rw [cdT (by omega), show (i : Int).toNat = i from rfl, gdT hlt, gdT (by omega), gdT (by omega), gdT hlt, gdT (by omega), gdT (by omega), xG, dropH hs hlt, List.all_cons]
    generalize hs.getD i (HeadT).dflt = h
    obtain ⟨nm, v, ⟨⟩⟩ := h
    unfold headR
    dsimp only
    by_cases a1 : 1 ≤ nm.length
    · by_cases a2 : nm.length ≤ 30
      · by_cases a3 : v.length ≤ 100
        · have hlp : lowerP nm = true := decide_eq_true (by omega)
          rw [cdF (by omega), cdF (by omega), cdF (by omega), decide_eq_true a1, decide_eq_true a2, decide_eq_true a3, cV_eq a2 a3]
          have k1 := m1_l n hs b q i nm v a2 nm.length 0 k (by omega) (by omega)
          have k2 := m2_l n hs b q i nm v (nm.length : Int) a3 h64 v.length 0 (k - nm.length - 1) (by omega) (by omega)
          have k3 := ih (i + 1) (k - nm.length - 1 - v.length - 1) (by omega) (by omega)
          simp only [Int.natCast_add, Int.natCast_one] at k3
          rw [k3] at k2
          have k1 : hm1 k n hs b q i nm v 0 = bif nm.all tokB then hm2 (k - nm.length - 1) n hs b q i nm v (nm.length : Int) 0 else bO false := k1
          have k2 : hm2 (k - nm.length - 1) n hs b q i nm v (nm.length : Int) 0 = bif v.all prB then bO ((hs.drop (i + 1)).all headR) else bO false := k2
          rw [k1, k2]
          cases lower nm == clen
          · rw [xF]
            cases endsB v
            · rfl
            · cases nm.all tokB
              · rfl
              · cases v.all prB <;> rfl
          · rw [xT, gdB hlp, xG]; rfl
        · rw [cdF (by omega), cdF (by omega), cdT (by omega), decide_eq_true a1, decide_eq_true a2, decide_eq_false a3]; rfl
      · rw [cdF (by omega), cdT (by omega), decide_eq_true a1, decide_eq_false a2]; rfl
    · rw [cdT (by omega), decide_eq_false a1]; rfl
theorem rmay_n (n : Int) (hs : List HeadD) (b : List UInt8) : stepM n hs b (hm0 heads0 n hs b false 0) = some (amayB (n, hs, b, ()), ()) := by
  unfold stepM amayB
  dsimp only
  cases hw : wordsN n == []
  · rw [xF]
    by_cases a : hs.length ≤ 10
    · by_cases c : b.length ≤ 20000
      · rw [cdF (by omega), cdF (by omega), decide_eq_true a, decide_eq_true c, show hm0 heads0 n hs b false 0 = bO (hs.all headR) from m0_l n hs b false a hs.length 0 heads0 (by omega) (by unfold heads0; omega), all_any]
        cases n == 204
        · rw [xF]; cases anyN hs <;> rfl
        · rw [xT]; cases b == [] <;> cases anyN hs <;> rfl
      · rw [cdF (by omega), cdT (by omega), decide_eq_false c, Bool.false_and, Bool.and_false, Bool.and_false, Bool.and_false]; rfl
    · rw [cdT (by omega), decide_eq_false a, Bool.false_and, Bool.and_false]; rfl
  · rw [xT]; rfl
theorem rmay_c : PC 18 amayAS := (pureO (sh := shOf shrmay) (envS_ok (l := [(21, wordsS), (41, lowerS)]) ⟨rwords_c, rlow_c, trivial⟩) gl_ne Tryz.func18 (by kernel_rfl) (by decide)).nice fun ⟨⟨n, hs, b, ()⟩, ()⟩ _ => by
  show ormay _ = _
  rw [ormay_g, ermay_g]
  exact rmay_n n hs b
end Go.Proofs.YtnblkjapeiaedaaGreatDoor
namespace Go.Proofs.YtnblkjapeiaedaaGreatDoor
open Go Go.Eng Nice
set_option maxRecDepth 1000000
abbrev shrdigits : List (Nat × List (Nat × Sh)) := [(2, [(0, (.one .sym)), (2, (.one .sym)), (3, (.one .sym))])]
noncomputable def hrdigits_0 (n : Nat) (t0 : Int) (t2 : List UInt8) (t3 : List UInt8) : Option (DenL [.str]) := rH Tryz.prog (envS []) (shOf shrdigits) Tryz.f57 [.str] n 0 [(0, sy (.int .u64 t0)), (2, sy (.string (bs t2))), (3, sy (.string (bs t3)))] []
noncomputable def ordigits (x : DenL [.int .u64]) : Option (DenL [.str]) := fO Tryz.prog (envS []) (shOf shrdigits) Tryz.f57 [.int .u64] [.str] x
theorem erdigits_g (N : Nat) (x0 : Int) : fON Tryz.prog (envS []) (shOf shrdigits) Tryz.f57 [.int .u64] [.str] N (x0, ()) =
  (hrdigits_0 N (x0) ([]) ([])) := by kernel_rfl
theorem erdigits (x0 : Int) : ordigits (x0, ()) =
  (hrdigits_0 heads0 (x0) ([]) ([])) := erdigits_g heads0 x0
theorem erdigits_0 (n : Nat) (t0 : Int) (t2 : List UInt8) (t3 : List UInt8) : hrdigits_0 (n + 1) t0 t2 t3 =
  (gd [decide ([UInt8.ofNat (IntKind.u8.wrap (IntKind.u64.wrap ((48 : Int) + t0.tmod ((10 : Int))))).toNat].length + t3.length ≤ 1099511627776)] (bif IntKind.u64.wrap (t0.tdiv ((10 : Int))) == (0 : Int) then
    (some ([UInt8.ofNat (IntKind.u8.wrap (IntKind.u64.wrap ((48 : Int) + t0.tmod ((10 : Int))))).toNat] ++ t3, PUnit.unit))
  else
    (hrdigits_0 n (IntKind.u64.wrap (t0.tdiv ((10 : Int)))) (t2) ([UInt8.ofNat (IntKind.u8.wrap (IntKind.u64.wrap ((48 : Int) + t0.tmod ((10 : Int))))).toNat] ++ t3)))) := by kernel_rfl
abbrev shrDigits : List (Nat × List (Nat × Sh)) := []
noncomputable def orDigits (x : DenL [.int .i64]) : Option (DenL [.str]) := fO Tryz.prog (envS [(57, digsS)]) (shOf shrDigits) Tryz.f34 [.int .i64] [.str] x
theorem erDigits_g (N : Nat) (x0 : Int) : fON Tryz.prog (envS [(57, digsS)]) (shOf shrDigits) Tryz.f34 [.int .i64] [.str] N (x0, ()) =
  (bif decide (x0 < (0 : Int)) then
    (gd [decide (1 + (digs (IntKind.u64.wrap (IntKind.u64.wrap ((0 : Int) - (x0 + (1 : Int))) + (1 : Int)))).length ≤ 1099511627776), decide ((0 : Int) ≤ IntKind.u64.wrap (IntKind.u64.wrap ((0 : Int) - (x0 + (1 : Int))) + (1 : Int))) && decide (IntKind.u64.wrap (IntKind.u64.wrap ((0 : Int) - (x0 + (1 : Int))) + (1 : Int)) < (18446744073709551616 : Int)), decide (inK IntKind.i64 ((0 : Int) - (x0 + (1 : Int)))), decide (inK IntKind.i64 (x0 + (1 : Int)))] (some ([45] ++ digs (IntKind.u64.wrap (IntKind.u64.wrap ((0 : Int) - (x0 + (1 : Int))) + (1 : Int))), PUnit.unit)))
  else
    (gd [decide ((0 : Int) ≤ IntKind.u64.wrap x0) && decide (IntKind.u64.wrap x0 < (18446744073709551616 : Int))] (some (digs (IntKind.u64.wrap x0), PUnit.unit)))) := by kernel_rfl
theorem erDigits (x0 : Int) : orDigits (x0, ()) =
  (bif decide (x0 < (0 : Int)) then
    (gd [decide (1 + (digs (IntKind.u64.wrap (IntKind.u64.wrap ((0 : Int) - (x0 + (1 : Int))) + (1 : Int)))).length ≤ 1099511627776), decide ((0 : Int) ≤ IntKind.u64.wrap (IntKind.u64.wrap ((0 : Int) - (x0 + (1 : Int))) + (1 : Int))) && decide (IntKind.u64.wrap (IntKind.u64.wrap ((0 : Int) - (x0 + (1 : Int))) + (1 : Int)) < (18446744073709551616 : Int)), decide (inK IntKind.i64 ((0 : Int) - (x0 + (1 : Int)))), decide (inK IntKind.i64 (x0 + (1 : Int)))] (some ([45] ++ digs (IntKind.u64.wrap (IntKind.u64.wrap ((0 : Int) - (x0 + (1 : Int))) + (1 : Int))), PUnit.unit)))
  else
    (gd [decide ((0 : Int) ≤ IntKind.u64.wrap x0) && decide (IntKind.u64.wrap x0 < (18446744073709551616 : Int))] (some (digs (IntKind.u64.wrap x0), PUnit.unit)))) := erDigits_g heads0 x0
theorem beT {α : Type} {n m : Int} {a b : α} (h : n = m) : (bif n == m then a else b) = a := by subst h; rw [show (n == n) = true from beq_self_eq_true n]; rfl
theorem beF {α : Type} {n m : Int} {a b : α} (h : n ≠ m) : (bif n == m then a else b) = b := by rw [show (n == m) = false from beq_eq_false_iff_ne.2 h]; rfl
theorem digsF_len : ∀ (f n : Nat) (acc : List UInt8), (digsF f n acc).length ≤ f + acc.length
  | 0, n, acc => by simp [digsF]
  | f + 1, n, acc => by
    simp only [digsF]
    split
    · simp; omega
    · have := digsF_len f (n / 10) (UInt8.ofNat (48 + n % 10) :: acc)
      simp only [List.length_cons] at this
      omega
theorem u64w {n : Int} (h0 : 0 ≤ n) (h1 : n < 18446744073709551616) : IntKind.u64.wrap n = n := by
  show n % 18446744073709551616 = n
  exact Int.emod_eq_of_lt h0 h1
theorem rdigits_l (t2 : List UInt8) : ∀ (f n : Nat) (u : Nat) (acc : List UInt8), u < 18446744073709551616 → u < 10 ^ f → acc.length ≤ 100 - f → f ≤ 20 → 0 < f → f < n → hrdigits_0 n (u : Int) t2 acc = some (digsF f u acc, ())
  | 0, n, u, acc, _, _, _, _, h0, _ => absurd h0 (Nat.lt_irrefl 0)
  | f + 1, n, u, acc, hu, h10, hl, hf, _, hn => by
    obtain ⟨m, rfl⟩ : ∃ m, n = m + 1 := ⟨n - 1, by omega⟩
    have e1 : (u : Int).tmod 10 = ((u % 10 : Nat) : Int) := rfl
    have e2 : (u : Int).tdiv 10 = ((u / 10 : Nat) : Int) := rfl
    have e3 : UInt8.ofNat (IntKind.u8.wrap (IntKind.u64.wrap ((48 : Int) + ((u % 10 : Nat) : Int)))).toNat = UInt8.ofNat (48 + u % 10) := by
      rw [u64w (by omega) (by omega), wrap_u8]
      congr 1
      omega
    rw [erdigits_0]
    simp only [e1, e2, e3, List.length_singleton]
    rw [gdT (by omega), gd_nil, u64w (by omega) (by omega)]
    simp only [digsF]
    by_cases h : u / 10 = 0
    · rw [if_pos h, beT (by omega)]; rfl
    · rw [if_neg h, beF (by omega)]
      have hf0 : 0 < f := by
        rcases Nat.eq_zero_or_pos f with h' | h'
        · subst h'; simp at h10; omega
        · exact h'
      exact rdigits_l t2 f m (u / 10) (UInt8.ofNat (48 + u % 10) :: acc) (by omega) (by rw [Nat.pow_succ] at h10; omega) (by simp; omega) (by omega) hf0 (by omega)
theorem rdigits_n (u : Int) (h : (decide (0 ≤ u) && decide (u < 18446744073709551616)) = true) : ordigits (u, ()) = some (digs u, ()) := by
  rw [Bool.and_eq_true, decide_eq_true_eq, decide_eq_true_eq] at h
  obtain ⟨n, rfl⟩ : ∃ n : Nat, u = (n : Int) := ⟨u.toNat, by omega⟩
  rw [erdigits]
  have := rdigits_l [] 20 heads0 n [] (by omega) (by omega) (by simp) (by omega) (by omega) (by unfold heads0; omega)
  simpa [digs] using this
theorem digs_len (u : Int) : (digs u).length ≤ 20 := by
  have := digsF_len 20 u.toNat []
  simpa [digs] using this
theorem rDigits_n (n : Int) (h : (decide (-9223372036854775808 ≤ n) && decide (n ≤ 9223372036854775807)) = true) : orDigits (n, ()) = some (digits n, ()) := by
  rw [Bool.and_eq_true, decide_eq_true_eq, decide_eq_true_eq] at h
  rw [erDigits]
  unfold digits
  by_cases h0 : n < 0
  · rw [cdT h0, if_pos h0]
    have i1 : IntKind.u64.wrap ((0 : Int) - (n + 1)) = 0 - (n + 1) := u64w (by omega) (by omega)
    have e : IntKind.u64.wrap (IntKind.u64.wrap ((0 : Int) - (n + 1)) + 1) = -n := by
      rw [i1, u64w (by omega) (by omega)]; omega
    rw [e]
    have hl := digs_len (-n)
    rw [gdT (by omega), gdB (by rw [decide_eq_true (by omega), decide_eq_true (by omega)]; rfl), gdT (by rw [inK_i64]; omega), gdT (by rw [inK_i64]; omega), gd_nil]
    rfl
  · rw [cdF h0, if_neg h0, u64w (by omega) (by omega), gdB (by rw [decide_eq_true (by omega), decide_eq_true (by omega)]; rfl), gd_nil]
theorem digs_c : PC 57 digsS := (pureO (envS_ok (l := []) trivial) gl_ne Tryz.func57 (by kernel_rfl) (by decide)).nice fun ⟨u, ()⟩ h => rdigits_n u h
theorem digits_c : PC 34 digitsS := (pureO (envS_ok (l := [(57, digsS)]) ⟨digs_c, trivial⟩) gl_ne Tryz.func34 (by kernel_rfl) (by decide)).nice fun ⟨n, ()⟩ h => rDigits_n n h
end Go.Proofs.YtnblkjapeiaedaaGreatDoor
namespace Nice
open Go Go.Eng
theorem digsF_dec : ∀ (f n : Nat) (acc : List UInt8), n < 10 ^ f → 0 < f → digsF f n acc = Lib.decDigits n ++ acc
  | 0, n, acc, _, h => absurd h (Nat.lt_irrefl 0)
  | f + 1, n, acc, h, _ => by
    rw [Lib.decDigits]
    unfold digsF
    by_cases e : n < 10
    · rw [if_pos (by omega), dif_pos e, show n % 10 = n by omega]; rfl
    · have h1 : n / 10 < 10 ^ f := by rw [Nat.pow_succ] at h; omega
      have h2 : 0 < f := by
        rcases Nat.eq_zero_or_pos f with h' | h'
        · subst h'; simp at h; omega
        · exact h'
      rw [if_neg (by omega), dif_neg e, digsF_dec f (n / 10) _ h1 h2, List.append_assoc]; rfl
theorem digits_fmt {n : Int} (h : i64P n = true) : digits n = fmtN n := by
  unfold i64P at h
  rw [Bool.and_eq_true, decide_eq_true_eq, decide_eq_true_eq] at h
  unfold digits digs
  show _ = Lib.itoa n
  unfold Lib.itoa
  by_cases e : n < 0
  · rw [if_pos e, if_pos e, digsF_dec 20 _ _ (by omega) (by omega), List.append_nil, show (-n).toNat = n.natAbs by omega]
  · rw [if_neg e, if_neg e, digsF_dec 20 _ _ (by omega) (by omega), List.append_nil]
def lenD (k : Int) : List UInt8 := lenW0 ++ digits k ++ [13, 10]
def statD (n : Int) : List UInt8 := lineB ++ digits n ++ [32] ++ wordsN n ++ [13, 10]
def finQ (c : Bool) (n : Int) (b t : List UInt8) : Option (DenL [.str]) :=
  bif n != 204 then gd [decide ((t ++ lenD (b.length : Int)).length + 2 ≤ 1099511627776), decide (t.length + (lenD (b.length : Int)).length ≤ 1099511627776), decide ((lenW0 ++ digits (b.length : Int)).length + 2 ≤ 1099511627776), decide (16 + (digits (b.length : Int)).length ≤ 1099511627776), i64P (b.length : Int)]
    (bif c then some (t ++ lenD (b.length : Int) ++ [13, 10], ()) else gd [decide ((t ++ lenD (b.length : Int) ++ [13, 10]).length + b.length ≤ 1099511627776)] (some (t ++ lenD (b.length : Int) ++ [13, 10] ++ b, ())))
  else gd [decide (t.length + 2 ≤ 1099511627776)] (bif c then some (t ++ [13, 10], ()) else gd [decide ((t ++ [13, 10]).length + b.length ≤ 1099511627776)] (some (t ++ [13, 10] ++ b, ())))
noncomputable def stepQ (c : Bool) (n : Int) (b t : List UInt8) (l : List HeadD) (i : Int) (next : Option (DenL [.str])) : Option (DenL [.str]) :=
  bif decide (i < (l.length : Int)) then gd [decide (inK .i64 (i + 1)), decide (t.length + (hdT (l.getD i.toNat (HeadT).dflt)).length ≤ 1099511627776), decide (((l.getD i.toNat (HeadT).dflt).1 ++ [58, 32] ++ (l.getD i.toNat (HeadT).dflt).2.1).length + 2 ≤ 1099511627776), decide (((l.getD i.toNat (HeadT).dflt).1 ++ [58, 32]).length + (l.getD i.toNat (HeadT).dflt).2.1.length ≤ 1099511627776), decide (i.toNat < l.length), decide (0 ≤ i), decide (i < (l.length : Int)), decide ((l.getD i.toNat (HeadT).dflt).1.length + 2 ≤ 1099511627776), decide (i.toNat < l.length), decide (0 ≤ i), decide (i < (l.length : Int))] next
  else finQ c n b t
theorem finQ_n {c : Bool} {n : Int} {b t : List UInt8} (hb : b.length ≤ 20000) (ht : t.length ≤ 100000) : finQ c n b t = some (t ++ endT n b c, ()) := by
  have h0 := i64_nat hb
  have h1 := itoa_20 hb
  have h2 : lenW0.length = 16 := rfl
  have h4 : lenD (b.length : Int) = lenT (b.length : Int) := by unfold lenD lenT; rw [digits_fmt h0]
  have h3 : (lenT (b.length : Int)).length ≤ 40 := by
    unfold lenT
    simp only [List.length_append, List.length_cons, List.length_nil]; omega
  unfold finQ endT
  rw [h4, digits_fmt h0]
  cases n != 204
  · rw [xF, xF, gdT (by omega), xG]
    cases c
    · rw [xF, xF, gdT (by simp only [List.length_append, List.length_cons, List.length_nil]; omega), xG, List.append_assoc]
    · rw [xT, xT, List.append_nil]
  · rw [xT, xT, gdT (by rw [List.length_append]; omega), gdT (by omega), gdT (by rw [List.length_append]; omega), gdT (by omega), gdB h0, xG]
    cases c
    · rw [xF, xF, gdT (by simp only [List.length_append, List.length_cons, List.length_nil]; omega), xG]; simp only [List.append_assoc]
    · rw [xT, xT, List.append_nil]; simp only [List.append_assoc]
end Nice
namespace Go.Proofs.YtnblkjapeiaedaaGreatDoor
open Go Go.Eng Nice Go.RowKit
set_option maxRecDepth 1000000
abbrev shrput : List (Nat × List (Nat × Sh)) := [(5, [(1, (.one .sym)), (2, (.obj [.sym, (.dat (.pair .str (.pair .str .unit))), .sym])), (4, (.one .sym)), (5, (.one .sym)), (6, (.one .sym))])]
noncomputable def hrput (k : Nat) (c : Bool) (n : Int) (hs : List HeadD) (b l t : List UInt8) (i : Int) : Option (DenL [.str]) := rH Tryz.prog (envS [(18, amayAS), (21, wordsS), (34, digitsS)]) (shOf shrput) Tryz.f19 [.str] k 0 [(1, .bool c), (2, .pointer (some ⟨11, 0, none⟩)), (4, sy (.string (bs l))), (5, sy (.string (bs t))), (6, sy (.int .i64 i))] [.dat (.pair .str (.pair .str .unit)) hs, .row [sy (.int .i64 n), dt 10, sy (.string (bs b))] 24 false]
noncomputable def orput (x : DenL [AnsT, .bool]) : Option (DenL [.str]) := fO Tryz.prog (envS [(18, amayAS), (21, wordsS), (34, digitsS)]) (shOf shrput) Tryz.f19 [AnsT, .bool] [.str] x
theorem orput_g (x : DenL [AnsT, .bool]) : orput x = fON Tryz.prog (envS [(18, amayAS), (21, wordsS), (34, digitsS)]) (shOf shrput) Tryz.f19 [AnsT, .bool] [.str] heads0 x := rfl
theorem erput_g (N : Nat) (n : Int) (hs : List HeadD) (b : List UInt8) (c : Bool) : fON Tryz.prog (envS [(18, amayAS), (21, wordsS), (34, digitsS)]) (shOf shrput) Tryz.f19 [AnsT, .bool] [.str] N ((n, hs, b, ()), c, ()) =
  (bif amayB (n, hs, b, ()) then gd [decide ((lineB ++ digits n ++ [32] ++ wordsN n).length + 2 ≤ 1099511627776), decide ((lineB ++ digits n ++ [32]).length + (wordsN n).length ≤ 1099511627776), decide ((lineB ++ digits n).length + 1 ≤ 1099511627776), decide (9 + (digits n).length ≤ 1099511627776), i64P n, aputP (n, hs, b, ())] (hrput N c n hs b [] (statD n) 0)
   else gd [aputP (n, hs, b, ())] (some ([], ()))) := by kernel_rfl
theorem erput_0 (k : Nat) (c : Bool) (n : Int) (hs : List HeadD) (b l t : List UInt8) (i : Int) : hrput (k + 1) c n hs b l t i = stepQ c n b t hs i (hrput k c n hs b l (t ++ hdT (hs.getD i.toNat (HeadT).dflt)) (i + 1)) := by kernel_rfl
theorem rput_l (c : Bool) (n : Int) (ls : List HeadD) (b l : List UInt8) (hb : b.length ≤ 20000) (hl : ls.length ≤ 10) (hh : ∀ x, x ∈ ls → headB x = true) : ∀ (r i k : Nat) (t : List UInt8), ls.length = i + r → r < k → t.length ≤ 1000 + 200 * i → hrput k c n ls b l t (i : Int) = some (t ++ hdsT (ls.drop i) ++ endT n b c, ()) := by
  intro r
  induction r with
  | zero =>
    intro i k t hi hk ht
    obtain ⟨k, rfl⟩ : ∃ m, k = m + 1 := ⟨k - 1, by omega⟩
    rw [erput_0]
    unfold stepQ
    rw [cdF (by omega), finQ_n hb (by omega), List.drop_eq_nil_of_le (by omega)]
    show _ = some (t ++ [] ++ _, ())
    rw [List.append_nil]
  | succ r ih =>
    intro i k t hi hk ht
    obtain ⟨k, rfl⟩ : ∃ m, k = m + 1 := ⟨k - 1, by omega⟩
    have hlt : i < ls.length := by omega
    have hd : ls.drop i = ls.getD i (HeadT).dflt :: ls.drop (i + 1) := by
      rw [List.drop_eq_getElem_cons hlt, List.getD_eq_getElem?_getD, List.getElem?_eq_getElem hlt]; rfl
    have hx : headB (ls.getD i (HeadT).dflt) = true := hh _ (by
      rw [List.getD_eq_getElem?_getD, List.getElem?_eq_getElem hlt]; exact List.getElem_mem hlt)
    obtain ⟨l1, l2⟩ := headB_len hx
    have l3 : (hdT (ls.getD i (HeadT).dflt)).length ≤ 200 := by
      unfold hdT
      simp only [List.length_append, List.length_cons, List.length_nil]; omega
    have := ih (i + 1) k (t ++ hdT (ls.getD i (HeadT).dflt)) (by omega) (by omega) (by rw [List.length_append]; omega)
    simp only [Int.natCast_add, Int.natCast_one] at this
    rw [erput_0]
    unfold stepQ
    rw [cdT (by omega), show (i : Int).toNat = i from rfl, gdT (inK_i64.2 ⟨by omega, by omega⟩), gdT (by omega), gdT (by simp only [List.length_append, List.length_cons, List.length_nil]; omega), gdT (by simp only [List.length_append, List.length_cons, List.length_nil]; omega), gdT (by omega), gdT (by omega), gdT (by omega), gdT (by omega), gdT (by omega), gdT (by omega), gdT (by omega), xG, this, hd]
    show some (_ ++ _ ++ _, ()) = some (t ++ (hdT (ls.getD i (HeadT).dflt) ++ hdsT (ls.drop (i + 1))) ++ _, ())
    rw [List.append_assoc t]
theorem rput_c : PC 19 aputS := (pureO (sh := shOf shrput) (envS_ok (l := [(18, amayAS), (21, wordsS), (34, digitsS)]) ⟨rmay_c, rwords_c, digits_c, trivial⟩) gl_ne Tryz.func19 (by kernel_rfl) (by decide)).nice fun ⟨⟨n, hs, b, ()⟩, c, ()⟩ h => by
  have h : aputP (n, hs, b, ()) = true := h
  show orput _ = some (aputN (n, hs, b, ()) c, ())
  rw [orput_g, erput_g]
  unfold aputN
  cases hm : amayB (n, hs, b, ())
  · rw [xF, xF, gdB h, xG]
  · obtain ⟨m1, m2, m3, m4⟩ := amay_len hm
    obtain ⟨a1, a2, a3⟩ := st_len m1
    have ll : lineB.length = 9 := rfl
    have he : statD n = statT n := by unfold statD statT; rw [digits_fmt a3]
    have hw : (statT n).length ≤ 80 := by
      unfold statT
      simp only [List.length_append, List.length_cons, List.length_nil]; omega
    rw [xT, xT, he, digits_fmt a3, gdT (by simp only [List.length_append, List.length_cons, List.length_nil]; omega), gdT (by simp only [List.length_append, List.length_cons, List.length_nil]; omega), gdT (by simp only [List.length_append]; omega), gdT (by omega), gdB a3, gdB h, xG]
    exact rput_l c n hs b [] m4 m2 m3 hs.length 0 heads0 _ (by omega) (by unfold heads0; omega) (by omega)
end Go.Proofs.YtnblkjapeiaedaaGreatDoor
