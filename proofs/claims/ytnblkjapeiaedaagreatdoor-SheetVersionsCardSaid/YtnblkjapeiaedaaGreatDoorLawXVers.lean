/-
  SheetVersions: versions are told the last one first, with their tags. No condition.
-/
import Derived.Test.YtnblkjapeiaedaaGreatDoorQ7
namespace Nice
open Go Go.Eng
def b60 (s : List UInt8) : List UInt8 := s.take (min (s.length : Int) 60).toNat
theorem b60_len (s : List UInt8) : (b60 s).length ≤ 60 := by
  unfold b60; rw [List.length_take]; omega
def begK : List UInt8 := [60, 108, 105, 115, 116, 62, 60, 107, 101, 121, 62, 60, 110, 97, 109, 101, 62, 107, 60, 47, 110, 97, 109, 101, 62]
def endK : List UInt8 := [60, 47, 107, 101, 121, 62, 60, 47, 108, 105, 115, 116, 62]
abbrev dK (q : List VerD) : ShD := ([], [([107], q, ())], false, [], ())
noncomputable abbrev gK (t : List UInt8) : List Bool := [decide ((begK ++ t).length + 13 ≤ 1099511627776), decide (25 + t.length ≤ 1099511627776)]
noncomputable def endV (q : List VerD) (t : List UInt8) (nx : ShD → BO) : BO :=
  bif (q.length : Int) == 0 then (bif sputN (dK q) == [] then gd [smayP (dK q)] (bO true) else gd [smayP (dK q)] (bO false))
  else gd [sgetS.pre (sputN (dK q), ()), smayP (dK q)] (bif !sputN (dK q) == begK ++ t ++ endK then gd (gK t) (bO false)
    else bif (sgetN (sputN (dK q))).2.1 != 0 then gd (gK t) (bO false)
    else bif ((sgetN (sputN (dK q))).1.2.1.length : Int) != 1 then gd (gK t) (bO false)
    else bif (((sgetN (sputN (dK q))).1.2.1.getD 0 (EntT).dflt).2.1.length : Int) != (q.length : Int) then gd ([decide (0 < (sgetN (sputN (dK q))).1.2.1.length), decide (0 < ((sgetN (sputN (dK q))).1.2.1.length : Int))] ++ gK t) (bO false)
    else gd ([decide (0 < (sgetN (sputN (dK q))).1.2.1.length), decide (0 < ((sgetN (sputN (dK q))).1.2.1.length : Int))] ++ gK t) (nx (sgetN (sputN (dK q))).1))
noncomputable abbrev gU (q : List VerD) (t : List UInt8) (i : Int) (d m : List UInt8) (v : VerD) : List Bool := [decide (inK .i64 (i + 1)), decide ((verY d m).length + t.length ≤ 1099511627776), decide ((verL ++ d ++ tagL ++ m).length + 3 ≤ 1099511627776), decide ((verL ++ d ++ tagL).length + m.length ≤ 1099511627776), decide ((verL ++ d).length + 7 ≤ 1099511627776), decide (13 + d.length ≤ 1099511627776), digitsS.pre (2 * i + 1, ()), decide ((2 * (q.length + [v].length) + 400) * 32 ≤ 281474976710656)]
noncomputable def stepV (l : List (List UInt8)) (g : List Bool) (q : List VerD) (t : List UInt8) (i : Int) (nx : List VerD → List UInt8 → BO) (nx1 : ShD → BO) : BO :=
  bif decide (i < (l.length : Int)) then (bif decide (i < 12) then
    gd ([tagS.pre (b60 (l.getD i.toNat Ty.str.dflt), ()), decide (0 ≤ min ((l.getD i.toNat Ty.str.dflt).length : Int) 60), decide (min ((l.getD i.toNat Ty.str.dflt).length : Int) 60 ≤ ((l.getD i.toNat Ty.str.dflt).length : Int))] ++ (gI l i ++ (gI l i ++ [decide (inK .i64 (2 * i + 1)), decide (inK .i64 (2 * i))])))
      (bif decide (i < (g.length : Int)) then (bif g.getD i.toNat Ty.bool.dflt then gd (gU q t i (digits (2 * i + 1)) goneL (2 * i + 1, true, [], ()) ++ gI g i) (nx (q ++ [(2 * i + 1, true, [], ())]) (verY (digits (2 * i + 1)) goneL ++ t))
          else gd (gU q t i (digits (2 * i + 1)) (tagN (b60 (l.getD i.toNat Ty.str.dflt))) (2 * i + 1, false, b60 (l.getD i.toNat Ty.str.dflt), ()) ++ gI g i) (nx (q ++ [(2 * i + 1, false, b60 (l.getD i.toNat Ty.str.dflt), ())]) (verY (digits (2 * i + 1)) (tagN (b60 (l.getD i.toNat Ty.str.dflt))) ++ t)))
        else gd (gU q t i (digits (2 * i + 1)) (tagN (b60 (l.getD i.toNat Ty.str.dflt))) (2 * i + 1, false, b60 (l.getD i.toNat Ty.str.dflt), ())) (nx (q ++ [(2 * i + 1, false, b60 (l.getD i.toNat Ty.str.dflt), ())]) (verY (digits (2 * i + 1)) (tagN (b60 (l.getD i.toNat Ty.str.dflt))) ++ t)))
    else endV q t nx1) else endV q t nx1
abbrev v1 (d : ShD) (i : Int) : VerD := (d.2.1.getD 0 (EntT).dflt).2.1.getD i.toNat (VerT).dflt
noncomputable def stepV1 (d : ShD) (q : List VerD) (i : Int) (nx : BO) : BO :=
  bif decide (i < (q.length : Int)) then gd (gI (d.2.1.getD 0 (EntT).dflt).2.1 i ++ [decide (0 < d.2.1.length), decide (0 < (d.2.1.length : Int))]) (bif (v1 d i).1 != (q.getD i.toNat (VerT).dflt).1 then gd (gI q i) (bO false)
    else bif (v1 d i).2.1 then (bif (q.getD i.toNat (VerT).dflt).2.1 then (bif !(v1 d i).2.2.1 == [] then gd (gI q i ++ gI q i) (bO false) else gd (decide (inK .i64 (i + 1)) :: (gI q i ++ gI q i)) nx) else gd (gI q i ++ gI q i) (bO false))
    else (bif (q.getD i.toNat (VerT).dflt).2.1 then gd (gI q i ++ gI q i) (bO false) else (bif !(v1 d i).2.2.1 == [] then gd (gI q i ++ gI q i) (bO false) else gd (decide (inK .i64 (i + 1)) :: (gI q i ++ gI q i)) nx))) else bO true
def mkVer (l : List (List UInt8)) (g : List Bool) (j : Nat) : VerD := bif decide (j < g.length) && g.getD j false then (2 * (j : Int) + 1, true, [], ()) else (2 * (j : Int) + 1, false, b60 (l.getD j []), ())
def verQ (l : List (List UInt8)) (g : List Bool) (i : Nat) : List VerD := (List.range i).map (mkVer l g)
theorem verQ_succ (l : List (List UInt8)) (g : List Bool) (i : Nat) : verQ l g (i + 1) = verQ l g i ++ [mkVer l g i] := by
  unfold verQ; rw [List.range_succ, List.map_append]; rfl
theorem verQ_len (l : List (List UInt8)) (g : List Bool) (i : Nat) : (verQ l g i).length = i := by
  unfold verQ; rw [List.length_map, List.length_range]
theorem mkVer_1 (l : List (List UInt8)) (g : List Bool) (j : Nat) : (mkVer l g j).1 = 2 * (j : Int) + 1 := by
  unfold mkVer
  cases decide (j < g.length) && g.getD j false <;> rfl
theorem mkVer_b (l : List (List UInt8)) (g : List Bool) {j : Nat} (h : j < 100) : verB (mkVer l g j) = true := by
  have hb := b60_len (l.getD j [])
  have h1 := mkVer_1 l g j
  unfold verB
  rw [Bool.and_eq_true, Bool.and_eq_true, Bool.and_eq_true, decide_eq_true_eq, decide_eq_true_eq, decide_eq_true_eq, h1]
  refine ⟨by omega, by omega, ?_, ?_⟩
  · unfold mkVer
    cases decide (j < g.length) && g.getD j false
    · show (b60 (l.getD j [])).length ≤ 300; omega
    · exact Nat.zero_le _
  · unfold mkVer
    cases decide (j < g.length) && g.getD j false <;> rfl
theorem rise_r (l : List (List UInt8)) (g : List Bool) : ∀ (k i : Nat), i + k ≤ 100 → riseV (2 * (i : Int) - 1) ((List.range' i k).map (mkVer l g)) = true
  | 0, _, _ => rfl
  | k + 1, i, h => by
    have := rise_r l g k (i + 1) (by omega)
    rw [List.range'_succ, List.map_cons, riseV_cons, mkVer_b l g (by omega), mkVer_1, decide_eq_true (by omega)]
    rw [show (2 * (i : Int) + 1) = 2 * ((i + 1 : Nat) : Int) - 1 by omega, this]; rfl
theorem rise_q (l : List (List UInt8)) (g : List Bool) {i : Nat} (h : i ≤ 12) : riseV 0 (verQ l g i) = true := by
  unfold verQ
  rw [List.range_eq_range']
  cases i with
  | zero => rfl
  | succ k =>
    have := rise_r l g k 1 (by omega)
    rw [List.range'_succ, List.map_cons, riseV_cons, mkVer_b l g (by omega), mkVer_1, decide_eq_true (by omega)]
    exact this
theorem ent_q (l : List (List UInt8)) (g : List Bool) {i : Nat} (h0 : 1 ≤ i) (h : i ≤ 12) : entB ([107], verQ l g i, ()) = true :=
  entB_iff.2 ⟨rise_q l g h, (show isKey [107] = true by decide), by show 1 ≤ (verQ l g i).length; rw [verQ_len]; exact h0, by show (verQ l g i).length ≤ 12; rw [verQ_len]; exact h⟩
theorem smay_q (l : List (List UInt8)) (g : List Bool) {i : Nat} (h0 : 1 ≤ i) (h : i ≤ 12) : smayN (dK (verQ l g i)) = true := by
  have := ent_q l g h0 h
  unfold smayN
  show (!(false && true) && (riseK [] [[107]] && ((entB ([107], verQ l g i, ()) && true) && (true && true)))) = true
  rw [this]; decide
theorem smayP_q (l : List (List UInt8)) (g : List Bool) {i : Nat} (h : i ≤ 12) : smayP (dK (verQ l g i)) = true := by
  refine smayP_of (Nat.zero_le _) (fun k hk => by cases hk) (Go.Proofs.YtnblkjapeiaedaaGreatDoor.entsP_iff.2 ⟨by show 1 ≤ _; decide, fun e he => ?_⟩) _ _
  have : e = ([107], verQ l g i, ()) := by simpa using he
  subst this
  unfold entP bndS
  rw [Bool.and_eq_true, decide_eq_true_eq, decide_eq_true_eq]
  exact ⟨by show 1 ≤ _; decide, by show (verQ l g i).length ≤ _; rw [verQ_len]; omega⟩
theorem sput_q0 (l : List (List UInt8)) (g : List Bool) : sputN (dK (verQ l g 0)) = [] := by
  unfold sputN
  have : smayN (dK (verQ l g 0)) = false := by
    unfold smayN
    show (!(false && true) && (riseK [] [[107]] && ((entB ([107], [], ()) && true) && (true && true)))) = false
    decide
  rw [this]; rfl
theorem sput_q (l : List (List UInt8)) (g : List Bool) {i : Nat} (h0 : 1 ≤ i) (h : i ≤ 12) : sputN (dK (verQ l g i)) = begK ++ versX (verQ l g i) ++ endK ∧ sgetN (sputN (dK (verQ l g i))) = (stripS (dK (verQ l g i)), 0, ()) := by
  have hm := smay_q l g h0 h
  have hs : sputN (dK (verQ l g i)) = bodyX (dK (verQ l g i)) := by unfold sputN; rw [hm]; rfl
  refine ⟨?_, ?_⟩
  · rw [hs]
    show begL ++ [] ++ ((kenL ++ [107] ++ nameE ++ versX (verQ l g i) ++ keyE) ++ []) ++ [] ++ endL = _
    rw [show begK = begL ++ kenL ++ [107] ++ nameE from rfl, show endK = keyE ++ endL from rfl]
    simp only [List.append_assoc, List.append_nil]
  · rw [hs]
    have := sget_fwd [] hm
    rw [List.append_nil] at this
    exact this
theorem versX_q (l : List (List UInt8)) (g : List Bool) {i : Nat} (h : i ≤ 12) : (versX (verQ l g i)).length ≤ 700 := by
  have := versX_len (verQ l g i) fun v hv => by
    obtain ⟨j, hj, rfl⟩ := List.mem_map.1 hv
    exact mkVer_b l g (by have := List.mem_range.1 hj; omega)
  rw [verQ_len] at this
  omega
theorem gI_okV {α β : Type} {l : List α} {i : Nat} (h : i < l.length) (q : List Bool) (y : Option β) : gd (gI l (i : Int) ++ q) y = gd q y := by
  unfold gI
  simp only [List.cons_append, List.nil_append]
  rw [show (i : Int).toNat = i from rfl, gdT h, gdT (by omega), gdT (by omega)]
theorem bodyX_len12 (l : List (List UInt8)) (g : List Bool) {i : Nat} (h0 : 1 ≤ i) (h : i ≤ 12) : (sputN (dK (verQ l g i))).length ≤ 1000 := by
  have hv := versX_q l g h
  rw [(sput_q l g h0 h).1, List.length_append, List.length_append, show begK.length = 25 from rfl, show endK.length = 13 from rfl]; omega
theorem gd2 {a b : Bool} {α : Type} (h1 : a = true) (h2 : b = true) (q : List Bool) (y : Option α) : gd ([a, b] ++ q) y = gd q y := by
  subst h1 h2; rfl
theorem endV_n (l : List (List UInt8)) (g : List Bool) {i : Nat} (h : i ≤ 12) (nx : ShD → BO) (hnx : 1 ≤ i → nx (stripS (dK (verQ l g i))) = bO true) : endV (verQ l g i) (versX (verQ l g i)) nx = bO true := by
  have hp := smayP_q l g h
  unfold endV
  rw [verQ_len]
  rcases Nat.eq_zero_or_pos i with h0 | h0
  · subst h0
    rw [show (((0 : Nat) : Int) == 0) = true from rfl, xT, sput_q0, gdB hp, gdB hp, xG, xG]; rfl
  · obtain ⟨q1, q2⟩ := sput_q l g h0 h
    have hv := versX_q l g h
    have hl1 : (begK ++ versX (verQ l g i)).length = 25 + (versX (verQ l g i)).length := by rw [List.length_append]; rfl
    have hg : ∀ y : BO, gd (gK (versX (verQ l g i))) y = y := fun y => by
      unfold gK
      rw [gdT (by omega), gdT (by omega), xG]
    have hsp : sgetS.pre (sputN (dK (verQ l g i)), ()) = true := by
      have hle := bodyX_len12 l g h0 h
      exact decide_eq_true (Nat.le_trans hle (by decide))
    rw [show (((i : Nat) : Int) == 0) = false from by rw [beq_eq_false_iff_ne]; omega, xF, gdB hsp, gdB hp, xG, q2, q1, beq_self_eq_true, Bool.not_true, xF]
    show (bif (0 : Int) != 0 then gd (gK (versX (verQ l g i))) (bO false) else bif ((1 : Int)) != 1 then gd (gK (versX (verQ l g i))) (bO false) else bif (((verQ l g i).map stripV).length : Int) != ((i : Nat) : Int) then gd ([decide (0 < 1), decide ((0 : Int) < 1)] ++ gK (versX (verQ l g i))) (bO false) else gd ([decide (0 < 1), decide ((0 : Int) < 1)] ++ gK (versX (verQ l g i))) (nx (stripS (dK (verQ l g i))))) = bO true
    rw [List.length_map, verQ_len, show ((0 : Int) != 0) = false from rfl, xF, show ((1 : Int) != 1) = false from rfl, xF, show (((i : Nat) : Int) != ((i : Nat) : Int)) = false from by rw [bne_eq_false_iff_eq], xF]
    exact (gd2 rfl rfl _ _).trans ((hg _).trans (hnx h0))
theorem dig_pre {n : Int} (h0 : 0 ≤ n) (h1 : n ≤ 1099511627776) : digitsS.pre (n, ()) = true := by
  show (decide (-9223372036854775808 ≤ n) && decide (n ≤ 9223372036854775807)) = true
  rw [Bool.and_eq_true, decide_eq_true_eq, decide_eq_true_eq]; omega
theorem gU_ok {q : List VerD} {t d m : List UInt8} {v : VerD} {i : Nat} (hi : i ≤ 100) (hq : q.length ≤ 100) (ht : t.length ≤ 1000) (hd : d.length ≤ 20) (hm : m.length ≤ 8) {α : Type} (z : List Bool) (y : Option α) : gd (gU q t (i : Int) d m v ++ z) y = gd z y := by
  have e1 := verY_len d m
  have e2 : (verL ++ d ++ tagL ++ m).length = 20 + d.length + m.length := by
    simp only [List.length_append, show verL.length = 13 from rfl, show tagL.length = 7 from rfl]; omega
  have e3 : (verL ++ d ++ tagL).length = 20 + d.length := by
    simp only [List.length_append, show verL.length = 13 from rfl, show tagL.length = 7 from rfl]; omega
  have e4 : (verL ++ d).length = 13 + d.length := by
    simp only [List.length_append, show verL.length = 13 from rfl]
  have e5 : digitsS.pre (2 * (i : Int) + 1, ()) = true := dig_pre (by omega) (by omega)
  unfold gU
  simp only [List.cons_append, List.nil_append]
  rw [gdT (inK_i64.2 ⟨by omega, by omega⟩), gdT (by omega), gdT (by omega), gdT (by omega), gdT (by omega), gdT (by omega), gdB e5, List.length_singleton, gdT (by omega)]
theorem stepV_n (l : List (List UInt8)) (g : List Bool) {i : Nat} (h1 : i < l.length) (h2 : i < 12) (nx : List VerD → List UInt8 → BO) (nx1 : ShD → BO) (hn : nx (verQ l g (i + 1)) (versX (verQ l g (i + 1))) = bO true) : stepV l g (verQ l g i) (versX (verQ l g i)) (i : Int) nx nx1 = bO true := by
  have hb := b60_len (l.getD i [])
  have hdg := digits_fmt (n := 2 * (i : Int) + 1) (by omega) (by omega)
  have hf := Go.Proofs.YtnblkjapeiaedaaGreatDoor.fmt_len (n := 2 * (i : Int) + 1) (by omega) (by omega)
  have hv := versX_q l g (i := i) (by omega)
  have hql := verQ_len l g i
  have htg : tagS.pre (b60 (l.getD i []), ()) = true := decide_eq_true (show (b60 (l.getD i [])).length ≤ 140737488355328 by omega)
  have hG : ∀ y : BO, gd ([tagS.pre (b60 (l.getD i []), ()), decide (0 ≤ min ((l.getD i []).length : Int) 60), decide (min ((l.getD i []).length : Int) 60 ≤ ((l.getD i []).length : Int))] ++ (gI l (i : Int) ++ (gI l (i : Int) ++ [decide (inK .i64 (2 * (i : Int) + 1)), decide (inK .i64 (2 * (i : Int)))]))) y = y := fun y => by
    simp only [List.cons_append, List.nil_append]
    rw [show (i : Int).toNat = i from rfl, gdB htg, gdT (by omega), gdT (by omega), gdT h1, gdT (by omega), gdT (by omega), gdT h1, gdT (by omega), gdT (by omega), gdT (inK_i64.2 ⟨by omega, by omega⟩), gdT (inK_i64.2 ⟨by omega, by omega⟩), xG]
  rw [verQ_succ, versX_snoc] at hn
  unfold stepV
  rw [cdT (show (i : Int) < (l.length : Int) by omega), cdT (show (i : Int) < 12 by omega), show (i : Int).toNat = i from rfl, show l.getD i Ty.str.dflt = l.getD i [] from rfl, hG, hdg]
  have hm := mkV_len (2 * (i : Int) + 1, false, b60 (l.getD i []), ())
  have hno : mkVer l g i = (2 * (i : Int) + 1, false, b60 (l.getD i []), ()) → nx (verQ l g i ++ [(2 * (i : Int) + 1, false, b60 (l.getD i []), ())]) (verY (fmtN (2 * (i : Int) + 1)) (tagN (b60 (l.getD i []))) ++ versX (verQ l g i)) = bO true := fun e => by rw [e] at hn; exact hn
  have hy : mkVer l g i = (2 * (i : Int) + 1, true, [], ()) → nx (verQ l g i ++ [(2 * (i : Int) + 1, true, [], ())]) (verY (fmtN (2 * (i : Int) + 1)) goneL ++ versX (verQ l g i)) = bO true := fun e => by rw [e] at hn; exact hn
  by_cases hg : i < g.length
  · rw [cdT (show (i : Int) < (g.length : Int) by omega), show g.getD i Ty.bool.dflt = g.getD i false from rfl]
    cases hb : g.getD i false
    · rw [xF, gU_ok (by omega) (by omega) (by omega) hf (by exact hm)]
      have := gI_okV hg [] (nx (verQ l g i ++ [(2 * (i : Int) + 1, false, b60 (l.getD i []), ())]) (verY (fmtN (2 * (i : Int) + 1)) (tagN (b60 (l.getD i []))) ++ versX (verQ l g i)))
      rw [List.append_nil, xG] at this
      exact this.trans (hno (by unfold mkVer; rw [hb, Bool.and_false]; rfl))
    · rw [xT, gU_ok (by omega) (by omega) (by omega) hf (by decide)]
      have := gI_okV hg [] (nx (verQ l g i ++ [(2 * (i : Int) + 1, true, [], ())]) (verY (fmtN (2 * (i : Int) + 1)) goneL ++ versX (verQ l g i)))
      rw [List.append_nil, xG] at this
      exact this.trans (hy (by unfold mkVer; rw [hb, decide_eq_true hg]; rfl))
  · rw [cdF (show ¬ (i : Int) < (g.length : Int) by omega)]
    have := gU_ok (q := verQ l g i) (v := (2 * (i : Int) + 1, false, b60 (l.getD i []), ())) (show i ≤ 100 by omega) (by omega) (show (versX (verQ l g i)).length ≤ 1000 by omega) hf (show (tagN (b60 (l.getD i []))).length ≤ 8 from hm) [] (nx (verQ l g i ++ [(2 * (i : Int) + 1, false, b60 (l.getD i []), ())]) (verY (fmtN (2 * (i : Int) + 1)) (tagN (b60 (l.getD i []))) ++ versX (verQ l g i)))
    rw [List.append_nil, xG] at this
    exact this.trans (hno (by unfold mkVer; rw [decide_eq_false hg]; rfl))
theorem stepV_e (l : List (List UInt8)) (g : List Bool) {i : Nat} (h : ¬ i < l.length ∨ ¬ i < 12) (q : List VerD) (t : List UInt8) (nx : List VerD → List UInt8 → BO) (nx1 : ShD → BO) : stepV l g q t (i : Int) nx nx1 = endV q t nx1 := by
  unfold stepV
  by_cases h1 : i < l.length
  · rw [cdT (show (i : Int) < (l.length : Int) by omega), cdF (show ¬ (i : Int) < 12 by omega)]
  · rw [cdF (show ¬ (i : Int) < (l.length : Int) by omega)]
end Nice
namespace Go.Proofs.YtnblkjapeiaedaaGreatDoor
open Go Go.Eng Nice Go.RowKit
set_option maxRecDepth 1000000
abbrev tsXVers : List Ty := [.slice .str, .slice .bool]
noncomputable abbrev enXV : Eng.Env := envS [(13, trueS), (27, sputS), (32, sgetS), (34, digitsS), (35, tagS)]
abbrev shxv : List (Nat × List (Nat × Sh)) := [(7, [(0, (.one (.dat .str))), (1, (.one (.dat .bool))), (4, (.one .sym)), (6, (.obj [.sym, (.vec VerT 71)])), (7, (.one .sym)), (8, (.one .sym))]), (22, [(4, (.one .sym)), (6, (.obj [.sym, (.vec VerT 71)])), (12, (.obj [(.dat .str), (.dat EntT), .sym, .sym])), (14, (.one .sym))])]
noncomputable def hxv0 (N : Nat) (l : List (List UInt8)) (g : List Bool) (q : List VerD) (t : List UInt8) (i : Int) : BO := rH Tryz.prog enXV (shOf shxv) Tryz.f12 [.bool] N 0 [(0, dt 10), (1, dt 11), (4, .bool false), (6, .pointer (some ⟨13, 0, none⟩)), (7, sy (.string (bs t))), (8, sy (.int .i64 i))] [.dat .str l, .dat .bool g, .vec VerT q 71, .row [sy (.string (bs [107])), dt 12] 67 false]
noncomputable def hxv1 (N : Nat) (q : List VerD) (n2 : List (List UInt8)) (l2 : List EntD) (b2 : Bool) (x2 : List UInt8) (i : Int) : BO := rH Tryz.prog enXV (shOf shxv) Tryz.f12 [.bool] N 1 [(4, .bool false), (6, .pointer (some ⟨11, 0, none⟩)), (12, .pointer (some ⟨14, 0, none⟩)), (14, sy (.int .i64 i))] [.vec VerT q 71, .row [sy (.string (bs [107])), dt 10] 67 false, .dat .str n2, .dat EntT l2, .row [dt 12, dt 13, .bool b2, sy (.string (bs x2))] 46 false]
noncomputable def olawXVers (x : DenL tsXVers) : BO := fO Tryz.prog enXV (shOf shxv) Tryz.f12 tsXVers [.bool] x
theorem olawXVers_g (x : DenL tsXVers) : olawXVers x = fON Tryz.prog enXV (shOf shxv) Tryz.f12 tsXVers [.bool] heads0 x := rfl
theorem exv_g (N : Nat) (l : List (List UInt8)) (g : List Bool) : fON Tryz.prog enXV (shOf shxv) Tryz.f12 tsXVers [.bool] N (l, g, ()) = hxv0 N l g [] [] 0 := by kernel_rfl
theorem exv0 (N : Nat) (l : List (List UInt8)) (g : List Bool) (q : List VerD) (t : List UInt8) (i : Int) : hxv0 (N + 1) l g q t i = stepV l g q t i (fun q' t' => hxv0 N l g q' t' (i + 1)) (fun d => hxv1 N q d.1 d.2.1 d.2.2.1 d.2.2.2.1 0) := by kernel_rfl
theorem exv1 (N : Nat) (q : List VerD) (n2 : List (List UInt8)) (l2 : List EntD) (b2 : Bool) (x2 : List UInt8) (i : Int) : hxv1 (N + 1) q n2 l2 b2 x2 i = stepV1 (n2, l2, b2, x2, ()) q i (hxv1 N q n2 l2 b2 x2 (i + 1)) := by kernel_rfl
theorem xv1_l (l : List (List UInt8)) (g : List Bool) (k : Nat) (hk : k ≤ 12) : ∀ (r i N : Nat), k = i + r → r < N → hxv1 N (verQ l g k) [] [([107], (verQ l g k).map stripV, ())] false [] (i : Int) = bO true := by
  intro r
  induction r with
  | zero =>
    intro i N hi hN
    obtain ⟨N, rfl⟩ : ∃ m, N = m + 1 := ⟨N - 1, by omega⟩
    rw [exv1]
    unfold stepV1
    rw [verQ_len, cdF (by omega)]
  | succ r ih =>
    intro i N hi hN
    obtain ⟨N, rfl⟩ : ∃ m, N = m + 1 := ⟨N - 1, by omega⟩
    have h1 : i < (verQ l g k).length := by rw [verQ_len]; omega
    have h2 : i < ((verQ l g k).map stripV).length := by rw [List.length_map]; exact h1
    have this := ih (i + 1) N (by omega) (by omega)
    simp only [Int.natCast_add, Int.natCast_one] at this
    have hi1 : inK .i64 ((i : Int) + 1) := inK_i64.2 ⟨by omega, by omega⟩
    have hs : ((verQ l g k).map stripV).getD i (VerT).dflt = stripV ((verQ l g k).getD i (VerT).dflt) := by
      rw [List.getD_eq_getElem?_getD, List.getD_eq_getElem?_getD, List.getElem?_map, List.getElem?_eq_getElem h1]; rfl
    rw [exv1]
    unfold stepV1
    rw [cdT (show (i : Int) < ((verQ l g k).length : Int) by omega), this]
    show gd (gI ((verQ l g k).map stripV) (i : Int) ++ [decide (0 < 1), decide ((0 : Int) < 1)]) (bif (((verQ l g k).map stripV).getD i (VerT).dflt).1 != ((verQ l g k).getD i (VerT).dflt).1 then gd (gI (verQ l g k) (i : Int)) (bO false)
      else bif (((verQ l g k).map stripV).getD i (VerT).dflt).2.1 then (bif ((verQ l g k).getD i (VerT).dflt).2.1 then (bif !(((verQ l g k).map stripV).getD i (VerT).dflt).2.2.1 == [] then gd (gI (verQ l g k) (i : Int) ++ gI (verQ l g k) (i : Int)) (bO false) else gd (decide (inK .i64 ((i : Int) + 1)) :: (gI (verQ l g k) (i : Int) ++ gI (verQ l g k) (i : Int))) (bO true)) else gd (gI (verQ l g k) (i : Int) ++ gI (verQ l g k) (i : Int)) (bO false))
      else (bif ((verQ l g k).getD i (VerT).dflt).2.1 then gd (gI (verQ l g k) (i : Int) ++ gI (verQ l g k) (i : Int)) (bO false) else (bif !(((verQ l g k).map stripV).getD i (VerT).dflt).2.2.1 == [] then gd (gI (verQ l g k) (i : Int) ++ gI (verQ l g k) (i : Int)) (bO false) else gd (decide (inK .i64 ((i : Int) + 1)) :: (gI (verQ l g k) (i : Int) ++ gI (verQ l g k) (i : Int))) (bO true)))) = bO true
    rw [gI_okV h2, gdT (by decide), gdT (by decide), xG, hs]
    generalize (verQ l g k).getD i (VerT).dflt = v
    obtain ⟨a, b, c, ⟨⟩⟩ := v
    show (bif a != a then _ else bif b then (bif b then (bif !(([] : List UInt8) == []) then _ else _) else _) else (bif b then _ else (bif !(([] : List UInt8) == []) then _ else _))) = bO true
    rw [show (a != a) = false from by rw [bne_eq_false_iff_eq], xF]
    cases b
    · show gd (decide (inK .i64 ((i : Int) + 1)) :: (gI (verQ l g k) (i : Int) ++ gI (verQ l g k) (i : Int))) (bO true) = bO true
      rw [gdT hi1, gI_okV h1]
      have := gI_okV h1 [] (bO true)
      rw [List.append_nil, xG] at this
      exact this
    · show gd (decide (inK .i64 ((i : Int) + 1)) :: (gI (verQ l g k) (i : Int) ++ gI (verQ l g k) (i : Int))) (bO true) = bO true
      rw [gdT hi1, gI_okV h1]
      have := gI_okV h1 [] (bO true)
      rw [List.append_nil, xG] at this
      exact this
theorem xv0_l (l : List (List UInt8)) (g : List Bool) : ∀ (r i N : Nat), min l.length 12 = i + r → r + 20 < N → hxv0 N l g (verQ l g i) (versX (verQ l g i)) (i : Int) = bO true := by
  intro r
  induction r with
  | zero =>
    intro i N hi hN
    obtain ⟨N, rfl⟩ : ∃ m, N = m + 1 := ⟨N - 1, by omega⟩
    rw [exv0, stepV_e l g (by omega)]
    refine endV_n l g (by omega) _ fun _ => ?_
    exact xv1_l l g i (by omega) i 0 N (by omega) (by omega)
  | succ r ih =>
    intro i N hi hN
    obtain ⟨N, rfl⟩ : ∃ m, N = m + 1 := ⟨N - 1, by omega⟩
    rw [exv0]
    have this := ih (i + 1) N (by omega) (by omega)
    simp only [Int.natCast_add, Int.natCast_one] at this
    exact stepV_n l g (by omega) (by omega) _ _ this
theorem lawXVers_n (x : DenL tsXVers) : olawXVers x = some (true, ()) := by
  obtain ⟨l, g, ⟨⟩⟩ := x
  rw [olawXVers_g, exv_g]
  exact xv0_l l g (min l.length 12) 0 heads0 (by omega) (by unfold heads0; omega)
theorem lawXVers_c : PC 12 (ofO tsXVers [.bool] olawXVers) := (pureO (sh := shOf shxv) (envS_ok (l := [(13, trueS), (27, sputS), (32, sgetS), (34, digitsS), (35, tagS)]) ⟨begun_c, sput_c, sget_c, digits_c, tag_c, trivial⟩) gl_ne Tryz.func12 (by kernel_rfl) (by decide))
theorem lawXVers_run {w : World} (hgl : GlW glC w) {args : Array Value} {x : DenL tsXVers} (hx : RdAll (fzW w) tsXVers x args.toList) (hb : BdL tsXVers x) : Calls Tryz.prog 12 args w fun e w' => e = .returned (.bool true) ∧ Same w w' :=
  law_calls lawXVers_c (fun x _ => by
    have := lawXVers_n x
    exact ⟨by show (olawXVers x).isSome = true; rw [this]; rfl, by show (olawXVers x).getD _ = _; rw [this]; rfl⟩) hgl hx hb
end Go.Proofs.YtnblkjapeiaedaaGreatDoor
