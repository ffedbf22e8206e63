/-
  Part of the proof: SayV SayW. No condition.
-/
import Derived.Test.YtnblkjapeiaedaaGreatDoorP6
import Derived.Test.YtnblkjapeiaedaaGreatDoorLawHeads
namespace Nice
open Go Go.Eng
noncomputable def getSp : PSpec := ⟨[.str, .bool], [AnsT, .int .i64, .int .i64], fun x => bndS x.1, fun x => ((getN x.1 x.2.1).1, (getN x.1 x.2.1).2.1, (getN x.1 x.2.1).2.2, ())⟩
abbrev GO := Option (DenL [AnsT, .int .i64, .int .i64])
noncomputable def zgF (s : List UInt8) (c : Bool) (st a2 : Int) (D : DR) : GO :=
  bif D.2.2.2 != 0 then some (zA, 0, D.2.2.2, ()) else bif c then some ((st, D.2.2.1, [], ()), a2, 0, ())
  else bif decide (((s.drop a2.toNat).length : Int) < D.2.1) then gd [decide (0 ≤ a2), decide (a2 ≤ (s.length : Int))] (some (zA, 0, 2, ()))
  else gd [decide (inK .i64 (a2 + D.2.1)), decide (0 ≤ D.2.1), decide (D.2.1 ≤ ((s.drop a2.toNat).length : Int)), decide (0 ≤ a2), decide (a2 ≤ (s.length : Int)), decide (0 ≤ a2), decide (a2 ≤ (s.length : Int))] (some ((st, D.2.2.1, (s.drop a2.toNat).take D.2.1.toNat, ()), a2 + D.2.1, 0, ()))
noncomputable def zgA (s : List UInt8) (c : Bool) (A : Int × Int × Int) : GO :=
  bif A.2.2 != 0 then some (zA, 0, A.2.2, ()) else gd [rdrP (s, 0 + A.1, 0, (A.2.1, [], [], ()), ())] (zgF s c A.2.1 (0 + A.1 + (hdsF A.2.1 11 0 [] (s.drop (0 + A.1).toNat)).1) (hdsF A.2.1 11 0 [] (s.drop (0 + A.1).toNat)))
theorem hds_bnd {st : Int} {r : List UInt8} (h : (hdsF st 11 0 [] r).2.2.2 = 0) : 0 ≤ (hdsF st 11 0 [] r).1 ∧ (hdsF st 11 0 [] r).1 ≤ (r.length : Int) ∧ 0 ≤ (hdsF st 11 0 [] r).2.1 := by
  obtain ⟨l, k, z, i1, i2, i3, i4, rfl⟩ := hds_inv 11 0 [] r (by decide) h
  rw [hds_fwd i4 z l 11 0 [] i1 i2 i3]
  refine ⟨Int.natCast_nonneg _, ?_, ?_⟩
  · show ((hdsT l ++ endH st k).length : Int) ≤ ((hdsT l ++ (endH st k ++ z)).length : Int)
    simp only [List.length_append]
    omega
  · show 0 ≤ endK st 0 k
    unfold endK
    cases st != 204
    · exact Int.le_refl _
    · exact Int.natCast_nonneg _
theorem zgF_n {s : List UInt8} (c : Bool) (st : Int) {k : Int} {r : List UInt8} (hr : r = s.drop k.toNat) (h0 : 0 ≤ k) (hk : k ≤ (s.length : Int)) (hs : s.length ≤ 140737488355328) :
    zgF s c st (k + (hdsF st 11 0 [] r).1) (hdsF st 11 0 [] r) = some ((getH c st k r (hdsF st 11 0 [] r)).1, (getH c st k r (hdsF st 11 0 [] r)).2.1, (getH c st k r (hdsF st 11 0 [] r)).2.2, ()) := by
  have hb := hds_bnd (st := st) (r := r)
  have hl : r.length = s.length - k.toNat := by rw [hr, List.length_drop]
  unfold zgF getH
  generalize hdsF st 11 0 [] r = D at hb ⊢
  cases e : D.2.2.2 != 0
  · obtain ⟨b1, b2, b3⟩ := hb (bne_eq_false_iff_eq.1 e)
    have ed : s.drop (k + D.1).toNat = r.drop D.1.toNat := by rw [drop_at s h0 b1, hr]
    rw [ed, xF, xF]
    cases c
    · have hl2 : (r.drop D.1.toNat).length = r.length - D.1.toNat := List.length_drop
      rw [xF, xF]
      by_cases h : ((r.drop D.1.toNat).length : Int) < D.2.1
      · rw [cdT h, cdT h, gdT (by omega), gdT (by omega), xG]
      · rw [cdF h, cdF h, gdT (inK_i64.2 ⟨by omega, by omega⟩), gdT b3, gdT (by omega), gdT (by omega), gdT (by omega), gdT (by omega), gdT (by omega), xG]
    · rfl
  · rfl
end Nice
namespace Go.Proofs.YtnblkjapeiaedaaGreatDoor
open Go Go.Eng Nice Go.RowKit
set_option maxRecDepth 1000000
noncomputable def oget (x : DenL [.str, .bool]) : GO := fO Tryz.prog (envO [] [(42, staS), (43, hdsS)]) (shOf []) Tryz.f22 [.str, .bool] [AnsT, .int .i64, .int .i64] x
theorem eget_g (N : Nat) (s : List UInt8) (c : Bool) : fON Tryz.prog (envO [] [(42, staS), (43, hdsS)]) (shOf []) Tryz.f22 [.str, .bool] [AnsT, .int .i64, .int .i64] N (s, c, ()) =
  gd [rdrP (s, 0, 0, (0, [], [], ()), ())] (zgA s c (staN 0 (s.drop (0 : Int).toNat))) := by kernel_rfl
theorem oget_g (x : DenL [.str, .bool]) : oget x = fON Tryz.prog (envO [] [(42, staS), (43, hdsS)]) (shOf []) Tryz.f22 [.str, .bool] [AnsT, .int .i64, .int .i64] heads0 x := rfl
theorem get_n (s : List UInt8) (c : Bool) (h : bndS s = true) : oget (s, c, ()) = some ((getN s c).1, (getN s c).2.1, (getN s c).2.2, ()) := by
  have hs : s.length ≤ 140737488355328 := of_decide_eq_true h
  have h0 : rdrP (s, 0, 0, (0, [], [], ()), ()) = true := rdrP_iff.2 ⟨Int.le_refl _, Int.natCast_nonneg _, hs⟩
  rw [oget_g, eget_g, gdB h0, xG]
  show zgA s c (staN 0 s) = _
  unfold zgA getN getS
  cases e : (staN 0 s).2.2 != 0
  · obtain ⟨n, x, hn, hx, e'⟩ := staN_inv (bne_eq_false_iff_eq.1 e)
    have hk : (staN 0 s).1 ≤ (s.length : Int) := by
      rw [e', hx, List.length_append]
      show ((statT n).length : Int) ≤ _
      omega
    have hk0 : 0 ≤ (staN 0 s).1 := by
      rw [e']
      exact Int.natCast_nonneg _
    rw [xF, xF, Int.zero_add, gdB (rdrP_iff.2 ⟨hk0, hk, hs⟩), xG]
    exact zgF_n c _ rfl hk0 hk hs
  · rfl
theorem get_c : PC 22 getSp := (pureO (envO_ok (l := []) (o := [(42, staS), (43, hdsS)]) trivial ⟨sta_c, hds_c, trivial⟩) gl_ne Tryz.func22 (by kernel_rfl) (by decide)).nice fun ⟨s, c, ()⟩ h => get_n s c h
end Go.Proofs.YtnblkjapeiaedaaGreatDoor
namespace Nice
open Go Go.Eng
def eqHd (x y : HeadD) : Bool := x.1 == y.1 && (x.2.1 == y.2.1 && true)
def eqHs : List HeadD → List HeadD → Bool
  | [], [] => true
  | x :: l, y :: m => eqHd x y && eqHs l m
  | _, _ => false
def eqAns (a b : AnsD) : Bool := a.1 == b.1 && (a.2.2.1 == b.2.2.1 && eqHs a.2.1 b.2.1)
def ansB (a : AnsD) : Bool := decide (a.2.1.length ≤ 140737488355328)
noncomputable def eqAS : PSpec := ⟨[AnsT, AnsT], [.bool], fun x => ansB x.1, fun x => (eqAns x.1 x.2.1, ())⟩
theorem eqHd_refl (x : HeadD) : eqHd x x = true := by unfold eqHd; rw [beq_self_eq_true, beq_self_eq_true]; rfl
theorem eqHs_refl : ∀ l : List HeadD, eqHs l l = true
  | [] => rfl
  | x :: l => by
    show (eqHd x x && eqHs l l) = true
    rw [eqHd_refl, eqHs_refl l]; rfl
theorem eqHs_len : ∀ (l m : List HeadD), l.length ≠ m.length → eqHs l m = false
  | [], [], h => absurd rfl h
  | [], _ :: _, _ => rfl
  | _ :: _, [], _ => rfl
  | x :: l, y :: m, h => by
    show (eqHd x y && eqHs l m) = false
    rw [eqHs_len l m (fun e => h (by rw [List.length_cons, List.length_cons, e])), Bool.and_false]
theorem eqAns_refl (a : AnsD) : eqAns a a = true := by
  unfold eqAns
  rw [beq_self_eq_true, beq_self_eq_true, eqHs_refl]; rfl
def cutHd (h : HeadD) : HeadD := (cut h.1 32, cut h.2.1 102, ())
def answN (a : AnsD) : AnsD := (a.1, (a.2.1.take 12).map cutHd, cut a.2.2.1 400, ())
noncomputable def answS : PSpec := ⟨[AnsT], [AnsT], fun _ => true, fun x => (answN x.1, ())⟩
abbrev BO := Option (DenL [.bool])
noncomputable def stepE (hs ks : List HeadD) (i : Int) (nx : BO) : BO :=
  bif decide (i < (hs.length : Int)) then
    bif !eqHd (hs.getD i.toNat (HeadT).dflt) (ks.getD i.toNat (HeadT).dflt) then gd [decide (i.toNat < ks.length), decide (0 ≤ i), decide (i < (ks.length : Int)), decide (i.toNat < hs.length), decide (0 ≤ i), decide (i < (hs.length : Int))] (bO false)
    else gd [decide (inK .i64 (i + 1)), decide (i.toNat < ks.length), decide (0 ≤ i), decide (i < (ks.length : Int)), decide (i.toNat < hs.length), decide (0 ≤ i), decide (i < (hs.length : Int))] nx
  else bO true
noncomputable def stepA (n : Int) (hs : List HeadD) (b : List UInt8) (l : List HeadD) (i : Int) (nx : List HeadD → Option (DenL [AnsT])) : Option (DenL [AnsT]) :=
  bif decide (i < (hs.length : Int)) then
    bif decide (i < 12) then gd [decide (inK .i64 (i + 1)), decide ((2 * (l.length + [cutHd (hs.getD i.toNat (HeadT).dflt)].length) + 400) * 32 ≤ 281474976710656), decide (i.toNat < hs.length), decide (0 ≤ i), decide (i < (hs.length : Int)), decide (i.toNat < hs.length), decide (0 ≤ i), decide (i < (hs.length : Int))] (nx (l ++ [cutHd (hs.getD i.toNat (HeadT).dflt)]))
    else some ((n, l, cut b 400, ()), ())
  else some ((n, l, cut b 400, ()), ())
end Nice
namespace Go.Proofs.YtnblkjapeiaedaaGreatDoor
open Go Go.Eng Nice Go.RowKit
set_option maxRecDepth 1000000
abbrev sheqa : List (Nat × List (Nat × Sh)) := [(4, [(2, (.obj [.sym, (.dat (.pair .str (.pair .str .unit))), .sym])), (3, (.obj [.sym, (.dat (.pair .str (.pair .str .unit))), .sym])), (4, (.one .sym)), (5, (.one .sym))])]
noncomputable def heqa (k : Nat) (n : Int) (hs : List HeadD) (b : List UInt8) (m : Int) (ks : List HeadD) (c : List UInt8) (t4 : Bool) (i : Int) : BO := rH Tryz.prog (envS []) (shOf sheqa) Tryz.f23 [.bool] k 0 [(2, .pointer (some ⟨11, 0, none⟩)), (3, .pointer (some ⟨13, 0, none⟩)), (4, .bool t4), (5, sy (.int .i64 i))] [.dat (.pair .str (.pair .str .unit)) hs, .row [sy (.int .i64 n), dt 10, sy (.string (bs b))] 24 false, .dat (.pair .str (.pair .str .unit)) ks, .row [sy (.int .i64 m), dt 12, sy (.string (bs c))] 24 false]
noncomputable def oeqa (x : DenL [AnsT, AnsT]) : BO := fO Tryz.prog (envS []) (shOf sheqa) Tryz.f23 [AnsT, AnsT] [.bool] x
theorem eeqa_g (N : Nat) (n : Int) (hs : List HeadD) (b : List UInt8) (m : Int) (ks : List HeadD) (c : List UInt8) : fON Tryz.prog (envS []) (shOf sheqa) Tryz.f23 [AnsT, AnsT] [.bool] N ((n, hs, b, ()), (m, ks, c, ()), ()) =
  (bif n != m then bO false else bif !b == c then bO false else bif (hs.length : Int) != (ks.length : Int) then bO false else heqa N n hs b m ks c false 0) := by kernel_rfl
theorem oeqa_g (x : DenL [AnsT, AnsT]) : oeqa x = fON Tryz.prog (envS []) (shOf sheqa) Tryz.f23 [AnsT, AnsT] [.bool] heads0 x := rfl
theorem eeqa_0 (k : Nat) (n : Int) (hs : List HeadD) (b : List UInt8) (m : Int) (ks : List HeadD) (c : List UInt8) (t4 : Bool) (i : Int) : heqa (k + 1) n hs b m ks c t4 i = stepE hs ks i (heqa k n hs b m ks c t4 (i + 1)) := by kernel_rfl
theorem eqa_l (n : Int) (hs : List HeadD) (b : List UInt8) (m : Int) (ks : List HeadD) (c : List UInt8) (t4 : Bool) (hl : hs.length ≤ 140737488355328) (he : hs.length = ks.length) : ∀ (r i k : Nat), hs.length = i + r → r < k → heqa k n hs b m ks c t4 (i : Int) = some (eqHs (hs.drop i) (ks.drop i), ()) := by
  intro r
  induction r with
  | zero =>
    intro i k hi hk
    obtain ⟨k, rfl⟩ : ∃ m, k = m + 1 := ⟨k - 1, by omega⟩
    rw [eeqa_0]
    unfold stepE
    rw [cdF (by omega), List.drop_eq_nil_of_le (by omega), List.drop_eq_nil_of_le (by omega)]; rfl
  | succ r ih =>
    intro i k hi hk
    obtain ⟨k, rfl⟩ : ∃ m, k = m + 1 := ⟨k - 1, by omega⟩
    have h1 : i < hs.length := by omega
    have h2 : i < ks.length := by omega
    have d1 : hs.drop i = hs.getD i (HeadT).dflt :: hs.drop (i + 1) := by
      rw [List.drop_eq_getElem_cons h1, List.getD_eq_getElem?_getD, List.getElem?_eq_getElem h1]; rfl
    have d2 : ks.drop i = ks.getD i (HeadT).dflt :: ks.drop (i + 1) := by
      rw [List.drop_eq_getElem_cons h2, List.getD_eq_getElem?_getD, List.getElem?_eq_getElem h2]; rfl
    have := ih (i + 1) k (by omega) (by omega)
    simp only [Int.natCast_add, Int.natCast_one] at this
    rw [eeqa_0]
    unfold stepE
    rw [cdT (by omega), show (i : Int).toNat = i from rfl, d1, d2]
    show _ = some (eqHd _ _ && eqHs _ _, ())
    cases eqHd (hs.getD i (HeadT).dflt) (ks.getD i (HeadT).dflt)
    · rw [Bool.not_false, xT, gdT h2, gdT (by omega), gdT (by omega), gdT h1, gdT (by omega), gdT (by omega), xG]; rfl
    · rw [Bool.not_true, xF, gdT (inK_i64.2 ⟨by omega, by omega⟩), gdT h2, gdT (by omega), gdT (by omega), gdT h1, gdT (by omega), gdT (by omega), xG, this, Bool.true_and]
theorem eqa_c : PC 23 eqAS := (pureO (sh := shOf sheqa) (envS_ok (l := []) trivial) gl_ne Tryz.func23 (by kernel_rfl) (by decide)).nice fun ⟨⟨n, hs, b, ()⟩, ⟨m, ks, c, ()⟩, ()⟩ h => by
  have h : hs.length ≤ 140737488355328 := of_decide_eq_true h
  show oeqa _ = some (n == m && (b == c && eqHs hs ks), ())
  rw [oeqa_g, eeqa_g]
  unfold bne
  cases n == m
  · rfl
  · cases b == c
    · rfl
    · show (bif !((hs.length : Int) == (ks.length : Int)) then bO false else heqa heads0 n hs b m ks c false 0) = some (eqHs hs ks, ())
      by_cases he : hs.length = ks.length
      · rw [show ((hs.length : Int) == (ks.length : Int)) = true from beq_iff_eq.2 (by omega), Bool.not_true, xF]
        exact eqa_l n hs b m ks c false h he hs.length 0 heads0 (by omega) (by unfold heads0; omega)
      · rw [show ((hs.length : Int) == (ks.length : Int)) = false from beq_eq_false_iff_ne.2 (by omega), Bool.not_false, xT, eqHs_len hs ks he]; rfl
/-! ### cut short -/
abbrev shansw : List (Nat × List (Nat × Sh)) := [(3, [(1, (.obj [.sym, (.dat (.pair .str (.pair .str .unit))), .sym])), (2, (.obj [.sym, .any, .sym])), (3, (.one (.vec HeadT 61))), (4, (.one .sym))])]
noncomputable def hansw (k : Nat) (n : Int) (hs : List HeadD) (b : List UInt8) (m : Int) (c : List UInt8) (l : List HeadD) (i : Int) : Option (DenL [AnsT]) := rH Tryz.prog (envS [(15, cutS)]) (shOf shansw) Tryz.f14 [AnsT] k 0 [(1, .pointer (some ⟨11, 0, none⟩)), (2, .pointer (some ⟨12, 0, none⟩)), (3, dt 13), (4, sy (.int .i64 i))] [.dat (.pair .str (.pair .str .unit)) hs, .row [sy (.int .i64 n), dt 10, sy (.string (bs b))] 24 false, .row [sy (.int .i64 m), Value.slice none 0 0, sy (.string (bs c))] 24 false, .vec HeadT l 61]
noncomputable def oansw (x : DenL [AnsT]) : Option (DenL [AnsT]) := fO Tryz.prog (envS [(15, cutS)]) (shOf shansw) Tryz.f14 [AnsT] [AnsT] x
theorem eansw_g (N : Nat) (n : Int) (hs : List HeadD) (b : List UInt8) : fON Tryz.prog (envS [(15, cutS)]) (shOf shansw) Tryz.f14 [AnsT] [AnsT] N ((n, hs, b, ()), ()) = hansw N n hs b 0 [] [] 0 := by kernel_rfl
theorem oansw_g (x : DenL [AnsT]) : oansw x = fON Tryz.prog (envS [(15, cutS)]) (shOf shansw) Tryz.f14 [AnsT] [AnsT] heads0 x := rfl
theorem eansw_0 (k : Nat) (n : Int) (hs : List HeadD) (b : List UInt8) (m : Int) (c : List UInt8) (l : List HeadD) (i : Int) : hansw (k + 1) n hs b m c l i = stepA n hs b l i fun l' => hansw k n hs b m c l' (i + 1) := by kernel_rfl
theorem answ_l (n : Int) (hs : List HeadD) (b : List UInt8) (m : Int) (c : List UInt8) : ∀ (r i k : Nat) (l : List HeadD), 12 = i + r → r < k → l.length ≤ i → hansw k n hs b m c l (i : Int) = some ((n, l ++ ((hs.drop i).take r).map cutHd, cut b 400, ()), ()) := by
  intro r
  induction r with
  | zero =>
    intro i k l hi hk hl
    obtain ⟨k, rfl⟩ : ∃ m, k = m + 1 := ⟨k - 1, by omega⟩
    rw [eansw_0]
    unfold stepA
    rw [cdF (show ¬ (i : Int) < 12 by omega), List.take_zero, List.map_nil, List.append_nil]
    cases decide ((i : Int) < (hs.length : Int)) <;> rfl
  | succ r ih =>
    intro i k l hi hk hl
    obtain ⟨k, rfl⟩ : ∃ m, k = m + 1 := ⟨k - 1, by omega⟩
    rw [eansw_0]
    unfold stepA
    by_cases h1 : i < hs.length
    · have d1 : hs.drop i = hs.getD i (HeadT).dflt :: hs.drop (i + 1) := by
        rw [List.drop_eq_getElem_cons h1, List.getD_eq_getElem?_getD, List.getElem?_eq_getElem h1]; rfl
      have := ih (i + 1) k (l ++ [cutHd (hs.getD i (HeadT).dflt)]) (by omega) (by omega) (by rw [List.length_append, List.length_singleton]; omega)
      simp only [Int.natCast_add, Int.natCast_one] at this
      rw [cdT (by omega), cdT (by omega), show (i : Int).toNat = i from rfl, gdT (inK_i64.2 ⟨by omega, by omega⟩), gdT (by rw [List.length_singleton]; omega), gdT h1, gdT (by omega), gdT (by omega), gdT h1, gdT (by omega), gdT (by omega), xG]
      refine Eq.trans this ?_
      rw [d1, List.take_succ_cons, List.map_cons, List.append_assoc]; rfl
    · rw [cdF (by omega), List.drop_eq_nil_of_le (by omega), List.take_nil, List.map_nil, List.append_nil]
theorem answ_c : PC 14 answS := (pureO (sh := shOf shansw) (envS_ok (l := [(15, cutS)]) ⟨cut_c, trivial⟩) gl_ne Tryz.func14 (by kernel_rfl) (by decide)).nice fun ⟨⟨n, hs, b, ()⟩, ()⟩ _ => by
  show oansw _ = some ((n, (hs.take 12).map cutHd, cut b 400, ()), ())
  rw [oansw_g, eansw_g]
  exact answ_l n hs b 0 [] 12 0 heads0 [] rfl (by unfold heads0; omega) (Nat.zero_le _)
end Go.Proofs.YtnblkjapeiaedaaGreatDoor
