/-
  Part of the proof: SayS SayT SayU. No condition.
-/
import Derived.Test.YtnblkjapeiaedaaGreatDoorP4
namespace Nice
open Go Go.Eng
abbrev EO := Option (RdrD × Int × Unit)
/-- bytes read, the body's length, the heads, the error -/
abbrev DR := Int × Int × List HeadD × Int
def dO (s : List UInt8) (st : Int) (b : List UInt8) (a : Int) (d : DR) : EO := some ((s, a + d.1, d.2.1, (st, d.2.2.1, b, ()), ()), d.2.2.2, ())
noncomputable def zdE (s : List UInt8) (a bo st : Int) (hs : List HeadD) (b : List UInt8) (h : HR) (nx : EO) : EO :=
  bif h.2.2.2.1 then gd [rdrP (s, a, bo, (st, hs, b, ()), ())] (bif h.2.2.2.2 != 0 then some ((s, a + h.1, h.2.1, (st, h.2.2.1, b, ()), ()), h.2.2.2.2, ()) else some ((s, a + h.1, h.2.1, (st, h.2.2.1, b, ()), ()), h.2.2.2.2, ()))
  else gd [rdrP (s, a, bo, (st, hs, b, ()), ())] (bif h.2.2.2.2 != 0 then some ((s, a + h.1, h.2.1, (st, h.2.2.1, b, ()), ()), h.2.2.2.2, ()) else nx)
noncomputable def zdS (s : List UInt8) (a bo st : Int) (hs : List HeadD) (b : List UInt8) (h : HR) (nx : EO) : EO :=
  bif st == 204 then (bif hasPre (s.drop a.toNat) [13] then gd [rdrP (s, a, bo, (st, hs, b, ()), ()), decide (0 ≤ a), decide (a ≤ (s.length : Int))] (some ((s, a + litK (s.drop a.toNat) [13, 10], bo, (st, hs, b, ()), ()), litE (s.drop a.toNat) [13, 10], ()))
    else gd [decide (0 ≤ a), decide (a ≤ (s.length : Int))] (zdE s a bo st hs b h nx))
  else zdE s a bo st hs b h nx
/-- all lines of heads; `k` is fuel -/
def hdsF (st : Int) : Nat → Int → List HeadD → List UInt8 → DR
  | 0, bo, hs, _ => (0, bo, hs, 1)
  | k + 1, bo, hs, r =>
    bif st == 204 && hasPre r [13] then (litK r [13, 10], bo, hs, litE r [13, 10])
    else bif (hedN st bo hs r).2.2.2.1 || ((hedN st bo hs r).2.2.2.2 != 0) then ((hedN st bo hs r).1, (hedN st bo hs r).2.1, (hedN st bo hs r).2.2.1, (hedN st bo hs r).2.2.2.2)
    else ((hedN st bo hs r).1 + (hdsF st k (hedN st bo hs r).2.1 (hedN st bo hs r).2.2.1 (r.drop (hedN st bo hs r).1.toNat)).1, (hdsF st k (hedN st bo hs r).2.1 (hedN st bo hs r).2.2.1 (r.drop (hedN st bo hs r).1.toNat)).2)
end Nice
namespace Go.Proofs.YtnblkjapeiaedaaGreatDoor
open Go Go.Eng Nice Go.RowKit
set_option maxRecDepth 1000000
abbrev shhds : List (Nat × List (Nat × Sh)) := [(1, [(0, (.obj [.sym, .sym, .sym, .sym, (.vec (.pair .str (.pair .str .unit)) 61), .sym])), (2, (.one .sym))])]
noncomputable def hhds (n : Nat) (s : List UInt8) (a bo st : Int) (hs : List HeadD) (b : List UInt8) (t2 : Int) : EO := rHO Tryz.prog (envO [(69, hasPreS)] [(68, litS), (70, hedS)]) (shOf shhds) Tryz.f43 sigErr [11] n 0 [(0, .pointer (some ⟨11, 0, none⟩)), (2, sy (.int .i64 t2))] [.vec (.pair .str (.pair .str .unit)) hs 61, .row [sy (.string (bs s)), sy (.int .i64 a), sy (.int .i64 bo), sy (.int .i64 st), dt 10, sy (.string (bs b))] 78 false]
noncomputable def ohds (x : RdrD) (y : Unit) : EO := fOO Tryz.prog (envO [(69, hasPreS)] [(68, litS), (70, hedS)]) (shOf shhds) Tryz.f43 sigErr x y
theorem ehds_g (N : Nat) (s : List UInt8) (a bo st : Int) (hs : List HeadD) (b : List UInt8) : fOON Tryz.prog (envO [(69, hasPreS)] [(68, litS), (70, hedS)]) (shOf shhds) Tryz.f43 sigErr N (s, a, bo, (st, hs, b, ()), ()) () = hhds N s a bo st hs b 0 := by kernel_rfl
theorem ohds_g (x : RdrD) (y : Unit) : ohds x y = fOON Tryz.prog (envO [(69, hasPreS)] [(68, litS), (70, hedS)]) (shOf shhds) Tryz.f43 sigErr heads0 x y := rfl
theorem ehds_0 (n : Nat) (s : List UInt8) (a bo st : Int) (hs : List HeadD) (b : List UInt8) (t2 : Int) : hhds (n + 1) s a bo st hs b t2 =
  zdS s a bo st hs b (hedN st bo hs (s.drop a.toNat)) (hhds n s (a + (hedN st bo hs (s.drop a.toNat)).1) (hedN st bo hs (s.drop a.toNat)).2.1 st (hedN st bo hs (s.drop a.toNat)).2.2.1 b t2) := by kernel_rfl
end Go.Proofs.YtnblkjapeiaedaaGreatDoor
namespace Nice
open Go Go.Eng
theorem cutRE_ne (st : Int) (hs : List HeadD) (r : List UInt8) : cutRE st hs r ≠ 0 := by
  unfold cutRE
  cases decide ((hs.length : Int) < 10)
  · cases (bif st != 204 then hasPre lengthW r else r == []) <;> (intro h; exact absurd h (by decide))
  · intro h; exact absurd (show (2 : Int) = 0 from h) (by decide)
noncomputable def hdsS : OSpec := niceO sigErr (fun x _ => rdrP x) fun x _ => ((x.1, x.2.1 + (hdsF x.2.2.2.1.1 11 x.2.2.1 x.2.2.2.1.2.1 (restR x)).1, (hdsF x.2.2.2.1.1 11 x.2.2.1 x.2.2.2.1.2.1 (restR x)).2.1, (x.2.2.2.1.1, (hdsF x.2.2.2.1.1 11 x.2.2.1 x.2.2.2.1.2.1 (restR x)).2.2.1, x.2.2.2.1.2.2.1, ()), ()), (hdsF x.2.2.2.1.1 11 x.2.2.1 x.2.2.2.1.2.1 (restR x)).2.2.2, ())
theorem valC_bnd (r : List UInt8) : 0 ≤ (valC r).1 ∧ (valC r).1 ≤ (r.length : Int) := by
  obtain ⟨n1, n2⟩ := run_bnd 66 r
  unfold valC valM
  generalize runLN 66 r = n at n1 n2 ⊢
  have hk := litK_bnd (r.drop n.toNat) [13, 10]
  rw [List.length_drop] at hk
  cases decide (n > 100)
  case true => exact ⟨Int.le_refl _, by show (0 : Int) ≤ _; omega⟩
  cases hasPre (r.take n.toNat) [32]
  case true => exact ⟨Int.le_refl _, by show (0 : Int) ≤ _; omega⟩
  cases n == (r.length : Int)
  case true =>
    cases n == 100 && hasSuf (r.take n.toNat) [32] <;> exact ⟨Int.le_refl _, by show (0 : Int) ≤ _; omega⟩
  cases hasSuf (r.take n.toNat) [32]
  case true => exact ⟨Int.le_refl _, by show (0 : Int) ≤ _; omega⟩
  exact ⟨show 0 ≤ n + litK (r.drop n.toNat) [13, 10] by omega, show n + litK (r.drop n.toNat) [13, 10] ≤ (r.length : Int) by omega⟩
theorem hedN_ok (st bo : Int) (hs : List HeadD) (r : List UInt8) : (hedN st bo hs r).2.2.2.1 = false → (hedN st bo hs r).2.2.2.2 = 0 → hs.length < 10 ∧ (hedN st bo hs r).2.2.1.length = hs.length + 1 ∧ 0 ≤ (hedN st bo hs r).1 ∧ (hedN st bo hs r).1 ≤ (r.length : Int) := by
  obtain ⟨n1, n2⟩ := run_bnd 64 r
  unfold hedN hedM
  generalize runLN 64 r = n at n1 n2 ⊢
  cases decide (n > 30)
  case true => intro _ h; exact absurd (show (1 : Int) = 0 from h) (by decide)
  cases n == (r.length : Int)
  case true => intro _ h; exact absurd (show cutRE st hs r = 0 from h) (cutRE_ne st hs r)
  cases n == 0
  case true => intro _ h; exact absurd (show (1 : Int) = 0 from h) (by decide)
  cases ((r.getD n.toNat 0).toNat : Int) != 58
  case true => intro _ h; exact absurd (show (1 : Int) = 0 from h) (by decide)
  cases r.take n.toNat == lengthW && st != 204
  case true => intro h; exact absurd (show true = false from h) (by decide)
  simp only [cond_false]
  unfold hedT
  cases resN (r.take n.toNat)
  case true => intro _ h; exact absurd (show (1 : Int) = 0 from h) (by decide)
  by_cases c : (hs.length : Int) ≥ 10
  · rw [cdT c]; intro _ h; exact absurd (show (1 : Int) = 0 from h) (by decide)
  rw [cdF c]
  cases e : litE (r.drop n.toNat) [58, 32] != 0
  case true => intro _ h; exact absurd (show litE (r.drop n.toNat) [58, 32] = 0 from h) (bne_iff_ne.1 e)
  simp only [cond_false]
  unfold hedV
  have hk := litK_bnd (r.drop n.toNat) [58, 32]
  have hv := valC_bnd ((r.drop n.toNat).drop (litK (r.drop n.toNat) [58, 32]).toNat)
  rw [List.length_drop, List.length_drop] at hv
  rw [List.length_drop] at hk
  cases e2 : (valC ((r.drop n.toNat).drop (litK (r.drop n.toNat) [58, 32]).toNat)).2.2 == 0
  case false => intro _ h; exact absurd h (beq_eq_false_iff_ne.1 e2)
  intro _ _
  refine ⟨by omega, ?_, ?_, ?_⟩
  · show (hs ++ [_]).length = _
    rw [List.length_append]; rfl
  · show 0 ≤ n + litK _ _ + (valC _).1
    omega
  · show n + litK _ _ + (valC _).1 ≤ _
    omega
end Nice
namespace Go.Proofs.YtnblkjapeiaedaaGreatDoor
open Go Go.Eng Nice Go.RowKit
set_option maxRecDepth 1000000
theorem hds_l (s : List UInt8) (st : Int) (b : List UInt8) (t2 : Int) (h3 : s.length ≤ 140737488355328) : ∀ (k N : Nat) (a bo : Int) (hs : List HeadD), 0 ≤ a → a ≤ (s.length : Int) → 11 ≤ k + hs.length → k ≤ N → 0 < k → hhds N s a bo st hs b t2 = dO s st b a (hdsF st k bo hs (s.drop a.toNat)) := by
  intro k
  induction k with
  | zero => intro N a bo hs _ _ _ _ h; exact absurd h (by decide)
  | succ k ih =>
    intro N a bo hs h1 h2 hk hN _
    obtain ⟨N, rfl⟩ : ∃ m, N = m + 1 := ⟨N - 1, by omega⟩
    have hp : rdrP (s, a, bo, (st, hs, b, ()), ()) = true := rdrP_iff.2 ⟨h1, h2, h3⟩
    have hd : (s.drop a.toNat).length = s.length - a.toNat := List.length_drop
    rw [ehds_0]
    have hE : zdE s a bo st hs b (hedN st bo hs (s.drop a.toNat)) (hhds N s (a + (hedN st bo hs (s.drop a.toNat)).1) (hedN st bo hs (s.drop a.toNat)).2.1 st (hedN st bo hs (s.drop a.toNat)).2.2.1 b t2) =
        dO s st b a (bif (hedN st bo hs (s.drop a.toNat)).2.2.2.1 || ((hedN st bo hs (s.drop a.toNat)).2.2.2.2 != 0) then ((hedN st bo hs (s.drop a.toNat)).1, (hedN st bo hs (s.drop a.toNat)).2.1, (hedN st bo hs (s.drop a.toNat)).2.2.1, (hedN st bo hs (s.drop a.toNat)).2.2.2.2)
    else ((hedN st bo hs (s.drop a.toNat)).1 + (hdsF st k (hedN st bo hs (s.drop a.toNat)).2.1 (hedN st bo hs (s.drop a.toNat)).2.2.1 ((s.drop a.toNat).drop (hedN st bo hs (s.drop a.toNat)).1.toNat)).1, (hdsF st k (hedN st bo hs (s.drop a.toNat)).2.1 (hedN st bo hs (s.drop a.toNat)).2.2.1 ((s.drop a.toNat).drop (hedN st bo hs (s.drop a.toNat)).1.toNat)).2)) := by
      have ok := hedN_ok st bo hs (s.drop a.toNat)
      unfold zdE
      generalize hedN st bo hs (s.drop a.toNat) = h at ok ⊢
      rw [gdB hp, gdB hp, xG, xG]
      cases e1 : h.2.2.2.1
      · cases e2 : h.2.2.2.2 != 0
        · have e3 : h.2.2.2.2 = 0 := by
            have := bne_eq_false_iff_eq.1 e2
            exact this
          obtain ⟨o1, o2, o3, o4⟩ := ok e1 e3
          rw [xF, xF, ih N (a + h.1) h.2.1 h.2.2.1 (by omega) (by omega) (by omega) (by omega) (by omega), drop_at s h1 o3]
          simp only [Bool.or_self, cond_false]
          unfold dO
          rw [Int.add_assoc a]
        · rfl
      · cases h.2.2.2.2 != 0 <;> rfl
    unfold zdS hdsF
    rw [hE]
    cases st == 204
    · rfl
    · cases hasPre (s.drop a.toNat) [13]
      · rw [xT, xF, gdT h1, gdT h2, xG]; rfl
      · rw [xT, xT, gdB hp, gdT h1, gdT h2, xG]; rfl
theorem hds_n (s : List UInt8) (a bo st : Int) (hs : List HeadD) (b : List UInt8) (h : rdrP (s, a, bo, (st, hs, b, ()), ()) = true) : ohds (s, a, bo, (st, hs, b, ()), ()) () = dO s st b a (hdsF st 11 bo hs (s.drop a.toNat)) := by
  obtain ⟨h1, h2, h3⟩ := rdrP_iff.1 h
  rw [ohds_g, ehds_g]
  exact hds_l s st b 0 h3 11 heads0 a bo hs h1 h2 (by omega) (by unfold heads0; omega) (by omega)
theorem hds_c : OC 43 hdsS := (objO (S := sigErr) (sh := shOf shhds) (envO_ok (l := [(69, hasPreS)]) (o := [(68, litS), (70, hedS)]) ⟨hp_c, trivial⟩ ⟨lit_c, hed_c, trivial⟩) gl_ne Tryz.func43 (by kernel_rfl) (by decide)).nice fun x ⟨⟩ h => by
  obtain ⟨s, a, bo, ⟨st, hs, b, ⟨⟩⟩, ⟨⟩⟩ := x
  exact hds_n s a bo st hs b h
end Go.Proofs.YtnblkjapeiaedaaGreatDoor
namespace Nice
open Go Go.Eng
def lineT (t : Int) : List UInt8 := fmtN t ++ [32] ++ wordsN t ++ [13, 10]
/-- bytes read, the status, the error -/
def staF (st : Int) (r : List UInt8) : Nat → Int → Int → Int × Int × Int
  | 0, _, e => (0, st, e)
  | k + 1, t, e => bif wordsN t == [] then staF st r k (t + 1) e else bif litE r (lineT t) == 0 then (litK r (lineT t), t, 0) else bif litE r (lineT t) == 2 then staF st r k (t + 1) 2 else staF st r k (t + 1) e
def staN (st : Int) (r : List UInt8) : Int × Int × Int :=
  bif litE r lineB != 0 then (litK r lineB, st, litE r lineB) else (litK r lineB + (staF st (r.drop (litK r lineB).toNat) 400 200 1).1, (staF st (r.drop (litK r lineB).toNat) 400 200 1).2)
noncomputable def staS : OSpec := niceO sigErr (fun x _ => rdrP x) fun x _ => ((x.1, x.2.1 + (staN x.2.2.2.1.1 (restR x)).1, x.2.2.1, ((staN x.2.2.2.1.1 (restR x)).2.1, x.2.2.2.1.2.1, x.2.2.2.1.2.2.1, ()), ()), (staN x.2.2.2.1.1 (restR x)).2.2, ())
noncomputable def zt (s : List UInt8) (a bo st : Int) (hs : List HeadD) (b : List UInt8) (e t : Int) (n1 : EO) (n2 n3 : EO) : EO :=
  bif decide (t < 600) then
    (bif wordsN t == [] then gd [decide (inK .i64 (t + 1))] n1
    else gd [rdrP (s, a, bo, (st, hs, b, ()), ()), decide ((fmtN t ++ [32] ++ wordsN t).length + 2 ≤ 1099511627776), decide ((fmtN t ++ [32]).length + (wordsN t).length ≤ 1099511627776), decide ((fmtN t).length + 1 ≤ 1099511627776), i64P t]
      (bif litE (s.drop a.toNat) (lineT t) == 0 then some ((s, a + litK (s.drop a.toNat) (lineT t), bo, (t, hs, b, ()), ()), 0, ())
      else bif litE (s.drop a.toNat) (lineT t) == 2 then gd [decide (inK .i64 (t + 1))] n2 else gd [decide (inK .i64 (t + 1))] n3))
  else some ((s, a, bo, (st, hs, b, ()), ()), e, ())
theorem litK_0 {r l : List UInt8} (h : (litE r l == 0) = false) : litK r l = 0 := by
  unfold litE at h
  unfold litK
  cases e : hasPre r l
  · rfl
  · rw [e] at h; exact absurd (show ((0 : Int) == 0) = false from h) (by decide)
end Nice
namespace Go.Proofs.YtnblkjapeiaedaaGreatDoor
open Go Go.Eng Nice Go.RowKit
set_option maxRecDepth 1000000
abbrev shsta : List (Nat × List (Nat × Sh)) := [(6, [(0, (.obj [.sym, .sym, .sym, .sym, (.vec (.pair .str (.pair .str .unit)) 61), .sym])), (2, (.one .sym)), (3, (.one .sym)), (4, (.one .sym))])]
noncomputable def hsta (n : Nat) (s : List UInt8) (a bo st : Int) (hs : List HeadD) (b : List UInt8) (t2 e t : Int) : EO := rHO Tryz.prog (envO [(20, wordsS), (37, itoaS)] [(68, litS)]) (shOf shsta) Tryz.f42 sigErr [11] n 0 [(0, .pointer (some ⟨11, 0, none⟩)), (2, sy (.int .i64 t2)), (3, sy (.int .i64 e)), (4, sy (.int .i64 t))] [.vec (.pair .str (.pair .str .unit)) hs 61, .row [sy (.string (bs s)), sy (.int .i64 a), sy (.int .i64 bo), sy (.int .i64 st), dt 10, sy (.string (bs b))] 78 false]
noncomputable def osta (x : RdrD) (y : Unit) : EO := fOO Tryz.prog (envO [(20, wordsS), (37, itoaS)] [(68, litS)]) (shOf shsta) Tryz.f42 sigErr x y
theorem esta_g (N : Nat) (s : List UInt8) (a bo st : Int) (hs : List HeadD) (b : List UInt8) : fOON Tryz.prog (envO [(20, wordsS), (37, itoaS)] [(68, litS)]) (shOf shsta) Tryz.f42 sigErr N (s, a, bo, (st, hs, b, ()), ()) () =
  gd [rdrP (s, a, bo, (st, hs, b, ()), ())] (bif litE (s.drop a.toNat) lineB != 0 then some ((s, a + litK (s.drop a.toNat) lineB, bo, (st, hs, b, ()), ()), litE (s.drop a.toNat) lineB, ())
    else hsta N s (a + litK (s.drop a.toNat) lineB) bo st hs b 0 1 200) := by kernel_rfl
theorem osta_g (x : RdrD) (y : Unit) : osta x y = fOON Tryz.prog (envO [(20, wordsS), (37, itoaS)] [(68, litS)]) (shOf shsta) Tryz.f42 sigErr heads0 x y := rfl
theorem esta_0 (n : Nat) (s : List UInt8) (a bo st : Int) (hs : List HeadD) (b : List UInt8) (t2 e t : Int) : hsta (n + 1) s a bo st hs b t2 e t =
  zt s a bo st hs b e t (hsta n s a bo st hs b t2 e (t + 1)) (hsta n s (a + litK (s.drop a.toNat) (lineT t)) bo st hs b t2 2 (t + 1)) (hsta n s (a + litK (s.drop a.toNat) (lineT t)) bo st hs b t2 e (t + 1)) := by kernel_rfl
theorem sta_l (s : List UInt8) (a bo st : Int) (hs : List HeadD) (b : List UInt8) (t2 : Int) (hp : rdrP (s, a, bo, (st, hs, b, ()), ()) = true) : ∀ (k N : Nat) (t e : Int), t + (k : Int) = 600 → 0 ≤ t → k < N → hsta N s a bo st hs b t2 e t = some ((s, a + (staF st (s.drop a.toNat) k t e).1, bo, ((staF st (s.drop a.toNat) k t e).2.1, hs, b, ()), ()), (staF st (s.drop a.toNat) k t e).2.2, ()) := by
  intro k
  induction k with
  | zero =>
    intro N t e ht _ hN
    obtain ⟨N, rfl⟩ : ∃ m, N = m + 1 := ⟨N - 1, by omega⟩
    rw [esta_0]
    unfold zt staF
    rw [cdF (by omega)]
    show some ((s, a, _), _) = some ((s, a + 0, _), _)
    rw [Int.add_zero]
  | succ k ih =>
    intro N t e ht h0 hN
    obtain ⟨N, rfl⟩ : ∃ m, N = m + 1 := ⟨N - 1, by omega⟩
    have hk : inK .i64 (t + 1) := inK_i64.2 ⟨by omega, by omega⟩
    have i1 := ih N (t + 1) e (by omega) (by omega) (by omega)
    have i2 := ih N (t + 1) 2 (by omega) (by omega) (by omega)
    rw [esta_0]
    unfold zt staF
    rw [cdT (by omega)]
    cases hw : wordsN t == []
    · obtain ⟨a1, a2, a3⟩ := st_len (n := t) (by rw [hw]; rfl)
      rw [xF, xF, gdB hp, gdT (by simp only [List.length_append, List.length_cons, List.length_nil]; omega), gdT (by simp only [List.length_append, List.length_cons, List.length_nil]; omega), gdT (by omega), gdB a3, xG]
      cases hl : litE (s.drop a.toNat) (lineT t) == 0
      · rw [litK_0 hl, Int.add_zero, gdT hk, gdT hk, xG, xG, i1, i2]
        cases litE (s.drop a.toNat) (lineT t) == 2 <;> rfl
      · rfl
    · rw [xT, xT, gdT hk, xG, i1]
theorem sta_n (s : List UInt8) (a bo st : Int) (hs : List HeadD) (b : List UInt8) (h : rdrP (s, a, bo, (st, hs, b, ()), ()) = true) : osta (s, a, bo, (st, hs, b, ()), ()) () = some ((s, a + (staN st (s.drop a.toNat)).1, bo, ((staN st (s.drop a.toNat)).2.1, hs, b, ()), ()), (staN st (s.drop a.toNat)).2.2, ()) := by
  obtain ⟨h1, h2, h3⟩ := rdrP_iff.1 h
  have h1 : (0 : Int) ≤ a := h1
  have h2 : a ≤ (s.length : Int) := h2
  have hd : (s.drop a.toNat).length = s.length - a.toNat := List.length_drop
  obtain ⟨k1, k2⟩ := litK_bnd (s.drop a.toNat) lineB
  rw [osta_g, esta_g, gdB h, xG]
  unfold staN
  cases litE (s.drop a.toNat) lineB != 0
  · rw [xF, xF, sta_l s _ bo st hs b 0 (rdrP_iff.2 ⟨show (0 : Int) ≤ a + litK (s.drop a.toNat) lineB by omega, show a + litK (s.drop a.toNat) lineB ≤ (s.length : Int) by omega, h3⟩) 400 heads0 200 1 (by decide) (by decide) (by unfold heads0; omega), drop_at s h1 k1, Int.add_assoc a]
  · rfl
theorem sta_c : OC 42 staS := (objO (S := sigErr) (sh := shOf shsta) (envO_ok (l := [(20, wordsS), (37, itoaS)]) (o := [(68, litS)]) ⟨words_c, itoa_c, trivial⟩ ⟨lit_c, trivial⟩) gl_ne Tryz.func42 (by kernel_rfl) (by decide)).nice fun x ⟨⟩ h => by
  obtain ⟨s, a, bo, ⟨st, hs, b, ⟨⟩⟩, ⟨⟩⟩ := x
  exact sta_n s a bo st hs b h
end Go.Proofs.YtnblkjapeiaedaaGreatDoor
