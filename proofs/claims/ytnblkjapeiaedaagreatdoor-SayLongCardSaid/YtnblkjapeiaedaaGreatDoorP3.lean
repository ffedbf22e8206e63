/-
  Part of the proof: SayG SayH. No condition.
-/
import Derived.Test.YtnblkjapeiaedaaGreatDoorP2
import Derived.Test.YtnblkjapeiaedaaGreatDoorEng11
namespace Nice
open Go Go.Eng
abbrev AnsO : OT := .pair (.d (.int .i64)) (.pair (.vec (.pair .str (.pair .str .unit)) 61) (.pair (.d .str) .unit))
abbrev RdrO : OT := .pair (.d .str) (.pair (.d (.int .i64)) (.pair (.d (.int .i64)) (.pair AnsO .unit)))
abbrev RdrD := List UInt8 × Int × Int × (Int × List HeadD × List UInt8 × Unit) × Unit
noncomputable abbrev sigLit : OSpec := ⟨true, 0, RdrO, 78, [.d .str], [.d (.int .i64)], fun _ _ => true, fun x _ => (x, (0 : Int), ())⟩
noncomputable abbrev sigErr : OSpec := ⟨true, 0, RdrO, 78, [], [.d (.int .i64)], fun _ _ => true, fun x _ => (x, (0 : Int), ())⟩
noncomputable abbrev sigHd : OSpec := ⟨true, 0, RdrO, 78, [], [.d .bool, .d (.int .i64)], fun _ _ => true, fun x _ => (x, false, (0 : Int), ())⟩
noncomputable abbrev sigVal : OSpec := ⟨true, 0, RdrO, 78, [], [.d .str, .d (.int .i64)], fun _ _ => true, fun x _ => (x, [], (0 : Int), ())⟩
/-- what is left -/
def restR (x : RdrD) : List UInt8 := x.1.drop x.2.1.toNat
/-- a reader stands within its text -/
def rdrP (x : RdrD) : Bool := decide (0 ≤ x.2.1) && (decide (x.2.1 ≤ (x.1.length : Int)) && bndS x.1)
def litE (r l : List UInt8) : Int := bif hasPre r l then 0 else bif hasPre l r then 2 else 1
def litK (r l : List UInt8) : Int := bif hasPre r l then (l.length : Int) else 0
def lengthW : List UInt8 := [67, 111, 110, 116, 101, 110, 116, 45, 76, 101, 110, 103, 116, 104]
def cutRE (st : Int) (hs : List HeadD) (l : List UInt8) : Int := bif decide ((hs.length : Int) < 10) then 2 else bif (bif st != 204 then hasPre lengthW l else l == []) then 2 else 1
noncomputable def litS : OSpec := niceO sigLit (fun x _ => rdrP x) fun x y => ((x.1, x.2.1 + litK (restR x) y.1, x.2.2), litE (restR x) y.1, ())
noncomputable def cutRS : OSpec := niceO sigLit (fun _ _ => true) fun x y => (x, cutRE x.2.2.2.1.1 x.2.2.2.1.2.1 y.1, ())
theorem hasPre_len {s p : List UInt8} (h : hasPre s p = true) : p.length ≤ s.length := by
  unfold hasPre at h
  rw [Bool.and_eq_true, decide_eq_true_eq] at h
  exact h.1
theorem rdrP_iff {x : RdrD} : rdrP x = true ↔ 0 ≤ x.2.1 ∧ x.2.1 ≤ (x.1.length : Int) ∧ x.1.length ≤ 140737488355328 := by
  unfold rdrP bndS
  rw [Bool.and_eq_true, Bool.and_eq_true, decide_eq_true_eq, decide_eq_true_eq, decide_eq_true_eq]
end Nice
namespace Go.Proofs.YtnblkjapeiaedaaGreatDoor
open Go Go.Eng Nice Go.RowKit
set_option maxRecDepth 1000000
noncomputable def ohp0 (x : DenL [.str, .str]) : Option (DenL [.bool]) := fO Tryz.prog (envS []) (shOf []) Tryz.f103 [.str, .str] [.bool] x
theorem ehp0 (s p : List UInt8) : ohp0 (s, p, ()) = (bif decide ((s.length : Int) ≥ (p.length : Int)) then (bif List.take (p.length : Int).toNat s == p then gd [decide ((p.length : Int) ≤ (s.length : Int))] (some (true, ())) else gd [decide ((p.length : Int) ≤ (s.length : Int))] (some (false, ()))) else some (false, ())) := by kernel_rfl
theorem hp0_n (s p : List UInt8) : ohp0 (s, p, ()) = some (hasPre s p, ()) := by
  rw [ehp0]
  unfold hasPre
  by_cases h : p.length ≤ s.length
  · rw [cdT (by omega), decide_eq_true h, Bool.true_and, gdT (by omega), gdT (by omega), gd_nil, gd_nil, Int.toNat_natCast]
    cases (s.take p.length == p) <;> rfl
  · rw [cdF (by omega), decide_eq_false h, Bool.false_and]
theorem hp0_c : PC 103 hasPreS := (pureO (envS_ok (l := []) trivial) gl_ne Tryz.func103 (by kernel_rfl) (by decide)).nice fun ⟨s, p, ()⟩ _ => hp0_n s p
noncomputable def ohp (x : DenL [.str, .str]) : Option (DenL [.bool]) := fO Tryz.prog (envS [(103, hasPreS)]) (shOf []) Tryz.f69 [.str, .str] [.bool] x
theorem ehp (s p : List UInt8) : ohp (s, p, ()) = (bif hasPre s p then some (true, ()) else some (false, ())) := by kernel_rfl
theorem hp_c : PC 69 hasPreS := (pureO (envS_ok (l := [(103, hasPreS)]) ⟨hp0_c, trivial⟩) gl_ne Tryz.func69 (by kernel_rfl) (by decide)).nice fun ⟨s, p, ()⟩ _ => by
  show ohp _ = some (hasPre s p, ())
  rw [ehp]; cases hasPre s p <;> rfl
noncomputable def ohs0 (x : DenL [.str, .str]) : Option (DenL [.bool]) := fO Tryz.prog (envS []) (shOf []) Tryz.f189 [.str, .str] [.bool] x
theorem ehs0 (s p : List UInt8) : ohs0 (s, p, ()) = (bif decide ((s.length : Int) ≥ (p.length : Int)) then (bif List.drop ((s.length : Int) - (p.length : Int)).toNat s == p then gd [decide ((0 : Int) ≤ (s.length : Int) - (p.length : Int)), decide ((s.length : Int) - (p.length : Int) ≤ (s.length : Int)), decide (inK .i64 ((s.length : Int) - (p.length : Int)))] (some (true, ())) else gd [decide ((0 : Int) ≤ (s.length : Int) - (p.length : Int)), decide ((s.length : Int) - (p.length : Int) ≤ (s.length : Int)), decide (inK .i64 ((s.length : Int) - (p.length : Int)))] (some (false, ()))) else some (false, ())) := by kernel_rfl
noncomputable def hasSufT : PSpec := ⟨[.str, .str], [.bool], fun x => bndS x.1, fun x => (hasSuf x.1 x.2.1, ())⟩
theorem hs0_c : PC 189 hasSufT := (pureO (envS_ok (l := []) trivial) gl_ne Tryz.func189 (by kernel_rfl) (by decide)).nice fun ⟨s, p, ()⟩ h => by
  have h : s.length ≤ 140737488355328 := of_decide_eq_true h
  show ohs0 _ = some (hasSuf s p, ())
  rw [ehs0]
  unfold hasSuf
  by_cases e : p.length ≤ s.length
  · have hk : inK .i64 ((s.length : Int) - (p.length : Int)) := inK_i64.2 ⟨by omega, by omega⟩
    rw [cdT (by omega), decide_eq_true e, Bool.true_and, gdT (by omega), gdT (by omega), gdT hk, gdT (by omega), gdT (by omega), gdT hk, gd_nil, gd_nil, show ((s.length : Int) - (p.length : Int)).toNat = s.length - p.length by omega]
    cases (s.drop (s.length - p.length) == p) <;> rfl
  · rw [cdF (by omega), decide_eq_false e, Bool.false_and]
noncomputable def ohs (x : DenL [.str, .str]) : Option (DenL [.bool]) := fO Tryz.prog (envS [(189, hasSufT)]) (shOf []) Tryz.f139 [.str, .str] [.bool] x
theorem ehs (s p : List UInt8) : ohs (s, p, ()) = (bif hasSuf s p then gd [bndS s] (some (true, ())) else gd [bndS s] (some (false, ()))) := by kernel_rfl
theorem hs_c : PC 139 hasSufT := (pureO (envS_ok (l := [(189, hasSufT)]) ⟨hs0_c, trivial⟩) gl_ne Tryz.func139 (by kernel_rfl) (by decide)).nice fun ⟨s, p, ()⟩ h => by
  have h : bndS s = true := h
  show ohs _ = some (hasSuf s p, ())
  rw [ehs, gdB h, gdB h, xG, xG]; cases hasSuf s p <;> rfl
/-! ### literals -/
noncomputable def olit (x : RdrD) (y : List UInt8 × Unit) : Option (RdrD × Int × Unit) := fOO Tryz.prog (envO [(69, hasPreS)] []) (shOf []) Tryz.f68 sigLit x y
theorem elit_g (N : Nat) (s : List UInt8) (a bo st : Int) (hs : List HeadD) (b l : List UInt8) : fOON Tryz.prog (envO [(69, hasPreS)] []) (shOf []) Tryz.f68 sigLit N (s, a, bo, (st, hs, b, ()), ()) (l, ()) =
  gd [decide (0 ≤ a), decide (a ≤ (s.length : Int))] (bif hasPre (s.drop a.toNat) l then gd [decide (inK .i64 (a + (l.length : Int)))] (some ((s, a + (l.length : Int), bo, (st, hs, b, ()), ()), (0 : Int), ()))
   else bif hasPre l (s.drop a.toNat) then some ((s, a, bo, (st, hs, b, ()), ()), (2 : Int), ()) else some ((s, a, bo, (st, hs, b, ()), ()), (1 : Int), ())) := by kernel_rfl
theorem olit_g (x : RdrD) (y : List UInt8 × Unit) : olit x y = fOON Tryz.prog (envO [(69, hasPreS)] []) (shOf []) Tryz.f68 sigLit heads0 x y := rfl
theorem lit_n (s : List UInt8) (a bo st : Int) (hs : List HeadD) (b l : List UInt8) (h1 : 0 ≤ a) (h2 : a ≤ (s.length : Int)) (h3 : s.length ≤ 140737488355328) : olit (s, a, bo, (st, hs, b, ()), ()) (l, ()) = some ((s, a + litK (s.drop a.toNat) l, bo, (st, hs, b, ()), ()), litE (s.drop a.toNat) l, ()) := by
  rw [olit_g, elit_g, gdT h1, gdT h2, xG]
  unfold litK litE
  cases e : hasPre (s.drop a.toNat) l
  · simp only [cond_false, Int.add_zero]
    cases hasPre l (s.drop a.toNat) <;> rfl
  · have := hasPre_len e
    rw [List.length_drop] at this
    rw [xT, xT, xT, gdT (inK_i64.2 ⟨by omega, by omega⟩), xG]
theorem lit_c : OC 68 litS := (objO (S := sigLit) (sh := shOf []) (envO_ok (l := [(69, hasPreS)]) (o := []) ⟨hp_c, trivial⟩ trivial) gl_ne Tryz.func68 (by kernel_rfl) (by decide)).nice fun x ⟨l, ()⟩ h => by
  obtain ⟨s, a, bo, ⟨st, hs, b, ⟨⟩⟩, ⟨⟩⟩ := x
  obtain ⟨h1, h2, h3⟩ := rdrP_iff.1 (show rdrP (s, a, bo, (st, hs, b, ()), ()) = true from h)
  exact lit_n s a bo st hs b l h1 h2 h3
noncomputable def ocutR (x : RdrD) (y : List UInt8 × Unit) : Option (RdrD × Int × Unit) := fOO Tryz.prog (envO [(69, hasPreS)] []) (shOf []) Tryz.f104 sigLit x y
def cE (x : RdrD) (n : Int) : Option (RdrD × Int × Unit) := some (x, n, ())
theorem ecutR_g (N : Nat) (s : List UInt8) (a bo st : Int) (hs : List HeadD) (b l : List UInt8) : fOON Tryz.prog (envO [(69, hasPreS)] []) (shOf []) Tryz.f104 sigLit N (s, a, bo, (st, hs, b, ()), ()) (l, ()) =
  (bif decide ((hs.length : Int) < 10) then cE (s, a, bo, (st, hs, b, ()), ()) 2
   else bif st != 204 then (bif hasPre lengthW l then cE (s, a, bo, (st, hs, b, ()), ()) 2 else bif st == 204 then (bif l == [] then cE (s, a, bo, (st, hs, b, ()), ()) 2 else cE (s, a, bo, (st, hs, b, ()), ()) 1) else cE (s, a, bo, (st, hs, b, ()), ()) 1)
   else bif st == 204 then (bif l == [] then cE (s, a, bo, (st, hs, b, ()), ()) 2 else cE (s, a, bo, (st, hs, b, ()), ()) 1) else cE (s, a, bo, (st, hs, b, ()), ()) 1) := by kernel_rfl
theorem ocutR_g (x : RdrD) (y : List UInt8 × Unit) : ocutR x y = fOON Tryz.prog (envO [(69, hasPreS)] []) (shOf []) Tryz.f104 sigLit heads0 x y := rfl
theorem cutR_c : OC 104 cutRS := (objO (S := sigLit) (sh := shOf []) (envO_ok (l := [(69, hasPreS)]) (o := []) ⟨hp_c, trivial⟩ trivial) gl_ne Tryz.func104 (by kernel_rfl) (by decide)).nice fun x ⟨l, ()⟩ _ => by
  obtain ⟨s, a, bo, ⟨st, hs, b, ⟨⟩⟩, ⟨⟩⟩ := x
  show ocutR _ _ = some ((s, a, bo, (st, hs, b, ()), ()), cutRE st hs l, ())
  rw [ocutR_g, ecutR_g]
  unfold cutRE bne
  cases decide ((hs.length : Int) < 10)
  · cases st == 204
    · cases hasPre lengthW l <;> rfl
    · cases l == [] <;> rfl
  · rfl
end Go.Proofs.YtnblkjapeiaedaaGreatDoor
namespace Nice
open Go Go.Eng
abbrev VR := RdrD × List UInt8 × Int × Unit
def vE (x : RdrD) (n : Int) : VR := (x, [], n, ())
/-- where a literal behind some bytes leaves a reader -/
def onR (x : RdrD) (n : Int) : RdrD := (x.1, x.2.1 + n, x.2.2)
def valN (x : RdrD) (r : List UInt8) (n : Int) : VR :=
  bif decide (n > 100) then vE x 1 else bif hasPre (r.take n.toNat) [32] then vE x 1
  else bif n == (r.length : Int) then (bif n == 100 && hasSuf (r.take n.toNat) [32] then vE x 1 else vE x 2)
  else bif hasSuf (r.take n.toNat) [32] then vE x 1
  else (onR x (n + litK (restR (onR x n)) [13, 10]), r.take n.toNat, litE (restR (onR x n)) [13, 10], ())
noncomputable def vL (s : List UInt8) (a bo st : Int) (hs : List HeadD) (b : List UInt8) (r : List UInt8) (n : Int) : Option VR :=
  gd [rdrP (s, a + n, bo, (st, hs, b, ()), ()), decide (inK .i64 (a + n))] (some ((s, a + n + litK (s.drop (a + n).toNat) [13, 10], bo, (st, hs, b, ()), ()), r.take n.toNat, litE (s.drop (a + n).toNat) [13, 10], ()))
def vT (r : List UInt8) (n : Int) (x : RdrD) (l : Option VR) : Option VR :=
  bif hasSuf (r.take n.toNat) [32] then gd [bndS (r.take n.toNat)] <|
    bif decide (n > 100) then some (vE x 1) else bif hasPre (r.take n.toNat) [32] then some (vE x 1) else bif n == (r.length : Int) then (bif n == 100 then some (vE x 1) else bif n == (r.length : Int) then some (vE x 2) else some (vE x 1)) else bif n == (r.length : Int) then some (vE x 2) else some (vE x 1)
  else gd [bndS (r.take n.toNat)] <| bif decide (n > 100) then some (vE x 1) else bif hasPre (r.take n.toNat) [32] then some (vE x 1) else bif n == (r.length : Int) then (bif n == 100 then (bif n == (r.length : Int) then some (vE x 2) else l) else (bif n == (r.length : Int) then some (vE x 2) else l)) else (bif n == (r.length : Int) then some (vE x 2) else l)
theorem run_bnd (k : Nat) (s : List UInt8) : 0 ≤ runLN k s ∧ runLN k s ≤ (s.length : Int) := by
  unfold runLN
  have := (List.takeWhile_sublist (kindB k) (l := s)).length_le
  omega
end Nice
namespace Go.Proofs.YtnblkjapeiaedaaGreatDoor
open Go Go.Eng Nice Go.RowKit
set_option maxRecDepth 1000000
noncomputable def oval (x : RdrD) (y : Unit) : Option VR := fOO Tryz.prog (envO [(63, runS), (69, hasPreS), (139, hasSufT)] [(68, litS)]) (shOf []) Tryz.f106 sigVal x y
theorem eval_g (N : Nat) (s : List UInt8) (a bo st : Int) (hs : List HeadD) (b : List UInt8) : fOON Tryz.prog (envO [(63, runS), (69, hasPreS), (139, hasSufT)] [(68, litS)]) (shOf []) Tryz.f106 sigVal N (s, a, bo, (st, hs, b, ()), ()) () =
  gd [decide (0 ≤ runLN 66 (s.drop a.toNat)), decide (runLN 66 (s.drop a.toNat) ≤ ((s.drop a.toNat).length : Int)), bndS (s.drop a.toNat) && kindP 66, decide (0 ≤ a), decide (a ≤ (s.length : Int))] (vT (s.drop a.toNat) (runLN 66 (s.drop a.toNat)) (s, a, bo, (st, hs, b, ()), ()) (vL s a bo st hs b (s.drop a.toNat) (runLN 66 (s.drop a.toNat)))) := by kernel_rfl
theorem oval_g (x : RdrD) (y : Unit) : oval x y = fOON Tryz.prog (envO [(63, runS), (69, hasPreS), (139, hasSufT)] [(68, litS)]) (shOf []) Tryz.f106 sigVal heads0 x y := rfl
theorem val_n (s : List UInt8) (a bo st : Int) (hs : List HeadD) (b : List UInt8) (h1 : 0 ≤ a) (h2 : a ≤ (s.length : Int)) (h3 : s.length ≤ 140737488355328) : oval (s, a, bo, (st, hs, b, ()), ()) () = some (valN (s, a, bo, (st, hs, b, ()), ()) (s.drop a.toNat) (runLN 66 (s.drop a.toNat))) := by
  rw [oval_g, eval_g]
  have hl : (s.drop a.toNat).length = s.length - a.toNat := List.length_drop
  obtain ⟨n1, n2⟩ := run_bnd 66 (s.drop a.toNat)
  have hr : bndS (s.drop a.toNat) = true := decide_eq_true (by omega)
  generalize hn : runLN 66 (s.drop a.toNat) = n at n1 n2 ⊢
  have ht : bndS ((s.drop a.toNat).take n.toNat) = true := decide_eq_true (by rw [List.length_take]; omega)
  rw [gdT n1, gdT n2, gdB (by rw [hr]; rfl), gdT h1, gdT h2, xG]
  have hL : vL s a bo st hs b (s.drop a.toNat) n = some (onR (s, a, bo, (st, hs, b, ()), ()) (n + litK (restR (onR (s, a, bo, (st, hs, b, ()), ()) n)) [13, 10]), (s.drop a.toNat).take n.toNat, litE (restR (onR (s, a, bo, (st, hs, b, ()), ()) n)) [13, 10], ()) := by
    unfold vL
    have hp : rdrP (s, a + n, bo, (st, hs, b, ()), ()) = true := rdrP_iff.2 ⟨show (0 : Int) ≤ a + n by omega, show a + n ≤ (s.length : Int) by omega, h3⟩
    rw [gdB hp, gdT (inK_i64.2 ⟨by omega, by omega⟩), xG]
    show some ((s, a + n + _, _), _) = some ((s, a + (n + _), _), _)
    rw [Int.add_assoc]; rfl
  rw [hL]
  unfold vT valN
  rw [gdB ht, xG, gdB ht, xG]
  cases hasSuf ((s.drop a.toNat).take n.toNat) [32] <;> cases decide (n > 100) <;> cases hasPre ((s.drop a.toNat).take n.toNat) [32] <;> cases n == ((s.drop a.toNat).length : Int) <;> cases n == 100 <;> rfl
end Go.Proofs.YtnblkjapeiaedaaGreatDoor
