/-
  Part of the proof: SayI SayJ SayK SayL. No condition.
-/
import Derived.Test.YtnblkjapeiaedaaGreatDoorP3
import Derived.Test.YtnblkjapeiaedaaGreatDoorAtoiW
namespace Nice
open Go Go.Eng
def crlf2 : List UInt8 := [13, 10, 13, 10]
/-- the bytes read, the body's length, the error -/
def sizV (r1 : List UInt8) (m k v : Int) : Int × Int × Int :=
  bif decide (v > 20000) then (k, v, 1) else bif m == (r1.length : Int) then (k, v, 2) else bif m == 0 then (k, v, 1) else (k + m + litK (r1.drop m.toNat) crlf2, v, litE (r1.drop m.toNat) crlf2)
def sizM (bo : Int) (r1 : List UInt8) (m k : Int) : Int × Int × Int :=
  bif decide (m > 5) then (k, bo, 1) else bif decide (m > 1) && (((r1.getD 0 0).toNat : Int) == 48) then (k, bo, 1) else sizV r1 m k (atoiN (r1.take m.toNat)).1
def sizN (bo : Int) (r : List UInt8) : Int × Int × Int :=
  bif litE r [58, 32] != 0 then (litK r [58, 32], bo, litE r [58, 32]) else sizM bo (r.drop (litK r [58, 32]).toNat) (runLN 137 (r.drop (litK r [58, 32]).toNat)) (litK r [58, 32])
noncomputable def sizS : OSpec := niceO sigErr (fun x _ => rdrP x) fun x _ => ((x.1, x.2.1 + (sizN x.2.2.1 (restR x)).1, (sizN x.2.2.1 (restR x)).2.1, x.2.2.2), (sizN x.2.2.1 (restR x)).2.2, ())
abbrev EA := Int × List HeadD × List UInt8 × Unit
noncomputable def zV (s : List UInt8) (an : EA) (a1 : Int) (r1 : List UInt8) (m v : Int) : Option (RdrD × Int × Unit) :=
  bif decide (v > 20000) then some ((s, a1, v, an, ()), 1, ()) else bif m == (r1.length : Int) then some ((s, a1, v, an, ()), 2, ()) else bif m == 0 then some ((s, a1, v, an, ()), 1, ())
  else gd [rdrP (s, a1 + m, v, an, ()), decide (inK .i64 (a1 + m))] (some ((s, a1 + m + litK (s.drop (a1 + m).toNat) [13, 10, 13, 10], v, an, ()), litE (s.drop (a1 + m).toNat) [13, 10, 13, 10], ()))
noncomputable def zM (s : List UInt8) (an : EA) (bo a1 : Int) (r1 : List UInt8) (m : Int) : Option (RdrD × Int × Unit) :=
  bif decide (m > 5) then some ((s, a1, bo, an, ()), 1, ()) else bif decide (m > 1) then
    (bif ((r1.getD 0 0).toNat : Int) == 48 then gd [decide ((0 : Int) < (r1.length : Int))] (some ((s, a1, bo, an, ()), 1, ()))
    else gd [atoiP (r1.take m.toNat), decide (0 ≤ m), decide (m ≤ (r1.length : Int)), decide ((0 : Int) < (r1.length : Int))] (zV s an a1 r1 m (atoiN (r1.take m.toNat)).1))
  else gd [atoiP (r1.take m.toNat), decide (0 ≤ m), decide (m ≤ (r1.length : Int))] (zV s an a1 r1 m (atoiN (r1.take m.toNat)).1)
noncomputable def zS (s : List UInt8) (an : EA) (bo a : Int) : Option (RdrD × Int × Unit) :=
  bif litE (s.drop a.toNat) [58, 32] != 0 then some ((s, a + litK (s.drop a.toNat) [58, 32], bo, an, ()), litE (s.drop a.toNat) [58, 32], ())
  else gd [bndS (s.drop (a + litK (s.drop a.toNat) [58, 32]).toNat) && kindP 137, decide (0 ≤ a + litK (s.drop a.toNat) [58, 32]), decide (a + litK (s.drop a.toNat) [58, 32] ≤ (s.length : Int))] (zM s an bo (a + litK (s.drop a.toNat) [58, 32]) (s.drop (a + litK (s.drop a.toNat) [58, 32]).toNat) (runLN 137 (s.drop (a + litK (s.drop a.toNat) [58, 32]).toNat)))
theorem litK_bnd (r l : List UInt8) : 0 ≤ litK r l ∧ litK r l ≤ (r.length : Int) := by
  unfold litK
  cases h : hasPre r l
  · rw [xF]; omega
  · have := hasPre_len h
    rw [xT]; omega
theorem drop_at (s : List UInt8) {a k : Int} (h1 : 0 ≤ a) (h2 : 0 ≤ k) : s.drop (a + k).toNat = (s.drop a.toNat).drop k.toNat := by
  rw [List.drop_drop, show (a + k).toNat = a.toNat + k.toNat by omega]
theorem zV_n (s : List UInt8) (an : EA) (a1 : Int) (m v k a : Int) (h0 : 0 ≤ a1) (h1 : a1 ≤ (s.length : Int)) (h3 : s.length ≤ 140737488355328) (hm : 0 ≤ m) (hl : m ≤ ((s.drop a1.toNat).length : Int)) (hk : a1 = a + k) :
    zV s an a1 (s.drop a1.toNat) m v = some ((s, a + (sizV (s.drop a1.toNat) m k v).1, (sizV (s.drop a1.toNat) m k v).2.1, an, ()), (sizV (s.drop a1.toNat) m k v).2.2, ()) := by
  have hd : (s.drop a1.toNat).length = s.length - a1.toNat := List.length_drop
  have hp : rdrP (s, a1 + m, v, an, ()) = true := rdrP_iff.2 ⟨show (0 : Int) ≤ a1 + m by omega, show a1 + m ≤ (s.length : Int) by omega, h3⟩
  unfold zV sizV
  rw [gdB hp, gdT (inK_i64.2 ⟨by omega, by omega⟩), xG, drop_at s h0 hm]
  cases decide (v > 20000)
  · cases m == ((s.drop a1.toNat).length : Int)
    · cases m == 0
      · show some ((s, a1 + m + _, v, an, ()), _, ()) = some ((s, a + (k + m + _), v, an, ()), _, ())
        rw [hk, show a + k + m = a + (k + m) by omega, Int.add_assoc a]; rfl
      · rw [hk]; rfl
    · rw [hk]; rfl
  · rw [hk]; rfl
theorem zS_n (s : List UInt8) (an : EA) (bo a : Int) (h1 : 0 ≤ a) (h2 : a ≤ (s.length : Int)) (h3 : s.length ≤ 140737488355328) :
    zS s an bo a = some ((s, a + (sizN bo (s.drop a.toNat)).1, (sizN bo (s.drop a.toNat)).2.1, an, ()), (sizN bo (s.drop a.toNat)).2.2, ()) := by
  have hd : (s.drop a.toNat).length = s.length - a.toNat := List.length_drop
  obtain ⟨k1, k2⟩ := litK_bnd (s.drop a.toNat) [58, 32]
  unfold zS sizN
  rw [← drop_at s h1 k1]
  generalize litK (s.drop a.toNat) [58, 32] = k at k1 k2 ⊢
  cases litE (s.drop a.toNat) [58, 32] != 0
  · have hd1 : (s.drop (a + k).toNat).length = s.length - (a + k).toNat := List.length_drop
    obtain ⟨m1, m2⟩ := run_bnd 137 (s.drop (a + k).toNat)
    rw [xF, xF, gdB (by rw [show bndS (s.drop (a + k).toNat) = true from decide_eq_true (by omega)]; rfl), gdT (by omega), gdT (by omega), xG]
    generalize runLN 137 (s.drop (a + k).toNat) = m at m1 m2 ⊢
    have hz := zV_n s an (a + k) m (atoiN ((s.drop (a + k).toNat).take m.toNat)).1 k a (by omega) (by omega) h3 m1 m2 rfl
    have hat : atoiP ((s.drop (a + k).toNat).take m.toNat) = true := decide_eq_true (by rw [List.length_take]; omega)
    unfold zM sizM
    rw [hz]
    by_cases c1 : m > 5
    · rw [cdT c1, cdT c1]
    · rw [cdF c1, cdF c1]
      by_cases c2 : m > 1
      · rw [cdT c2, decide_eq_true c2, Bool.true_and]
        cases (((s.drop (a + k).toNat).getD 0 0).toNat : Int) == 48
        · rw [xF, xF, gdB hat, gdT m1, gdT m2, gdT (by omega), xG]
        · rw [xT, xT, gdT (by omega), xG]
      · rw [cdF c2, decide_eq_false c2, Bool.false_and, xF, gdB hat, gdT m1, gdT m2, xG]
  · rfl
end Nice
namespace Go.Proofs.YtnblkjapeiaedaaGreatDoor
open Go Go.Eng Nice Go.RowKit
set_option maxRecDepth 1000000
noncomputable def osiz (x : RdrD) (y : Unit) : Option (RdrD × Int × Unit) := fOO Tryz.prog (envO [(63, runS), (138, atoiS)] [(68, litS)]) (shOf []) Tryz.f105 sigErr x y
theorem esiz_g (N : Nat) (s : List UInt8) (a bo st : Int) (hs : List HeadD) (b : List UInt8) : fOON Tryz.prog (envO [(63, runS), (138, atoiS)] [(68, litS)]) (shOf []) Tryz.f105 sigErr N (s, a, bo, (st, hs, b, ()), ()) () = gd [rdrP (s, a, bo, (st, hs, b, ()), ())] (zS s (st, hs, b, ()) bo a) := by kernel_rfl
theorem osiz_g (x : RdrD) (y : Unit) : osiz x y = fOON Tryz.prog (envO [(63, runS), (138, atoiS)] [(68, litS)]) (shOf []) Tryz.f105 sigErr heads0 x y := rfl
theorem siz_n (s : List UInt8) (a bo st : Int) (hs : List HeadD) (b : List UInt8) (h : rdrP (s, a, bo, (st, hs, b, ()), ()) = true) : osiz (s, a, bo, (st, hs, b, ()), ()) () = some ((s, a + (sizN bo (s.drop a.toNat)).1, (sizN bo (s.drop a.toNat)).2.1, (st, hs, b, ()), ()), (sizN bo (s.drop a.toNat)).2.2, ()) := by
  obtain ⟨h1, h2, h3⟩ := rdrP_iff.1 h
  rw [osiz_g, esiz_g, gdB h, xG]
  exact zS_n s (st, hs, b, ()) bo a h1 h2 h3
theorem siz_c : OC 105 sizS := (objO (S := sigErr) (sh := shOf []) (envO_ok (l := [(63, runS), (138, atoiS)]) (o := [(68, litS)]) ⟨run_c, atoi_c, trivial⟩ ⟨lit_c, trivial⟩) gl_ne Tryz.func105 (by kernel_rfl) (by decide)).nice fun x ⟨⟩ h => by
  obtain ⟨s, a, bo, ⟨st, hs, b, ⟨⟩⟩, ⟨⟩⟩ := x
  exact siz_n s a bo st hs b h
end Go.Proofs.YtnblkjapeiaedaaGreatDoor
namespace Nice
open Go Go.Eng
/-- the bytes read, the value, the error -/
def valM (r : List UInt8) (n : Int) : Int × List UInt8 × Int :=
  bif decide (n > 100) then (0, [], 1) else bif hasPre (r.take n.toNat) [32] then (0, [], 1)
  else bif n == (r.length : Int) then (bif n == 100 && hasSuf (r.take n.toNat) [32] then (0, [], 1) else (0, [], 2))
  else bif hasSuf (r.take n.toNat) [32] then (0, [], 1)
  else (n + litK (r.drop n.toNat) [13, 10], r.take n.toNat, litE (r.drop n.toNat) [13, 10])
def valC (r : List UInt8) : Int × List UInt8 × Int := valM r (runLN 66 r)
noncomputable def valCS : OSpec := niceO sigVal (fun x _ => rdrP x) fun x _ => ((x.1, x.2.1 + (valC (restR x)).1, x.2.2), (valC (restR x)).2.1, (valC (restR x)).2.2, ())
theorem valN_c (s : List UInt8) (a bo : Int) (an : EA) (n : Int) (h1 : 0 ≤ a) (hn : 0 ≤ n) : valN (s, a, bo, an, ()) (s.drop a.toNat) n = ((s, a + (valM (s.drop a.toNat) n).1, bo, an, ()), (valM (s.drop a.toNat) n).2.1, (valM (s.drop a.toNat) n).2.2, ()) := by
  have e0 : ∀ k : Int, vE (s, a, bo, an, ()) k = ((s, a + 0, bo, an, ()), [], k, ()) := fun k => by rw [Int.add_zero]; rfl
  have er : restR (onR (s, a, bo, an, ()) n) = (s.drop a.toNat).drop n.toNat := drop_at s h1 hn
  unfold valN valM
  rw [er, e0, e0]
  cases decide (n > 100)
  · cases hasPre ((s.drop a.toNat).take n.toNat) [32]
    · cases n == ((s.drop a.toNat).length : Int)
      · cases hasSuf ((s.drop a.toNat).take n.toNat) [32] <;> rfl
      · cases n == 100 && hasSuf ((s.drop a.toNat).take n.toNat) [32] <;> rfl
    · rfl
  · rfl
end Nice
namespace Go.Proofs.YtnblkjapeiaedaaGreatDoor
open Go Go.Eng Nice Go.RowKit
set_option maxRecDepth 1000000
theorem valC_n (s : List UInt8) (a bo st : Int) (hs : List HeadD) (b : List UInt8) (h : rdrP (s, a, bo, (st, hs, b, ()), ()) = true) : oval (s, a, bo, (st, hs, b, ()), ()) () = some ((s, a + (valC (s.drop a.toNat)).1, bo, (st, hs, b, ()), ()), (valC (s.drop a.toNat)).2.1, (valC (s.drop a.toNat)).2.2, ()) := by
  obtain ⟨h1, h2, h3⟩ := rdrP_iff.1 h
  rw [val_n s a bo st hs b h1 h2 h3, valN_c s a bo (st, hs, b, ()) _ h1 (run_bnd 66 _).1]; rfl
theorem valC_c : OC 106 valCS := (objO (S := sigVal) (sh := shOf []) (envO_ok (l := [(63, runS), (69, hasPreS), (139, hasSufT)]) (o := [(68, litS)]) ⟨run_c, hp_c, hs_c, trivial⟩ ⟨lit_c, trivial⟩) gl_ne Tryz.func106 (by kernel_rfl) (by decide)).nice fun x ⟨⟩ h => by
  obtain ⟨s, a, bo, ⟨st, hs, b, ⟨⟩⟩, ⟨⟩⟩ := x
  exact valC_n s a bo st hs b h
end Go.Proofs.YtnblkjapeiaedaaGreatDoor
namespace Nice
open Go Go.Eng
/-- the bytes read, the body's length, the heads, was it the last, the error -/
abbrev HR := Int × Int × List HeadD × Bool × Int
def hedV (bo : Int) (hs : List HeadD) (nm r1 : List UInt8) (k : Int) : HR :=
  bif (valC r1).2.2 == 0 then (k + (valC r1).1, bo, hs ++ [(nm, (valC r1).2.1, ())], false, (valC r1).2.2) else (k + (valC r1).1, bo, hs, false, (valC r1).2.2)
def hedT (bo : Int) (hs : List HeadD) (nm r1 : List UInt8) (n : Int) : HR :=
  bif resN nm then (0, bo, hs, false, 1) else bif decide ((hs.length : Int) ≥ 10) then (0, bo, hs, false, 1)
  else bif litE r1 [58, 32] != 0 then (n + litK r1 [58, 32], bo, hs, false, litE r1 [58, 32]) else hedV bo hs nm (r1.drop (litK r1 [58, 32]).toNat) (n + litK r1 [58, 32])
def hedM (st bo : Int) (hs : List HeadD) (r : List UInt8) (n : Int) : HR :=
  bif decide (n > 30) then (0, bo, hs, false, 1) else bif n == (r.length : Int) then (0, bo, hs, false, cutRE st hs r) else bif n == 0 then (0, bo, hs, false, 1)
  else bif ((r.getD n.toNat 0).toNat : Int) != 58 then (0, bo, hs, false, 1)
  else bif r.take n.toNat == lengthW && st != 204 then (n + (sizN bo (r.drop n.toNat)).1, (sizN bo (r.drop n.toNat)).2.1, hs, true, (sizN bo (r.drop n.toNat)).2.2)
  else hedT bo hs (r.take n.toNat) (r.drop n.toNat) n
def hedN (st bo : Int) (hs : List HeadD) (r : List UInt8) : HR := hedM st bo hs r (runLN 64 r)
noncomputable def hedS : OSpec := niceO sigHd (fun x _ => rdrP x) fun x _ => ((x.1, x.2.1 + (hedN x.2.2.2.1.1 x.2.2.1 x.2.2.2.1.2.1 (restR x)).1, (hedN x.2.2.2.1.1 x.2.2.1 x.2.2.2.1.2.1 (restR x)).2.1, (x.2.2.2.1.1, (hedN x.2.2.2.1.1 x.2.2.1 x.2.2.2.1.2.1 (restR x)).2.2.1, x.2.2.2.1.2.2.1, ()), ()), (hedN x.2.2.2.1.1 x.2.2.1 x.2.2.2.1.2.1 (restR x)).2.2.2.1, (hedN x.2.2.2.1.1 x.2.2.1 x.2.2.2.1.2.1 (restR x)).2.2.2.2, ())
abbrev HO := Option (RdrD × Bool × Int × Unit)
def hO (s : List UInt8) (st : Int) (b : List UInt8) (a : Int) (h : HR) : HO := some ((s, a + h.1, h.2.1, (st, h.2.2.1, b, ()), ()), h.2.2.2.1, h.2.2.2.2, ())
def h1E (s : List UInt8) (a bo st : Int) (hs : List HeadD) (b : List UInt8) (k : Int) : HO := some ((s, a, bo, (st, hs, b, ()), ()), false, k, ())
noncomputable def zhT (s : List UInt8) (a bo st : Int) (hs : List HeadD) (b : List UInt8) (r : List UInt8) (n : Int) (r1 r2 : List UInt8) (K : Int) : HO :=
  gd [decide (0 ≤ n), decide (n ≤ (r.length : Int))] (bif resN (r.take n.toNat) then gd [ascP (r.take n.toNat), decide (0 ≤ n), decide (n ≤ (r.length : Int))] (h1E s a bo st hs b 1)
  else bif decide ((hs.length : Int) ≥ 10) then gd [ascP (r.take n.toNat), decide (0 ≤ n), decide (n ≤ (r.length : Int))] (h1E s a bo st hs b 1)
  else gd [rdrP (s, a + n, bo, (st, hs, b, ()), ()), decide (inK .i64 (a + n)), ascP (r.take n.toNat), decide (0 ≤ n), decide (n ≤ (r.length : Int))] (bif litE r1 [58, 32] != 0 then some ((s, a + n + K, bo, (st, hs, b, ()), ()), false, litE r1 [58, 32], ())
    else gd [rdrP (s, a + n + K, bo, (st, hs, b, ()), ())] (bif (valC r2).2.2 == 0 then gd [decide ((2 * (hs.length + [(r.take n.toNat, (valC r2).2.1, ())].length) + 400) * 32 ≤ 281474976710656), decide (0 ≤ n), decide (n ≤ (r.length : Int))] (some ((s, a + n + K + (valC r2).1, bo, (st, hs ++ [(r.take n.toNat, (valC r2).2.1, ())], b, ()), ()), false, (valC r2).2.2, ()))
      else some ((s, a + n + K + (valC r2).1, bo, (st, hs, b, ()), ()), false, (valC r2).2.2, ()))))
noncomputable def zhM (s : List UInt8) (a bo st : Int) (hs : List HeadD) (b : List UInt8) (r : List UInt8) (n : Int) (r1 : List UInt8) (T : HO) : HO :=
  bif decide (n > 30) then h1E s a bo st hs b 1 else bif n == (r.length : Int) then h1E s a bo st hs b (cutRE st hs r) else bif n == 0 then h1E s a bo st hs b 1
  else bif ((r.getD n.toNat 0).toNat : Int) != 58 then gd [decide (0 ≤ n), decide (n < (r.length : Int))] (h1E s a bo st hs b 1)
  else gd [decide (0 ≤ n), decide (n < (r.length : Int))] (bif r.take n.toNat == lengthW then (bif st != 204 then gd [rdrP (s, a + n, bo, (st, hs, b, ()), ()), decide (inK .i64 (a + n)), decide (0 ≤ n), decide (n ≤ (r.length : Int))] (some ((s, a + n + (sizN bo r1).1, (sizN bo r1).2.1, (st, hs, b, ()), ()), true, (sizN bo r1).2.2, ())) else T) else T)
end Nice
namespace Go.Proofs.YtnblkjapeiaedaaGreatDoor
open Go Go.Eng Nice Go.RowKit
set_option maxRecDepth 1000000
noncomputable def ohed (x : RdrD) (y : Unit) : HO := fOO Tryz.prog (envO [(63, runS), (65, resS)] [(68, litS), (104, cutRS), (105, sizS), (106, valCS)]) (shOf []) Tryz.f70 sigHd x y
theorem ehed_g (N : Nat) (s : List UInt8) (a bo st : Int) (hs : List HeadD) (b : List UInt8) : fOON Tryz.prog (envO [(63, runS), (65, resS)] [(68, litS), (104, cutRS), (105, sizS), (106, valCS)]) (shOf []) Tryz.f70 sigHd N (s, a, bo, (st, hs, b, ()), ()) () =
  gd [bndS (s.drop a.toNat) && kindP 64, decide (0 ≤ a), decide (a ≤ (s.length : Int))] (zhM s a bo st hs b (s.drop a.toNat) (runLN 64 (s.drop a.toNat)) (s.drop (a + runLN 64 (s.drop a.toNat)).toNat)
    (zhT s a bo st hs b (s.drop a.toNat) (runLN 64 (s.drop a.toNat)) (s.drop (a + runLN 64 (s.drop a.toNat)).toNat) (s.drop (a + runLN 64 (s.drop a.toNat) + litK (s.drop (a + runLN 64 (s.drop a.toNat)).toNat) [58, 32]).toNat) (litK (s.drop (a + runLN 64 (s.drop a.toNat)).toNat) [58, 32]))) := by kernel_rfl
theorem ohed_g (x : RdrD) (y : Unit) : ohed x y = fOON Tryz.prog (envO [(63, runS), (65, resS)] [(68, litS), (104, cutRS), (105, sizS), (106, valCS)]) (shOf []) Tryz.f70 sigHd heads0 x y := rfl
end Go.Proofs.YtnblkjapeiaedaaGreatDoor
namespace Nice
open Go Go.Eng
theorem take_tok {r : List UInt8} (h : r.length ≤ 140737488355328) : ascP (r.take (runLN 64 r).toNat) = true := by
  have e : r.take (runLN 64 r).toNat = r.takeWhile tokB := by
    unfold runLN
    rw [kind64]
    exact (List.prefix_iff_eq_take.1 (List.takeWhile_prefix tokB)).symm
  rw [e]
  exact ascP_iff.2 ⟨tok_asc (List.all_takeWhile), Nat.le_trans (List.takeWhile_sublist tokB).length_le h⟩
theorem h1E_0 (s : List UInt8) (a bo st : Int) (hs : List HeadD) (b : List UInt8) (k : Int) : h1E s a bo st hs b k = hO s st b a (0, bo, hs, false, k) := by
  unfold h1E hO
  rw [Int.add_zero]
theorem zhT_n (s : List UInt8) (a bo st : Int) (hs : List HeadD) (b r : List UInt8) (n : Int) (r1 : List UInt8) (h1 : 0 ≤ a) (h3 : s.length ≤ 140737488355328) (n1 : 0 ≤ n) (n2 : n ≤ (r.length : Int)) (hn : a + n ≤ (s.length : Int)) (hr : r1 = s.drop (a + n).toNat) (ht : ascP (r.take n.toNat) = true) :
    zhT s a bo st hs b r n r1 (s.drop (a + n + litK r1 [58, 32]).toNat) (litK r1 [58, 32]) = hO s st b a (hedT bo hs (r.take n.toNat) r1 n) := by
  have hd : r1.length = s.length - (a + n).toNat := by rw [hr, List.length_drop]
  obtain ⟨k1, k2⟩ := litK_bnd r1 [58, 32]
  have e2 : s.drop (a + n + litK r1 [58, 32]).toNat = r1.drop (litK r1 [58, 32]).toNat := by rw [drop_at s (by omega) k1, ← hr]
  have hp1 : rdrP (s, a + n, bo, (st, hs, b, ()), ()) = true := rdrP_iff.2 ⟨show (0 : Int) ≤ a + n by omega, hn, h3⟩
  have hp2 : rdrP (s, a + n + litK r1 [58, 32], bo, (st, hs, b, ()), ()) = true := rdrP_iff.2 ⟨show (0 : Int) ≤ a + n + litK r1 [58, 32] by omega, show a + n + litK r1 [58, 32] ≤ (s.length : Int) by omega, h3⟩
  have hk : inK .i64 (a + n) := inK_i64.2 ⟨by omega, by omega⟩
  unfold zhT hedT
  rw [e2]
  simp only [gdB ht, gdT n1, gdT n2, gdB hp1, gdT hk, gdB hp2, gd_nil, h1E_0]
  cases resN (r.take n.toNat)
  · by_cases c : (hs.length : Int) ≥ 10
    · rw [cdT c, cdT c]; rfl
    · rw [cdF c, cdF c, xF, xF]
      cases litE r1 [58, 32] != 0
      · rw [xF, xF]
        unfold hedV
        cases (valC (r1.drop (litK r1 [58, 32]).toNat)).2.2 == 0
        · rw [xF, xF]
          unfold hO
          rw [Int.add_assoc a, Int.add_assoc a]
        · rw [xT, xT, gdT (by simp only [List.length_singleton]; omega), gdT n1, gdT n2, xG]
          unfold hO
          rw [Int.add_assoc a, Int.add_assoc a]
      · rw [xT, xT]
        unfold hO
        rw [Int.add_assoc a]
  · rfl
theorem zh_n (s : List UInt8) (a bo st : Int) (hs : List HeadD) (b : List UInt8) (h1 : 0 ≤ a) (h2 : a ≤ (s.length : Int)) (h3 : s.length ≤ 140737488355328) :
    zhM s a bo st hs b (s.drop a.toNat) (runLN 64 (s.drop a.toNat)) (s.drop (a + runLN 64 (s.drop a.toNat)).toNat) (zhT s a bo st hs b (s.drop a.toNat) (runLN 64 (s.drop a.toNat)) (s.drop (a + runLN 64 (s.drop a.toNat)).toNat) (s.drop (a + runLN 64 (s.drop a.toNat) + litK (s.drop (a + runLN 64 (s.drop a.toNat)).toNat) [58, 32]).toNat) (litK (s.drop (a + runLN 64 (s.drop a.toNat)).toNat) [58, 32])) =
    hO s st b a (hedN st bo hs (s.drop a.toNat)) := by
  have hd : (s.drop a.toNat).length = s.length - a.toNat := List.length_drop
  obtain ⟨n1, n2⟩ := run_bnd 64 (s.drop a.toNat)
  have ht := take_tok (r := s.drop a.toNat) (by omega)
  unfold hedN
  generalize runLN 64 (s.drop a.toNat) = n at n1 n2 ht ⊢
  rw [zhT_n s a bo st hs b (s.drop a.toNat) n (s.drop (a + n).toNat) h1 h3 n1 n2 (by omega) rfl ht, drop_at s h1 n1]
  have hp1 : rdrP (s, a + n, bo, (st, hs, b, ()), ()) = true := rdrP_iff.2 ⟨show (0 : Int) ≤ a + n by omega, show a + n ≤ (s.length : Int) by omega, h3⟩
  have hk : inK .i64 (a + n) := inK_i64.2 ⟨by omega, by omega⟩
  unfold zhM hedM
  simp only [gdB hp1, gdT hk, gdT n1, gdT n2, gd_nil, h1E_0]
  by_cases c1 : n > 30
  · rw [cdT c1, cdT c1]
  · rw [cdF c1, cdF c1]
    cases c2 : n == ((s.drop a.toNat).length : Int)
    · have n3 : n < ((s.drop a.toNat).length : Int) := by
        have := beq_eq_false_iff_ne.1 c2
        omega
      simp only [gdT n3, gd_nil]
      rw [xF, xF]
      cases n == 0
      · rw [xF, xF]
        cases (((s.drop a.toNat).getD n.toNat 0).toNat : Int) != 58
        · rw [xF, xF]
          cases (s.drop a.toNat).take n.toNat == lengthW
          · rfl
          · cases st != 204
            · rfl
            · unfold hO
              simp only [cond_true, Bool.and_true]
              rw [Int.add_assoc a]
        · rfl
      · rfl
    · rfl
end Nice
namespace Go.Proofs.YtnblkjapeiaedaaGreatDoor
open Go Go.Eng Nice Go.RowKit
set_option maxRecDepth 1000000
theorem hed_n (s : List UInt8) (a bo st : Int) (hs : List HeadD) (b : List UInt8) (h : rdrP (s, a, bo, (st, hs, b, ()), ()) = true) : ohed (s, a, bo, (st, hs, b, ()), ()) () = hO s st b a (hedN st bo hs (s.drop a.toNat)) := by
  obtain ⟨h1, h2, h3⟩ := rdrP_iff.1 h
  have h1 : (0 : Int) ≤ a := h1
  have h2 : a ≤ (s.length : Int) := h2
  have h3 : s.length ≤ 140737488355328 := h3
  have hd : (s.drop a.toNat).length = s.length - a.toNat := List.length_drop
  rw [ohed_g, ehed_g, gdB (by rw [show bndS (s.drop a.toNat) = true from decide_eq_true (by omega)]; rfl), gdT h1, gdT h2, xG]
  exact zh_n s a bo st hs b h1 h2 h3
theorem hed_c : OC 70 hedS := (objO (S := sigHd) (sh := shOf []) (envO_ok (l := [(63, runS), (65, resS)]) (o := [(68, litS), (104, cutRS), (105, sizS), (106, valCS)]) ⟨run_c, res_c, trivial⟩ ⟨lit_c, cutR_c, siz_c, valC_c, trivial⟩) gl_ne Tryz.func70 (by kernel_rfl) (by decide)).nice fun x ⟨⟩ h => by
  obtain ⟨s, a, bo, ⟨st, hs, b, ⟨⟩⟩, ⟨⟩⟩ := x
  exact hed_n s a bo st hs b h
end Go.Proofs.YtnblkjapeiaedaaGreatDoor
