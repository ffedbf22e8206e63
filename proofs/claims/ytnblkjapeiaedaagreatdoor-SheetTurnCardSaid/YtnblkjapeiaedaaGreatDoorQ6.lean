/-
  Part of the proof: ShU ShV ShW. No condition.
-/
import Derived.Test.YtnblkjapeiaedaaGreatDoorQ5
import Derived.Test.YtnblkjapeiaedaaGreatDoorQ3
import Derived.Test.YtnblkjapeiaedaaGreatDoorQ2
namespace Nice
open Go Go.Eng
abbrev RdO : OT := .pair (.d .str) (.pair (.d .bool) .unit)
abbrev RdD : Type := List UInt8 × Bool × Unit
noncomputable abbrev sigIs : OSpec := ⟨true, 0, RdO, 89, [.d .str], [.d .bool], fun _ _ => true, fun x _ => (x, false, ())⟩
noncomputable abbrev sigUp : OSpec := ⟨true, 0, RdO, 89, [.d .str], [.d .str], fun _ _ => true, fun x _ => (x, [], ())⟩
noncomputable abbrev sigEnt : OSpec := ⟨true, 0, RdO, 89, [], [.d EntT], fun _ _ => true, fun x _ => (x, ([], [], ()), ())⟩
def isR (s l : List UInt8) : List UInt8 := bif hasPre s l then s.drop l.length else s
def upR (s l : List UInt8) : List UInt8 := bif (Lib.cut s l).2.2 then (Lib.cut s l).2.1 else []
def upB (b : Bool) (s l : List UInt8) : Bool := bif (Lib.cut s l).2.2 then b else true
def upT (s l : List UInt8) : List UInt8 := bif (Lib.cut s l).2.2 then (Lib.cut s l).1 else []
noncomputable def isS : OSpec := ⟨true, 0, RdO, 89, [.d .str], [.d .bool], fun _ _ => true, fun x y => ((isR x.1 y.1, x.2.1, ()), hasPre x.1 y.1, ())⟩
noncomputable def upS : OSpec := ⟨true, 0, RdO, 89, [.d .str], [.d .str], fun x _ => decide (x.1.length < 4294967281), fun x y => ((upR x.1 y.1, upB x.2.1 x.1 y.1, ()), upT x.1 y.1, ())⟩
def badV (nu mk : List UInt8) : Bool := !(intN nu).2 || (!(fmtN (intN nu).1 == nu) || (!(gRead mk).2 && !(mk == goneL)))
def newV (nu mk : List UInt8) : VerD := ((intN nu).1, mk == goneL, [], ())
abbrev vS1 (s : List UInt8) : List UInt8 := isR s verL
abbrev vNu (s : List UInt8) : List UInt8 := upT (vS1 s) tagL
abbrev vS2 (s : List UInt8) : List UInt8 := upR (vS1 s) tagL
abbrev vMk (s : List UInt8) : List UInt8 := upT (vS2 s) cloL
abbrev vS3 (s : List UInt8) : List UInt8 := upR (vS2 s) cloL
abbrev vB3 (s : List UInt8) : Bool := upB (upB false (vS1 s) tagL) (vS2 s) cloL
/-- versions of an entry, as far as they stand; `f` is fuel -/
def entV : Nat → List UInt8 → List VerD → List UInt8 × Bool × List VerD
  | 0, s, l => (s, true, l)
  | f + 1, s, l => bif hasPre s verL then (bif vB3 s || badV (vNu s) (vMk s) then (vS3 s, true, l ++ [newV (vNu s) (vMk s)]) else entV f (vS3 s) (l ++ [newV (vNu s) (vMk s)])) else (s, false, l)
abbrev eS1 (s : List UInt8) : List UInt8 := isR s nameL
abbrev eK (s : List UInt8) : List UInt8 := upT (eS1 s) nameE
abbrev eS2 (s : List UInt8) : List UInt8 := upR (eS1 s) nameE
abbrev eB2 (s : List UInt8) : Bool := upB (!hasPre s nameL) (eS1 s) nameE
def entW (s : List UInt8) : List UInt8 × Bool × List VerD := bif eB2 s then (eS2 s, true, []) else entV ((eS2 s).length + 1) (eS2 s) []
def entN (s : List UInt8) : RdD × EntD × Unit := ((isR (entW s).1 keyE, (entW s).2.1 || !hasPre (entW s).1 keyE, ()), (eK s, (entW s).2.2.reverse, ()), ())
noncomputable def entRS : OSpec := ⟨true, 0, RdO, 89, [], [.d EntT], fun x _ => !x.2.1 && decide (x.1.length < 4294967281), fun x _ => entN x.1⟩
/-! ### cuts in plain words -/
theorem occ_eq {s p : List UInt8} {i : Nat} (h : Lib.occAt s p i = true) : ∃ r, s.drop i = p ++ r := by
  unfold Lib.occAt at h
  obtain ⟨r, hr⟩ := List.isPrefixOf_iff_prefix.1 h
  exact ⟨r, hr.symm⟩
theorem cut_cases (s p : List UInt8) : ((Lib.cut s p).2.2 = true ∧ s = (Lib.cut s p).1 ++ p ++ (Lib.cut s p).2.1) ∨ Lib.cut s p = (s, [], false) := by
  unfold Lib.cut
  by_cases h : 0 ≤ Lib.index s p
  · rw [if_pos h]
    refine .inl ⟨rfl, ?_⟩
    rcases Lib.index_spec s p with ⟨h1, _⟩ | ⟨i, h1, h2, h3, _⟩
    · omega
    · obtain ⟨r, hr⟩ := occ_eq h3
      have e : s.drop (i + p.length) = r := by
        rw [← List.drop_drop, hr, List.drop_left]
      show s = s.take (Lib.index s p).toNat ++ p ++ s.drop ((Lib.index s p).toNat + p.length)
      rw [h1, show ((i : Int)).toNat = i from rfl, e, List.append_assoc, ← hr, List.take_append_drop]
  · rw [if_neg h]; exact .inr rfl
theorem up_spec (s p : List UInt8) (b : Bool) : (s = upT s p ++ p ++ upR s p ∧ upB b s p = b ∧ (Lib.cut s p).2.2 = true) ∨ (upT s p = [] ∧ upR s p = [] ∧ upB b s p = true ∧ (Lib.cut s p).2.2 = false) := by
  unfold upT upR upB
  rcases cut_cases s p with ⟨h1, h2⟩ | h
  · rw [h1]; exact .inl ⟨h2, rfl, rfl⟩
  · rw [h]; exact .inr ⟨rfl, rfl, rfl, rfl⟩
theorem up_len (s p : List UInt8) : (upT s p).length ≤ s.length ∧ (upR s p).length ≤ s.length := by
  rcases up_spec s p false with ⟨h, _⟩ | ⟨h1, h2, _⟩
  · have := congrArg List.length h
    rw [List.length_append, List.length_append] at this
    omega
  · rw [h1, h2]; exact ⟨Nat.zero_le _, Nat.zero_le _⟩
theorem isR_len (s l : List UInt8) : (isR s l).length ≤ s.length := by
  unfold isR
  cases hasPre s l
  · exact Nat.le_refl _
  · rw [xT, List.length_drop]; omega
theorem intN_i64 (s : List UInt8) (h : (intN s).2 = true) : i64P (intN s).1 = true := by
  unfold intN at h ⊢
  rcases e : Lib.parseIntB 64 s with v | _ | _
  · have := Lib.parseIntB_bounds e
    rw [Go.Proofs.YtnblkjapeiaedaaGreatDoor.i64P_iff]
    show -9223372036854775808 ≤ v ∧ v ≤ 9223372036854775807
    have : -((2 ^ 63 : Nat) : Int) ≤ v ∧ v < ((2 ^ 63 : Nat) : Int) := this
    omega
  · rw [e] at h; cases h
  · rw [e] at h; cases h
end Nice
namespace Go.Proofs.YtnblkjapeiaedaaGreatDoor
open Go Go.Eng Nice Go.RowKit
set_option maxRecDepth 1000000
noncomputable def ois (x : RdD) (y : List UInt8 × Unit) : Option (RdD × Bool × Unit) := fOO Tryz.prog (envO [(77, cutPreS)] []) (shOf []) Tryz.f54 sigIs x y
theorem eis (s : List UInt8) (b : Bool) (l : List UInt8) : ois (s, b, ()) (l, ()) = (bif (cutPre s l).2 then some (((cutPre s l).1, b, ()), true, ()) else some ((s, b, ()), false, ())) := by kernel_rfl
theorem is_c : OC 54 isS := (objO (S := sigIs) (sh := shOf []) (envO_ok (l := [(77, cutPreS)]) (o := []) ⟨cpX_c, trivial⟩ trivial) gl_ne Tryz.func54 (by kernel_rfl) (by decide)).nice fun x ⟨l, ()⟩ _ => by
  obtain ⟨s, b, ⟨⟩⟩ := x
  show ois _ _ = some ((isR s l, b, ()), hasPre s l, ())
  rw [eis]
  unfold cutPre isR
  cases hasPre s l <;> rfl
noncomputable def oup (x : RdD) (y : List UInt8 × Unit) : Option (RdD × List UInt8 × Unit) := fOO Tryz.prog (envO [(78, cutGS)] []) (shOf []) Tryz.f55 sigUp x y
theorem eup (s : List UInt8) (b : Bool) (l : List UInt8) : oup (s, b, ()) (l, ()) = (bif (Lib.cut s l).2.2 then gd [decide (s.length < 4294967281)] (some (((Lib.cut s l).2.1, b, ()), (Lib.cut s l).1, ())) else gd [decide (s.length < 4294967281)] (some (([], true, ()), [], ()))) := by kernel_rfl
theorem up_c : OC 55 upS := (objO (S := sigUp) (sh := shOf []) (envO_ok (l := [(78, cutGS)]) (o := []) ⟨cutG_c, trivial⟩ trivial) gl_ne Tryz.func55 (by kernel_rfl) (by decide)).nice fun x ⟨l, ()⟩ h => by
  obtain ⟨s, b, ⟨⟩⟩ := x
  have h : decide (s.length < 4294967281) = true := h
  show oup _ _ = some ((upR s l, upB b s l, ()), upT s l, ())
  rw [eup, gdB h, gdB h, xG, xG]
  unfold upR upB upT
  cases (Lib.cut s l).2.2 <;> rfl
end Go.Proofs.YtnblkjapeiaedaaGreatDoor
namespace Nice
open Go Go.Eng
abbrev EN : Type := Option (RdD × EntD × Unit)
noncomputable def begEN (s : List UInt8) (nx : List UInt8 → Bool → List UInt8 → EN) : EN :=
  bif hasPre s nameL then gd [decide ((isR s nameL).length < 4294967281)] (nx (upR (isR s nameL) nameE) (upB false (isR s nameL) nameE) (upT (isR s nameL) nameE))
  else gd [decide ((isR s nameL).length < 4294967281)] (nx (upR (isR s nameL) nameE) (upB true (isR s nameL) nameE) (upT (isR s nameL) nameE))
noncomputable abbrev gA (l : List VerD) (v : VerD) : List Bool := [decide ((2 * (l.length + [v].length) + 400) * 32 ≤ 281474976710656)]
/-- what follows a version's reading -/
noncomputable def nxV (l : List VerD) (n : Int) (g b : Bool) (nx : Bool → List VerD → EN) : EN :=
  bif g then gd (gA l (n, true, [], ())) (nx b (l ++ [(n, true, [], ())])) else gd (gA l (n, false, [], ())) (nx b (l ++ [(n, false, [], ())]))
noncomputable def stepENF (s k : List UInt8) (l : List VerD) (nx : List UInt8 → Bool → List VerD → EN) : EN :=
  bif hasPre s verL then
    gd [parseS.pre (vNu s, 10, 64, ()), upS.pre (vS2 s, upB false (vS1 s) tagL, ()) (cloL, ()), upS.pre (vS1 s, false, ()) (tagL, ())] (bif (gRead (vMk s)).2 then
      (bif !(intN (vNu s)).2 then nxV l (intN (vNu s)).1 (vMk s == goneL) true (nx (vS3 s))
       else bif !fmtN (intN (vNu s)).1 == vNu s then gd [fmtIS.pre ((intN (vNu s)).1, 10, ())] (nxV l (intN (vNu s)).1 (vMk s == goneL) true (nx (vS3 s)))
       else gd [fmtIS.pre ((intN (vNu s)).1, 10, ())] (nxV l (intN (vNu s)).1 (vMk s == goneL) (vB3 s) (nx (vS3 s))))
    else
      (bif !(intN (vNu s)).2 then nxV l (intN (vNu s)).1 (vMk s == goneL) true (nx (vS3 s))
       else bif !fmtN (intN (vNu s)).1 == vNu s then gd [fmtIS.pre ((intN (vNu s)).1, 10, ())] (nxV l (intN (vNu s)).1 (vMk s == goneL) true (nx (vS3 s)))
       else bif !vMk s == goneL then gd [fmtIS.pre ((intN (vNu s)).1, 10, ())] (nxV l (intN (vNu s)).1 (vMk s == goneL) true (nx (vS3 s)))
       else gd [fmtIS.pre ((intN (vNu s)).1, 10, ())] (nxV l (intN (vNu s)).1 (vMk s == goneL) (vB3 s) (nx (vS3 s)))))
  else (bif hasPre (vS1 s) keyE then gd [revVS.pre l] (some ((isR (vS1 s) keyE, false, ()), (k, l.reverse, ()), ())) else gd [revVS.pre l] (some ((isR (vS1 s) keyE, true, ()), (k, l.reverse, ()), ())))
noncomputable def stepENT (s k : List UInt8) (l : List VerD) : EN :=
  bif hasPre s keyE then gd [revVS.pre l] (some ((isR s keyE, true, ()), (k, l.reverse, ()), ())) else gd [revVS.pre l] (some ((isR s keyE, true, ()), (k, l.reverse, ()), ()))
theorem nxV_n {l : List VerD} (h : l.length ≤ 17179869184) (n : Int) (g b : Bool) (nx : Bool → List VerD → EN) : nxV l n g b nx = nx b (l ++ [(n, g, [], ())]) := by
  unfold nxV gA
  cases g
  · rw [xF, List.length_singleton, gdT (by omega), xG]
  · rw [xT, List.length_singleton, gdT (by omega), xG]
theorem stepENF_n {s k : List UInt8} {l : List VerD} (nx : List UInt8 → Bool → List VerD → EN) (hv : hasPre s verL = true) (hs : s.length < 4294967281) (hl : l.length ≤ 17179869184) : stepENF s k l nx = nx (vS3 s) (vB3 s || badV (vNu s) (vMk s)) (l ++ [newV (vNu s) (vMk s)]) := by
  have l1 : (vS1 s).length ≤ s.length := isR_len s verL
  have l2 : (vNu s).length ≤ (vS1 s).length ∧ (vS2 s).length ≤ (vS1 s).length := up_len (vS1 s) tagL
  have g1 : parseS.pre (vNu s, 10, 64, ()) = true := by
    show (bndS (vNu s) && (decide ((10 : Int) = 10) && decide ((64 : Int) = 64))) = true
    have : bndS (vNu s) = true := by unfold bndS; exact decide_eq_true (by omega)
    rw [this]; rfl
  have g2 : upS.pre (vS2 s, upB false (vS1 s) tagL, ()) (cloL, ()) = true := decide_eq_true (show (vS2 s).length < 4294967281 by omega)
  have g3 : upS.pre (vS1 s, false, ()) (tagL, ()) = true := decide_eq_true (show (vS1 s).length < 4294967281 by omega)
  have g4 : (intN (vNu s)).2 = true → fmtIS.pre ((intN (vNu s)).1, 10, ()) = true := fun h => by
    show (i64P (intN (vNu s)).1 && (10 : Int) == 10) = true
    rw [intN_i64 _ h]; rfl
  unfold stepENF
  rw [hv, xT, gdB g1, gdB g2, gdB g3, xG]
  simp only [nxV_n hl]
  unfold badV newV
  cases h1 : (intN (vNu s)).2
  · rw [Bool.not_false, xT, xT, Bool.true_or, Bool.or_true]
    cases (gRead (vMk s)).2 <;> rfl
  · rw [gdB (g4 h1), gdB (g4 h1), xG, xG, Bool.not_true, xF, xF, Bool.false_or]
    cases fmtN (intN (vNu s)).1 == vNu s
    · rw [Bool.not_false, xT, xT, Bool.true_or, Bool.or_true]
      cases (gRead (vMk s)).2 <;> rfl
    · rw [Bool.not_true, xF, xF, Bool.false_or]
      cases (gRead (vMk s)).2
      · rw [xF, Bool.not_false, Bool.true_and]
        cases vMk s == goneL
        · rw [Bool.not_false, xT, Bool.or_true]
        · rw [Bool.not_true, xF, Bool.or_false]
      · rw [xT, Bool.not_true, Bool.false_and, Bool.or_false]
def finE (k : List UInt8) (r : List UInt8 × Bool × List VerD) : EN := some ((isR r.1 keyE, r.2.1 || !hasPre r.1 keyE, ()), (k, r.2.2.reverse, ()), ())
theorem stepENT_n {s k : List UInt8} {l : List VerD} (hl : l.length ≤ 17179869184) : stepENT s k l = finE k (s, true, l) := by
  have g : revVS.pre l = true := decide_eq_true (by omega)
  unfold stepENT finE
  rw [gdB g, xG, Bool.true_or]
  cases hasPre s keyE <;> rfl
theorem stepENF_e {s k : List UInt8} {l : List VerD} (nx : List UInt8 → Bool → List VerD → EN) (hv : hasPre s verL = false) (hl : l.length ≤ 17179869184) : stepENF s k l nx = finE k (s, false, l) := by
  have g : revVS.pre l = true := decide_eq_true (by omega)
  have e : vS1 s = s := by
    show isR s verL = s
    unfold isR
    rw [hv]; rfl
  unfold stepENF finE
  rw [hv, xF, e, gdB g, gdB g, xG, xG, Bool.false_or]
  cases hasPre s keyE <;> rfl
theorem vS3_lt {s : List UInt8} (h : hasPre s verL = true) : (vS3 s).length + 13 ≤ s.length := by
  have hl : verL.length ≤ s.length := by
    unfold hasPre at h
    rw [Bool.and_eq_true, decide_eq_true_eq] at h
    exact h.1
  have l1 : (vS1 s).length = s.length - 13 := by
    show (isR s verL).length = _
    unfold isR
    rw [h, xT, List.length_drop]; rfl
  have l2 := (up_len (vS1 s) tagL).2
  have l3 := (up_len (vS2 s) cloL).2
  have : verL.length = 13 := rfl
  show (upR (vS2 s) cloL).length + 13 ≤ _
  have : (vS2 s).length ≤ (vS1 s).length := l2
  omega
theorem begEN_n (s : List UInt8) (hs : s.length < 4294967281) (nx : List UInt8 → Bool → List UInt8 → EN) : begEN s nx = nx (eS2 s) (eB2 s) (eK s) := by
  have := isR_len s nameL
  unfold begEN
  rw [gdT (by omega), gdT (by omega), xG, xG]
  unfold eS2 eB2 eK eS1
  cases hasPre s nameL <;> rfl
end Nice
namespace Go.Proofs.YtnblkjapeiaedaaGreatDoor
open Go Go.Eng Nice Go.RowKit
set_option maxRecDepth 1000000
noncomputable abbrev enEN : Eng.Env := envV [(72, fmtIS), (79, parseS), (80, gReadS)] [(54, isS), (55, upS)] [(81, revVS)]
abbrev shen : List (Nat × List (Nat × Sh)) := [(4, [(0, (.obj [.sym, .sym])), (2, (.obj [.sym, .any])), (3, (.obj [.sym, (.vec VerT 71)]))])]
noncomputable def hen (N : Nat) (s : List UInt8) (b : Bool) (k : List UInt8) (l : List VerD) : EN := rHO Tryz.prog enEN (shOf shen) Tryz.f56 sigEnt [10] N 0 [(0, .pointer (some ⟨10, 0, none⟩)), (2, .pointer (some ⟨11, 0, none⟩)), (3, .pointer (some ⟨13, 0, none⟩))] [.row [sy (.string (bs s)), .bool b] 89 false, .row [sy (.string (bs [])), Value.slice none 0 0] 67 false, .vec VerT l 71, .row [sy (.string (bs k)), dt 12] 67 false]
noncomputable def oen (x : RdD) (y : Unit) : EN := fOO Tryz.prog enEN (shOf shen) Tryz.f56 sigEnt x y
theorem oen_g (x : RdD) (y : Unit) : oen x y = fOON Tryz.prog enEN (shOf shen) Tryz.f56 sigEnt heads0 x y := rfl
theorem een_g (N : Nat) (s : List UInt8) : fOON Tryz.prog enEN (shOf shen) Tryz.f56 sigEnt N (s, false, ()) () = begEN s (fun s' b k => hen N s' b k []) := by kernel_rfl
theorem eenF (N : Nat) (s k : List UInt8) (l : List VerD) : hen (N + 1) s false k l = stepENF s k l (fun s' b l' => hen N s' b k l') := by kernel_rfl
theorem eenT (N : Nat) (s k : List UInt8) (l : List VerD) : hen (N + 1) s true k l = stepENT s k l := by kernel_rfl
theorem enT_l (N : Nat) (s k : List UInt8) (l : List VerD) (h : 0 < N) (hl : l.length ≤ 17179869184) : hen N s true k l = finE k (s, true, l) := by
  obtain ⟨N, rfl⟩ : ∃ m, N = m + 1 := ⟨N - 1, by omega⟩
  rw [eenT, stepENT_n hl]
theorem enF_l (k : List UInt8) : ∀ (f N : Nat) (s : List UInt8) (l : List VerD), s.length < f → f < N → s.length < 4294967281 → l.length + s.length ≤ 8589934592 → hen N s false k l = finE k (entV f s l)
  | 0, _, s, _, h, _, _, _ => absurd h (Nat.not_lt_zero _)
  | f + 1, N, s, l, hf, hN, hs, hl => by
    obtain ⟨N, rfl⟩ : ∃ m, N = m + 1 := ⟨N - 1, by omega⟩
    rw [eenF]
    cases hv : hasPre s verL
    · rw [stepENF_e _ hv (by omega)]
      unfold entV
      rw [hv, xF]
    · have h3 := vS3_lt hv
      rw [stepENF_n _ hv hs (by omega)]
      unfold entV
      rw [hv, xT]
      cases vB3 s || badV (vNu s) (vMk s)
      · rw [xF]
        exact enF_l k f N _ _ (by omega) (by omega) (by omega) (by rw [List.length_append, List.length_singleton]; omega)
      · rw [xT]
        exact enT_l N _ k _ (by omega) (by rw [List.length_append, List.length_singleton]; omega)
theorem ent_c : OC 56 entRS := (objO (S := sigEnt) (sh := shOf shen) (envV_ok (l := [(72, fmtIS), (79, parseS), (80, gReadS)]) (o := [(54, isS), (55, upS)]) (v := [(81, revVS)]) ⟨fmtI_c, parse_c, gread_c, trivial⟩ ⟨is_c, up_c, trivial⟩ ⟨rev_c, trivial⟩) gl_ne Tryz.func56 (by kernel_rfl) (by decide)).nice fun x ⟨⟩ h => by
  obtain ⟨s, b, ⟨⟩⟩ := x
  have h : (!b && decide (s.length < 4294967281)) = true := h
  rw [Bool.and_eq_true, Bool.not_eq_true', decide_eq_true_eq] at h
  obtain ⟨rfl, hs⟩ := h
  show oen _ _ = some (entN s)
  rw [oen_g, een_g, begEN_n s hs]
  have l1 := isR_len s nameL
  have l2 := (up_len (isR s nameL) nameE).2
  unfold entN entW
  show hen heads0 (eS2 s) (eB2 s) (eK s) [] = _
  have l3 : (eS2 s).length ≤ (isR s nameL).length := l2
  cases eB2 s
  · rw [xF, enF_l (eK s) ((eS2 s).length + 1) heads0 (eS2 s) [] (by omega) (by unfold heads0; omega) (by omega) (by rw [List.length_nil]; omega)]
    rfl
  · rw [xT, enT_l heads0 _ _ _ (by unfold heads0; omega) (Nat.zero_le _)]
    rfl
end Go.Proofs.YtnblkjapeiaedaaGreatDoor
namespace Nice
open Go Go.Eng
abbrev GO : Type := Option (DenL [ShT, .int .i64])
def errG : ShD × Int × Unit := (([], [], false, [], ()), 1, ())
abbrev nK (s : List UInt8) : List UInt8 := upT (isR s nameL) nameE
abbrev nS (s : List UInt8) : List UInt8 := upR (isR s nameL) nameE
abbrev nB (s : List UInt8) : Bool := upB false (isR s nameL) nameE
/-- names, as far as they stand; `f` is fuel -/
def nmF : Nat → List UInt8 → List (List UInt8) → List UInt8 × Bool × List (List UInt8)
  | 0, s, n => (s, true, n)
  | f + 1, s, n => bif hasPre s nameL then (bif nB s then (nS s, true, n ++ [nK s]) else nmF f (nS s) (n ++ [nK s])) else (s, false, n)
abbrev eN (s : List UInt8) : RdD × EntD × Unit := entN (isR s keyL)
/-- entries, as far as they stand; `f` is fuel -/
def enF : Nat → List UInt8 → List EntD → List UInt8 × Bool × List EntD
  | 0, s, l => (s, true, l)
  | f + 1, s, l => bif hasPre s keyL then (bif (eN s).1.2.1 then ((eN s).1.1, true, l ++ [(eN s).2.1]) else enF f (eN s).1.1 (l ++ [(eN s).2.1])) else (s, false, l)
abbrev xT' (s : List UInt8) : List UInt8 := upT (isR s nextL) nextE
abbrev xS (s : List UInt8) : List UInt8 := upR (isR s nextL) nextE
abbrev xB (s : List UInt8) : Bool := upB false (isR s nextL) nextE
def endG (s : List UInt8) (b : Bool) (d : ShD) : ShD × Int × Unit := bif hasPre s endL && (isR s endL == [] && (!b && smayN d)) then (d, 0, ()) else errG
def finG (s : List UInt8) (n : List (List UInt8)) (l : List EntD) : ShD × Int × Unit :=
  bif hasPre s nextL then endG (xS s) (xB s) (n, l, true, xT' s, ()) else endG s false (n, l, false, [], ())
def sgetN (s : List UInt8) : ShD × Int × Unit :=
  bif !hasPre s begL then errG else bif (nmF (s.length + 1) (isR s begL) []).2.1 then errG
  else bif (enF (s.length + 1) (nmF (s.length + 1) (isR s begL) []).1 []).2.1 then errG
  else finG (enF (s.length + 1) (nmF (s.length + 1) (isR s begL) []).1 []).1 (nmF (s.length + 1) (isR s begL) []).2.2 (enF (s.length + 1) (nmF (s.length + 1) (isR s begL) []).1 []).2.2
noncomputable def sgetS : PSpec := ⟨[.str], [ShT, .int .i64], fun x => decide (x.1.length ≤ 1073741824), fun x => sgetN x.1⟩
noncomputable def stepG0 (s : List UInt8) (n : List (List UInt8)) (nx : List UInt8 → Bool → List (List UInt8) → GO) (ex : List UInt8 → GO) : GO :=
  bif hasPre s nameL then gd [decide ((2 * (n.length + [nK s].length) + 400) * 16 ≤ 281474976710656), upS.pre (isR s nameL, false, ()) (nameE, ())] (nx (nS s) (nB s) (n ++ [nK s])) else ex (isR s nameL)
noncomputable def mayG (d : ShD) : GO := bif smayN d then gd [smayP d] (some (d, 0, ())) else gd [smayP d] (some errG)
noncomputable def stepG1F (s : List UInt8) (n : List (List UInt8)) (l : List EntD) (nx : List UInt8 → Bool → List EntD → GO) : GO :=
  bif hasPre s keyL then gd [decide ((2 * (l.length + [((eN s).2.1.1, (eN s).2.1.2.1, ())].length) + 400) * 40 ≤ 281474976710656), entRS.pre (isR s keyL, false, ()) ()] (nx (eN s).1.1 (eN s).1.2.1 (l ++ [((eN s).2.1.1, (eN s).2.1.2.1, ())]))
  else bif hasPre (isR s keyL) nextL then gd [upS.pre (isR (isR s keyL) nextL, false, ()) (nextE, ())] (bif hasPre (xS (isR s keyL)) endL then (bif !isR (xS (isR s keyL)) endL == [] then some errG else bif xB (isR s keyL) then some errG else mayG (n, l, true, xT' (isR s keyL), ())) else some errG)
  else bif hasPre (isR (isR s keyL) nextL) endL then (bif !isR (isR (isR s keyL) nextL) endL == [] then some errG else mayG (n, l, false, [], ())) else some errG
noncomputable def stepG1T (s : List UInt8) (n : List (List UInt8)) (l : List EntD) : GO :=
  bif hasPre s nextL then gd [upS.pre (isR s nextL, true, ()) (nextE, ())] (bif hasPre (xS s) endL then (bif !isR (xS s) endL == [] then some errG else bif upB true (isR s nextL) nextE then some errG else mayG (n, l, true, xT' s, ())) else some errG)
  else bif hasPre (isR s nextL) endL then (bif !isR (isR s nextL) endL == [] then some errG else some errG) else some errG
theorem hasPre_le {s p : List UInt8} (h : hasPre s p = true) : p.length ≤ s.length := by
  unfold hasPre at h
  rw [Bool.and_eq_true, decide_eq_true_eq] at h
  exact h.1
theorem isR_lt {s p : List UInt8} (h : hasPre s p = true) : (isR s p).length + p.length = s.length := by
  have := hasPre_le h
  unfold isR
  rw [h, xT, List.length_drop]; omega
theorem isR_F {s p : List UInt8} (h : hasPre s p = false) : isR s p = s := by
  unfold isR; rw [h]; rfl
theorem entV_len : ∀ (f : Nat) (s : List UInt8) (l : List VerD), (entV f s l).1.length ≤ s.length ∧ (entV f s l).2.2.length ≤ l.length + f
  | 0, s, l => ⟨Nat.le_refl _, Nat.le_refl _⟩
  | f + 1, s, l => by
    unfold entV
    cases h : hasPre s verL
    · exact ⟨Nat.le_refl _, by show l.length ≤ _; omega⟩
    · rw [xT]
      have h3 := vS3_lt h
      cases vB3 s || badV (vNu s) (vMk s)
      · have := entV_len f (vS3 s) (l ++ [newV (vNu s) (vMk s)])
        rw [List.length_append, List.length_singleton] at this
        exact ⟨by rw [xF]; omega, by rw [xF]; omega⟩
      · exact ⟨by rw [xT]; show (vS3 s).length ≤ _; omega, by rw [xT]; show (l ++ [_]).length ≤ _; rw [List.length_append, List.length_singleton]; omega⟩
theorem entN_len (s : List UInt8) : (entN s).1.1.length ≤ s.length ∧ (entN s).2.1.1.length ≤ s.length ∧ (entN s).2.1.2.1.length ≤ s.length + 1 := by
  have l1 := isR_len s nameL
  have l2 := up_len (isR s nameL) nameE
  have l3 : (eS2 s).length ≤ s.length := Nat.le_trans l2.2 l1
  have hW : (entW s).1.length ≤ s.length ∧ (entW s).2.2.length ≤ s.length + 1 := by
    unfold entW
    cases eB2 s
    · have := entV_len ((eS2 s).length + 1) (eS2 s) []
      rw [List.length_nil] at this
      exact ⟨by rw [xF]; omega, by rw [xF]; omega⟩
    · exact ⟨by rw [xT]; exact l3, by rw [xT]; exact Nat.zero_le _⟩
  have l4 := isR_len (entW s).1 keyE
  refine ⟨?_, ?_, ?_⟩
  · show (isR (entW s).1 keyE).length ≤ _; omega
  · show (upT (isR s nameL) nameE).length ≤ _; omega
  · show (entW s).2.2.reverse.length ≤ _; rw [List.length_reverse]; exact hW.2
theorem mayG_n {d : ShD} (h : smayP d = true) : mayG d = some (bif smayN d then (d, 0, ()) else errG) := by
  unfold mayG
  rw [gdB h, gdB h, xG, xG]
  cases smayN d <;> rfl
theorem endG_n {s : List UInt8} {b : Bool} {d : ShD} (h : smayP d = true) : (bif hasPre s endL then (bif !isR s endL == [] then some errG else bif b then some errG else mayG d) else some errG : GO) = some (endG s b d) := by
  unfold endG
  rw [mayG_n h]
  cases hasPre s endL
  · rfl
  · cases isR s endL == []
    · rfl
    · cases b
      · cases smayN d <;> rfl
      · rfl
theorem endG_nF {s : List UInt8} {d : ShD} (h : smayP d = true) : (bif hasPre s endL then (bif !isR s endL == [] then some errG else mayG d) else some errG : GO) = some (endG s false d) := by
  rw [← endG_n (b := false) h]; rfl
theorem upB_t (s p : List UInt8) : upB true s p = true := by
  unfold upB
  cases (Lib.cut s p).2.2 <;> rfl
theorem stepG1T_n {s : List UInt8} {n : List (List UInt8)} {l : List EntD} (hs : s.length < 4294967281) : stepG1T s n l = some errG := by
  have l1 := isR_len s nextL
  have g : upS.pre (isR s nextL, true, ()) (nextE, ()) = true := decide_eq_true (show (isR s nextL).length < 4294967281 by omega)
  unfold stepG1T
  rw [gdB g, xG, upB_t]
  cases hasPre s nextL
  · cases hasPre (isR s nextL) endL
    · rfl
    · cases isR (isR s nextL) endL == [] <;> rfl
  · cases hasPre (xS s) endL
    · rfl
    · cases isR (xS s) endL == [] <;> rfl
theorem stepG1F_e {s : List UInt8} {n : List (List UInt8)} {l : List EntD} (nx : List UInt8 → Bool → List EntD → GO) (hk : hasPre s keyL = false) (hs : s.length < 4294967281) (hp : ∀ b x, smayP (n, l, b, x, ()) = true) : stepG1F s n l nx = some (finG s n l) := by
  have l1 := isR_len s nextL
  have g : upS.pre (isR s nextL, false, ()) (nextE, ()) = true := decide_eq_true (show (isR s nextL).length < 4294967281 by omega)
  unfold stepG1F finG
  rw [hk, xF, isR_F hk, gdB g, xG, endG_n (hp true _)]
  cases hn : hasPre s nextL
  · rw [xF, xF, isR_F hn, endG_nF (hp false _)]
  · rfl
theorem stepG1F_n {s : List UInt8} {n : List (List UInt8)} {l : List EntD} (nx : List UInt8 → Bool → List EntD → GO) (hk : hasPre s keyL = true) (hs : s.length < 4294967281) (hl : l.length ≤ 17179869184) : stepG1F s n l nx = nx (eN s).1.1 (eN s).1.2.1 (l ++ [(eN s).2.1]) := by
  have l1 := isR_len s keyL
  have g : entRS.pre (isR s keyL, false, ()) () = true := decide_eq_true (show (isR s keyL).length < 4294967281 by omega)
  unfold stepG1F
  rw [hk, xT, List.length_singleton, gdT (by omega), gdB g, xG]
theorem smayP_of {n : List (List UInt8)} {l : List EntD} (h1 : n.length ≤ 1099511627776) (h2 : ∀ k, k ∈ n → bndS k = true) (h3 : entsP l = true) (b : Bool) (x : List UInt8) : smayP (n, l, b, x, ()) = true := smayP_iff.2 ⟨h1, h2, h3⟩
end Nice
namespace Go.Proofs.YtnblkjapeiaedaaGreatDoor
open Go Go.Eng Nice Go.RowKit
set_option maxRecDepth 1000000
noncomputable abbrev enGE : Eng.Env := envO [(28, smayS)] [(54, isS), (55, upS), (56, entRS)]
abbrev shge : List (Nat × List (Nat × Sh)) := [(4, [(2, (.obj [.any, .any, .sym, .sym])), (3, (.one .sym)), (4, (.obj [.sym, .sym])), (5, (.obj [(.vec .str 9), (.vec EntT 67), .sym, .sym]))]), (6, [(2, (.obj [.any, .any, .sym, .sym])), (3, (.one .sym)), (4, (.obj [.sym, .sym])), (5, (.obj [(.vec .str 9), (.vec EntT 67), .sym, .sym]))])]
noncomputable def hge0 (N : Nat) (s : List UInt8) (b : Bool) (n : List (List UInt8)) (l : List EntD) : GO := rH Tryz.prog enGE (shOf shge) Tryz.f32 [ShT, .int .i64] N 0 [(2, .pointer (some ⟨10, 0, none⟩)), (3, sy (.int .i64 0)), (4, .pointer (some ⟨11, 0, none⟩)), (5, .pointer (some ⟨14, 0, none⟩))] [.row [Value.slice none 0 0, Value.slice none 0 0, .bool false, sy (.string (bs []))] 46 false, .row [sy (.string (bs s)), .bool b] 89 false, .vec .str n 9, .vec EntT l 67, .row [dt 12, dt 13, .bool false, sy (.string (bs []))] 46 false]
noncomputable def hge1 (N : Nat) (s : List UInt8) (b : Bool) (n : List (List UInt8)) (l : List EntD) : GO := rH Tryz.prog enGE (shOf shge) Tryz.f32 [ShT, .int .i64] N 1 [(2, .pointer (some ⟨10, 0, none⟩)), (3, sy (.int .i64 0)), (4, .pointer (some ⟨11, 0, none⟩)), (5, .pointer (some ⟨14, 0, none⟩))] [.row [Value.slice none 0 0, Value.slice none 0 0, .bool false, sy (.string (bs []))] 46 false, .row [sy (.string (bs s)), .bool b] 89 false, .vec .str n 9, .vec EntT l 67, .row [dt 12, dt 13, .bool false, sy (.string (bs []))] 46 false]
noncomputable def oge (x : DenL [.str]) : GO := fO Tryz.prog enGE (shOf shge) Tryz.f32 [.str] [ShT, .int .i64] x
theorem oge_g (x : DenL [.str]) : oge x = fON Tryz.prog enGE (shOf shge) Tryz.f32 [.str] [ShT, .int .i64] heads0 x := rfl
theorem ege_g (N : Nat) (s : List UInt8) : fON Tryz.prog enGE (shOf shge) Tryz.f32 [.str] [ShT, .int .i64] N (s, ()) = (bif hasPre s begL then hge0 N (isR s begL) false [] [] else hge0 N (isR s begL) true [] []) := by kernel_rfl
theorem ege0T (N : Nat) (s : List UInt8) (n : List (List UInt8)) (l : List EntD) : hge0 (N + 1) s true n l = hge1 N s true n l := by kernel_rfl
theorem ege0F (N : Nat) (s : List UInt8) (n : List (List UInt8)) (l : List EntD) : hge0 (N + 1) s false n l = stepG0 s n (fun s' b n' => hge0 N s' b n' l) (fun s' => hge1 N s' false n l) := by kernel_rfl
theorem ege1F (N : Nat) (s : List UInt8) (n : List (List UInt8)) (l : List EntD) : hge1 (N + 1) s false n l = stepG1F s n l (fun s' b l' => hge1 N s' b n l') := by kernel_rfl
theorem ege1T (N : Nat) (s : List UInt8) (n : List (List UInt8)) (l : List EntD) : hge1 (N + 1) s true n l = stepG1T s n l := by kernel_rfl
theorem ge1T_l (N : Nat) (s : List UInt8) (n : List (List UInt8)) (l : List EntD) (h : 0 < N) (hs : s.length < 4294967281) : hge1 N s true n l = some errG := by
  obtain ⟨N, rfl⟩ : ∃ m, N = m + 1 := ⟨N - 1, by omega⟩
  rw [ege1T, stepG1T_n hs]
theorem ge1_l (n : List (List UInt8)) (h1 : n.length ≤ 1099511627776) (h2 : ∀ k, k ∈ n → bndS k = true) : ∀ (f N : Nat) (s : List UInt8) (l : List EntD), s.length < f → f < N → s.length < 4294967281 → l.length + s.length ≤ 8589934592 → entsP l = true → hge1 N s false n l = some (bif (enF f s l).2.1 then errG else finG (enF f s l).1 n (enF f s l).2.2)
  | 0, _, s, _, h, _, _, _, _ => absurd h (Nat.not_lt_zero _)
  | f + 1, N, s, l, hf, hN, hs, hl, hp => by
    obtain ⟨N, rfl⟩ : ∃ m, N = m + 1 := ⟨N - 1, by omega⟩
    rw [ege1F]
    unfold enF
    cases hk : hasPre s keyL
    · rw [stepG1F_e _ hk hs (smayP_of h1 h2 hp), xF, xF]
    · have l1 := isR_lt hk
      have hke : keyL.length = 5 := rfl
      obtain ⟨q1, q2, q3⟩ : (eN s).1.1.length ≤ (isR s keyL).length ∧ (eN s).2.1.1.length ≤ (isR s keyL).length ∧ (eN s).2.1.2.1.length ≤ (isR s keyL).length + 1 := entN_len (isR s keyL)
      have hp' : entsP (l ++ [(eN s).2.1]) = true := by
        obtain ⟨p1, p2⟩ := entsP_iff.1 hp
        refine entsP_iff.2 ⟨by rw [List.length_append, List.length_singleton]; omega, fun e he => ?_⟩
        rcases List.mem_append.1 he with he | he
        · exact p2 e he
        · have : e = (eN s).2.1 := by simpa using he
          subst this
          unfold entP bndS
          rw [Bool.and_eq_true, decide_eq_true_eq, decide_eq_true_eq]
          exact ⟨by omega, by omega⟩
      rw [stepG1F_n _ hk hs (by omega), xT]
      cases (eN s).1.2.1
      · rw [xF]
        exact ge1_l n h1 h2 f N _ _ (by omega) (by omega) (by omega) (by rw [List.length_append, List.length_singleton]; omega) hp'
      · rw [xT, xT]
        exact ge1T_l N _ n _ (by omega) (by omega)
theorem ge0T_l (N : Nat) (s : List UInt8) (n : List (List UInt8)) (l : List EntD) (h : 1 < N) (hs : s.length < 4294967281) : hge0 N s true n l = some errG := by
  obtain ⟨N, rfl⟩ : ∃ m, N = m + 1 := ⟨N - 1, by omega⟩
  rw [ege0T]
  exact ge1T_l N s n l (by omega) hs
def restG (z : Nat) (a : List UInt8 × Bool × List (List UInt8)) : ShD × Int × Unit := bif a.2.1 then errG else bif (enF z a.1 []).2.1 then errG else finG (enF z a.1 []).1 a.2.2 (enF z a.1 []).2.2
theorem ge0_l (z : Nat) (hz : z ≤ 4294967290) : ∀ (f N : Nat) (s : List UInt8) (n : List (List UInt8)), s.length < f → s.length < z → f + z + 2 < N → s.length < 4294967281 → n.length + s.length ≤ 8589934592 → (∀ k, k ∈ n → bndS k = true) → hge0 N s false n [] = some (restG z (nmF f s n))
  | 0, _, s, _, h, _, _, _, _, _ => absurd h (Nat.not_lt_zero _)
  | f + 1, N, s, n, hf, hfz, hN, hs, hl, hp => by
    obtain ⟨N, rfl⟩ : ∃ m, N = m + 1 := ⟨N - 1, by omega⟩
    rw [ege0F]
    unfold nmF stepG0
    cases hk : hasPre s nameL
    · rw [xF, xF, isR_F hk]
      have := ge1_l n (by omega) hp z N s [] hfz (by omega) hs (by rw [List.length_nil]; omega) rfl
      exact this
    · have l1 := isR_lt hk
      have hke : nameL.length = 6 := rfl
      have l2 : (nK s).length ≤ (isR s nameL).length ∧ (nS s).length ≤ (isR s nameL).length := up_len (isR s nameL) nameE
      have g : upS.pre (isR s nameL, false, ()) (nameE, ()) = true := decide_eq_true (show (isR s nameL).length < 4294967281 by omega)
      rw [xT, xT, List.length_singleton, gdT (by omega), gdB g, xG]
      cases nB s
      · rw [xF]
        refine ge0_l z hz f N _ _ (by omega) (by omega) (by omega) (by omega) (by rw [List.length_append, List.length_singleton]; omega) fun k hk => ?_
        rcases List.mem_append.1 hk with hk | hk
        · exact hp k hk
        · have : k = nK s := by simpa using hk
          subst this
          unfold bndS; exact decide_eq_true (by omega)
      · rw [xT]
        exact ge0T_l N _ _ _ (by omega) (by omega)
theorem sget_c : PC 32 sgetS := (pureO (sh := shOf shge) (envO_ok (l := [(28, smayS)]) (o := [(54, isS), (55, upS), (56, entRS)]) ⟨smay_c, trivial⟩ ⟨is_c, up_c, ent_c, trivial⟩) gl_ne Tryz.func32 (by kernel_rfl) (by decide)).nice fun ⟨s, ()⟩ h => by
  have h : s.length ≤ 1073741824 := of_decide_eq_true h
  show oge _ = some (sgetN s)
  rw [oge_g, ege_g]
  have l1 := isR_len s begL
  unfold sgetN
  cases hasPre s begL
  · rw [xF, ge0T_l heads0 _ _ _ (by unfold heads0; omega) (by omega)]; rfl
  · rw [xT, ge0_l (s.length + 1) (by omega) (s.length + 1) heads0 _ [] (by omega) (by omega) (by unfold heads0; omega) (by omega) (by rw [List.length_nil]; omega) fun k hk => by cases hk]
    rfl
end Go.Proofs.YtnblkjapeiaedaaGreatDoor
