/-
  Part of the proof: ShX ShY PShA PShB PShC. No condition.
-/
import Derived.Test.YtnblkjapeiaedaaGreatDoorQ6
import Derived.Test.YtnblkjapeiaedaaGreatDoorX0
import Derived.Test.YtnblkjapeiaedaaGreatDoorQ5
namespace Nice
open Go Go.Eng
end Nice
namespace Go.Proofs.YtnblkjapeiaedaaGreatDoor
open Go Go.Eng Nice Go.RowKit
set_option maxRecDepth 1000000
end Go.Proofs.YtnblkjapeiaedaaGreatDoor
namespace Nice
open Go Go.Eng
def eqV (x y : VerD) : Bool := x.1 == y.1 && x.2.1 == y.2.1
def eqVs : List VerD → List VerD → Bool
  | [], [] => true
  | x :: a, y :: b => eqV x y && eqVs a b
  | _, _ => false
end Nice
namespace Go.Proofs.YtnblkjapeiaedaaGreatDoor
open Go Go.Eng Nice Go.RowKit
set_option maxRecDepth 1000000
end Go.Proofs.YtnblkjapeiaedaaGreatDoor
namespace Nice
open Go Go.Eng
theorem hasPre_eq {s p : List UInt8} (h : hasPre s p = true) : s = p ++ isR s p := by
  unfold isR
  rw [h, xT]
  unfold hasPre at h
  rw [Bool.and_eq_true, decide_eq_true_eq, beq_iff_eq] at h
  have := (List.take_append_drop p.length s).symm
  rw [h.2] at this
  exact this
end Nice
namespace Nice
open Go Go.Eng
/-! ### cuts -/
theorem occ_hit (k p r : List UInt8) : Lib.occAt (k ++ (p ++ r)) p k.length = true := by
  unfold Lib.occAt
  rw [List.drop_left, List.isPrefixOf_iff_prefix]
  exact ⟨r, rfl⟩
theorem cut_at {k p r : List UInt8} {c : UInt8} (hp : p.head? = some c) (hk : ∀ x, x ∈ k → x ≠ c) : Lib.cut (k ++ (p ++ r)) p = (k, r, true) := by
  obtain ⟨p', rfl⟩ : ∃ q, p = c :: q := by
    cases p with
    | nil => cases hp
    | cons a q => exact ⟨q, by rw [Option.some.inj hp]⟩
  have hi : Lib.index (k ++ ((c :: p') ++ r)) (c :: p') = (k.length : Int) := by
    refine Lib.index_first (by rw [List.length_append]; omega) (occ_hit k (c :: p') r) fun j hj => ?_
    cases h : Lib.occAt (k ++ ((c :: p') ++ r)) (c :: p') j
    · rfl
    · exfalso
      have h2 := Lib.occAt_head rfl h
      rw [List.getElem?_append_left hj, List.getElem?_eq_getElem hj] at h2
      exact hk _ (List.getElem_mem hj) (Option.some.inj h2)
  unfold Lib.cut
  rw [hi, if_pos (by omega), show ((k.length : Int)).toNat = k.length from rfl, List.take_left, ← List.drop_drop, List.drop_left, List.drop_left]
theorem hasPre_a (p r : List UInt8) : hasPre (p ++ r) p = true := by
  unfold hasPre
  rw [List.take_left, Bool.and_eq_true, decide_eq_true_eq, List.length_append, beq_iff_eq]
  exact ⟨by omega, rfl⟩
theorem isR_app (p r : List UInt8) : isR (p ++ r) p = r := by
  unfold isR
  rw [hasPre_a, xT, List.drop_left]
theorem up_at {k p r : List UInt8} {c : UInt8} (b : Bool) (hp : p.head? = some c) (hk : ∀ x, x ∈ k → x ≠ c) : upT (k ++ (p ++ r)) p = k ∧ upR (k ++ (p ++ r)) p = r ∧ upB b (k ++ (p ++ r)) p = b := by
  unfold upT upR upB
  rw [cut_at hp hk]
  exact ⟨rfl, rfl, rfl⟩
theorem keyCh_ne {x : UInt8} (h : keyCh x = true) : x ≠ 60 := by
  rintro rfl; exact absurd h (by decide)
theorem key_ne {k : List UInt8} (h : isKey k = true) : ∀ x, x ∈ k → x ≠ 60 := fun x hx => by
  unfold isKey at h
  rw [Bool.and_eq_true, List.all_eq_true] at h
  exact keyCh_ne (h.1 x hx)
/-! ### names -/
theorem nm_at {k : List UInt8} (R : List UInt8) (hk : isKey k = true) : hasPre (nameX k ++ R) nameL = true ∧ nK (nameX k ++ R) = k ∧ nS (nameX k ++ R) = R ∧ nB (nameX k ++ R) = false := by
  have e : nameX k ++ R = nameL ++ (k ++ (nameE ++ R)) := by unfold nameX; simp only [List.append_assoc]
  rw [e]
  refine ⟨hasPre_a _ _, ?_⟩
  show upT (isR (nameL ++ (k ++ (nameE ++ R))) nameL) nameE = k ∧ upR (isR (nameL ++ (k ++ (nameE ++ R))) nameL) nameE = R ∧ upB false (isR (nameL ++ (k ++ (nameE ++ R))) nameL) nameE = false
  rw [isR_app]
  exact up_at false rfl (key_ne hk)
theorem nmF_fwd (R : List UInt8) (hR : hasPre R nameL = false) : ∀ (m : List (List UInt8)) (f : Nat) (n : List (List UInt8)), (∀ k, k ∈ m → isKey k = true) → m.length < f → nmF f (m.flatMap nameX ++ R) n = (R, false, n ++ m)
  | [], f, n, _, hf => by
    obtain ⟨f, rfl⟩ : ∃ g, f = g + 1 := ⟨f - 1, by rw [List.length_nil] at hf; omega⟩
    unfold nmF
    show (bif hasPre R nameL then _ else (R, false, n)) = (R, false, n ++ [])
    rw [hR, List.append_nil]; rfl
  | k :: m, f, n, h, hf => by
    obtain ⟨f, rfl⟩ : ∃ g, f = g + 1 := ⟨f - 1, by rw [List.length_cons] at hf; omega⟩
    obtain ⟨h1, h2, h3, h4⟩ := nm_at (m.flatMap nameX ++ R) (h k List.mem_cons_self)
    unfold nmF
    rw [List.flatMap_cons, List.append_assoc, h1, h2, h3, h4, xT, xF, nmF_fwd R hR m f _ (fun x hx => h x (List.mem_cons_of_mem _ hx)) (by rw [List.length_cons] at hf; omega), List.append_assoc]
    rfl
/-! ### versions -/
theorem hexD_all : (List.range 16).all (fun d => isHx (hexD (d : Int)) && (hx (hexD (d : Int)) == (d : Int) && (hexD (d : Int) != 34 && hexD (d : Int) != 60))) = true := by kernel_rfl
theorem hexD_n {d : Int} (h0 : 0 ≤ d) (h1 : d < 16) : isHx (hexD d) = true ∧ hx (hexD d) = d ∧ hexD d ≠ 34 := by
  obtain ⟨n, rfl⟩ : ∃ n : Nat, d = (n : Int) := ⟨d.toNat, by omega⟩
  have := List.all_eq_true.1 hexD_all n (List.mem_range.2 (by omega))
  rw [Bool.and_eq_true, Bool.and_eq_true, Bool.and_eq_true, beq_iff_eq, bne_iff_ne] at this
  exact ⟨this.1, this.2.1, this.2.2.1⟩
theorem four_ds {n : Int} (h0 : 0 ≤ n) (h1 : n < 65521) : ∃ a b c d : Int, fourN n = [hexD a, hexD b, hexD c, hexD d] ∧ (0 ≤ a ∧ a < 16) ∧ (0 ≤ b ∧ b < 16) ∧ (0 ≤ c ∧ c < 16) ∧ (0 ≤ d ∧ d < 16) ∧ ((((0 * 16 + a) * 16 + b) * 16 + c) * 16 + d) = n := by
  obtain ⟨m, rfl⟩ : ∃ m : Nat, n = (m : Int) := ⟨n.toNat, by omega⟩
  refine ⟨((m / 4096 % 16 : Nat) : Int), ((m / 256 % 16 : Nat) : Int), ((m / 16 % 16 : Nat) : Int), ((m % 16 : Nat) : Int), rfl, ⟨by omega, by omega⟩, ⟨by omega, by omega⟩, ⟨by omega, by omega⟩, ⟨by omega, by omega⟩, by omega⟩
theorem rdF_cons {c : UInt8} (r : List UInt8) (i : Nat) (a b : Int) (h : isHx c = true) : rdF (c :: r) i a b = bif decide (i < 4) then rdF r (i + 1) (a * 16 + hx c) b else rdF r (i + 1) a (b * 16 + hx c) := by
  show (bif isHx c then _ else none) = _
  rw [h]; rfl
theorem rdF_8 {a b c d e f g h : Int} (ha : 0 ≤ a ∧ a < 16) (hb : 0 ≤ b ∧ b < 16) (hc : 0 ≤ c ∧ c < 16) (hd : 0 ≤ d ∧ d < 16) (he : 0 ≤ e ∧ e < 16) (hf : 0 ≤ f ∧ f < 16) (hg : 0 ≤ g ∧ g < 16) (hh : 0 ≤ h ∧ h < 16) : rdF [hexD a, hexD b, hexD c, hexD d, hexD e, hexD f, hexD g, hexD h] 0 0 0 = some ((((0 * 16 + a) * 16 + b) * 16 + c) * 16 + d, (((0 * 16 + e) * 16 + f) * 16 + g) * 16 + h) := by
  rw [rdF_cons _ _ _ _ (hexD_n ha.1 ha.2).1, (hexD_n ha.1 ha.2).2.1, decide_eq_true (show 0 < 4 by decide), xT,
    rdF_cons _ _ _ _ (hexD_n hb.1 hb.2).1, (hexD_n hb.1 hb.2).2.1, decide_eq_true (show 0 + 1 < 4 by decide), xT,
    rdF_cons _ _ _ _ (hexD_n hc.1 hc.2).1, (hexD_n hc.1 hc.2).2.1, decide_eq_true (show 0 + 1 + 1 < 4 by decide), xT,
    rdF_cons _ _ _ _ (hexD_n hd.1 hd.2).1, (hexD_n hd.1 hd.2).2.1, decide_eq_true (show 0 + 1 + 1 + 1 < 4 by decide), xT,
    rdF_cons _ _ _ _ (hexD_n he.1 he.2).1, (hexD_n he.1 he.2).2.1, decide_eq_false (show ¬ 0 + 1 + 1 + 1 + 1 < 4 by decide), xF,
    rdF_cons _ _ _ _ (hexD_n hf.1 hf.2).1, (hexD_n hf.1 hf.2).2.1, decide_eq_false (show ¬ 0 + 1 + 1 + 1 + 1 + 1 < 4 by decide), xF,
    rdF_cons _ _ _ _ (hexD_n hg.1 hg.2).1, (hexD_n hg.1 hg.2).2.1, decide_eq_false (show ¬ 0 + 1 + 1 + 1 + 1 + 1 + 1 < 4 by decide), xF,
    rdF_cons _ _ _ _ (hexD_n hh.1 hh.2).1, (hexD_n hh.1 hh.2).2.1, decide_eq_false (show ¬ 0 + 1 + 1 + 1 + 1 + 1 + 1 + 1 < 4 by decide), xF]
  rfl
theorem tag_ok (b : List UInt8) : (gRead (tagN b)).2 = true ∧ (∀ x, x ∈ tagN b → x ≠ 34) := by
  have hm := Go.Proofs.YtnblkjapeiaedaaGreatDoor.on_m b (0, 1, ()) ⟨⟨by decide, by decide⟩, ⟨by decide, by decide⟩⟩
  obtain ⟨⟨m1, m2⟩, ⟨m3, m4⟩⟩ := hm
  obtain ⟨a, b', c, d, e1, ha, hb, hc, hd, v1⟩ := four_ds m1 m2
  obtain ⟨e, f, g, h, e2, he, hf, hg, hh, v2⟩ := four_ds m3 m4
  have ht : tagN b = [hexD a, hexD b', hexD c, hexD d, hexD e, hexD f, hexD g, hexD h] := by
    show fourN (onN (0, 1, ()) b).1 ++ fourN (onN (0, 1, ()) b).2.1 = _
    rw [e1, e2]; rfl
  rw [ht]
  refine ⟨?_, fun x hx => ?_⟩
  · unfold gRead rdZ
    rw [decide_eq_true (show [hexD a, hexD b', hexD c, hexD d, hexD e, hexD f, hexD g, hexD h].length = 8 from rfl), xT, rdF_8 ha hb hc hd he hf hg hh, v1, v2]
    show ((match (bif decide ((onN (0, 1, ()) b).1 < 65521) && decide ((onN (0, 1, ()) b).2.1 < 65521) then some ((onN (0, 1, ()) b).1, (onN (0, 1, ()) b).2.1) else none) with
      | some z => ((FloatKind.f64.nearest z.1, FloatKind.f64.nearest z.2), true)
      | none => ((0, 0), false)) : (Nat × Nat) × Bool).2 = true
    rw [decide_eq_true m2, decide_eq_true m4]; rfl
  · simp only [List.mem_cons, List.not_mem_nil, or_false] at hx
    rcases hx with rfl | rfl | rfl | rfl | rfl | rfl | rfl | rfl
    · exact (hexD_n ha.1 ha.2).2.2
    · exact (hexD_n hb.1 hb.2).2.2
    · exact (hexD_n hc.1 hc.2).2.2
    · exact (hexD_n hd.1 hd.2).2.2
    · exact (hexD_n he.1 he.2).2.2
    · exact (hexD_n hf.1 hf.2).2.2
    · exact (hexD_n hg.1 hg.2).2.2
    · exact (hexD_n hh.1 hh.2).2.2
def stripV (v : VerD) : VerD := (v.1, v.2.1, [], ())
def stripE (e : EntD) : EntD := (e.1, e.2.1.map stripV, ())
def stripS (d : ShD) : ShD := (d.1, d.2.1.map stripE, d.2.2.1, d.2.2.2.1, ())
theorem mk_ok (v : VerD) : (!(gRead (mkV v)).2 && !(mkV v == goneL)) = false ∧ (mkV v == goneL) = v.2.1 ∧ (∀ x, x ∈ mkV v → x ≠ 34) := by
  unfold mkV
  cases v.2.1
  · rw [xF]
    obtain ⟨t1, t2⟩ := tag_ok v.2.2.1
    refine ⟨by rw [t1]; rfl, ?_, t2⟩
    rw [beq_eq_false_iff_ne]
    intro e
    have := congrArg List.length e
    rw [tagN_len] at this
    exact absurd this (by decide)
  · rw [xT]
    exact ⟨by rw [beq_self_eq_true, Bool.not_true, Bool.and_false], beq_self_eq_true _, by decide⟩
theorem fmt_ok {n : Int} (h0 : 1 ≤ n) (h1 : n ≤ 1099511627776) : intN (fmtN n) = (n, true) ∧ (∀ x, x ∈ fmtN n → x ≠ 34) := by
  obtain ⟨u, rfl⟩ : ∃ u : Nat, n = (u : Int) := ⟨n.toNat, by omega⟩
  refine ⟨intN_fmt (by omega), fun x hx => ?_⟩
  rw [fmtN_nat] at hx
  have := (dec_ok u).1
  unfold allDig at this
  have := List.all_eq_true.1 this x hx
  rintro rfl
  exact absurd this (by decide)
theorem ver_at {v : VerD} (R : List UInt8) (hv : verB v = true) : hasPre (verX v ++ R) verL = true ∧ vB3 (verX v ++ R) = false ∧ badV (vNu (verX v ++ R)) (vMk (verX v ++ R)) = false ∧ newV (vNu (verX v ++ R)) (vMk (verX v ++ R)) = stripV v ∧ vS3 (verX v ++ R) = R := by
  have hv' := hv
  unfold verB at hv'
  rw [Bool.and_eq_true, Bool.and_eq_true, decide_eq_true_eq, decide_eq_true_eq] at hv'
  obtain ⟨f1, f2⟩ := fmt_ok hv'.1 hv'.2.1
  obtain ⟨m1, m2, m3⟩ := mk_ok v
  have e : verX v ++ R = verL ++ (fmtN v.1 ++ (tagL ++ (mkV v ++ (cloL ++ R)))) := by
    unfold verX verY; simp only [List.append_assoc]
  rw [e]
  have e1 : vS1 (verL ++ (fmtN v.1 ++ (tagL ++ (mkV v ++ (cloL ++ R))))) = fmtN v.1 ++ (tagL ++ (mkV v ++ (cloL ++ R))) := isR_app _ _
  obtain ⟨u1, u2, u3⟩ := up_at (k := fmtN v.1) (p := tagL) (r := mkV v ++ (cloL ++ R)) (c := 34) false rfl f2
  obtain ⟨w1, w2, w3⟩ := up_at (k := mkV v) (p := cloL) (r := R) (c := 34) false rfl m3
  have e2 : vNu (verL ++ (fmtN v.1 ++ (tagL ++ (mkV v ++ (cloL ++ R))))) = fmtN v.1 := by
    show upT (vS1 _) tagL = _; rw [e1]; exact u1
  have e3 : vS2 (verL ++ (fmtN v.1 ++ (tagL ++ (mkV v ++ (cloL ++ R))))) = mkV v ++ (cloL ++ R) := by
    show upR (vS1 _) tagL = _; rw [e1]; exact u2
  have e4 : vMk (verL ++ (fmtN v.1 ++ (tagL ++ (mkV v ++ (cloL ++ R))))) = mkV v := by
    show upT (vS2 _) cloL = _; rw [e3]; exact w1
  have e5 : vS3 (verL ++ (fmtN v.1 ++ (tagL ++ (mkV v ++ (cloL ++ R))))) = R := by
    show upR (vS2 _) cloL = _; rw [e3]; exact w2
  refine ⟨hasPre_a _ _, ?_, ?_, ?_, e5⟩
  · show upB (upB false (vS1 _) tagL) (vS2 _) cloL = false
    rw [e1, e3, u3, w3]
  · rw [e2, e4]
    unfold badV
    rw [f1, m1, Bool.not_true, Bool.false_or, Bool.or_false, beq_self_eq_true]; rfl
  · rw [e2, e4]
    unfold newV stripV
    rw [f1, m2]
theorem entV_fwd (Z : List UInt8) (hZ : hasPre Z verL = false) : ∀ (u : List VerD) (f : Nat) (q : List VerD), (∀ v, v ∈ u → verB v = true) → u.length < f → entV f (u.flatMap verX ++ Z) q = (Z, false, q ++ u.map stripV)
  | [], f, q, _, hf => by
    obtain ⟨f, rfl⟩ : ∃ g, f = g + 1 := ⟨f - 1, by rw [List.length_nil] at hf; omega⟩
    unfold entV
    show (bif hasPre Z verL then _ else (Z, false, q)) = (Z, false, q ++ [])
    rw [hZ, List.append_nil]; rfl
  | v :: u, f, q, h, hf => by
    obtain ⟨f, rfl⟩ : ∃ g, f = g + 1 := ⟨f - 1, by rw [List.length_cons] at hf; omega⟩
    obtain ⟨h1, h2, h3, h4, h5⟩ := ver_at (u.flatMap verX ++ Z) (h v List.mem_cons_self)
    unfold entV
    rw [List.flatMap_cons, List.append_assoc, h1, h2, h3, h4, h5, xT, Bool.or_false, xF, entV_fwd Z hZ u f _ (fun x hx => h x (List.mem_cons_of_mem _ hx)) (by rw [List.length_cons] at hf; omega), List.append_assoc]
    rfl
end Nice
namespace Nice
open Go Go.Eng
theorem mis {a b c : UInt8} {r q : List UInt8} (h : b ≠ c) : hasPre (a :: b :: r) (a :: c :: q) = false := by
  cases e : hasPre (a :: b :: r) (a :: c :: q)
  · rfl
  · have := hasPre_eq e
    rw [List.cons_append, List.cons_append] at this
    injection this with _ this
    injection this with this _
    exact absurd this h
theorem mis3 {a b c d : UInt8} {r q : List UInt8} (h : c ≠ d) : hasPre (a :: b :: c :: r) (a :: b :: d :: q) = false := by
  cases e : hasPre (a :: b :: c :: r) (a :: b :: d :: q)
  · rfl
  · have := hasPre_eq e
    rw [List.cons_append, List.cons_append, List.cons_append] at this
    injection this with _ this
    injection this with _ this
    injection this with this _
    exact absurd this h
theorem flat_len {α : Type} (f : α → List UInt8) (h : ∀ a, 1 ≤ (f a).length) : ∀ (l : List α), l.length ≤ (l.flatMap f).length
  | [] => Nat.le_refl _
  | a :: l => by
    have := flat_len f h l
    have := h a
    rw [List.flatMap_cons, List.length_append, List.length_cons]; omega
theorem verX_pos (v : VerD) : 1 ≤ (verX v).length := by
  unfold verX; rw [verY_len]; omega
theorem nameX_len (k : List UInt8) : (nameX k).length = 13 + k.length := by
  unfold nameX; rw [List.length_append, List.length_append, show nameL.length = 6 from rfl, show nameE.length = 7 from rfl]; omega
theorem entX_pos (e : EntD) : 1 ≤ (entX e).length := by
  unfold entX; simp only [List.length_append, show kenL.length = 11 from rfl]; omega
theorem en_at {e : EntD} (R : List UInt8) (he : entB e = true) : hasPre (entX e ++ R) keyL = true ∧ eN (entX e ++ R) = ((R, false, ()), stripE e, ()) := by
  obtain ⟨h1, h2, _, _⟩ := entB_iff.1 he
  have hv := riseV_mem _ _ h1
  have e0 : entX e ++ R = keyL ++ (nameL ++ (e.1 ++ (nameE ++ (versX e.2.1 ++ (keyE ++ R))))) := by
    unfold entX
    rw [show kenL = keyL ++ nameL from rfl]
    simp only [List.append_assoc]
  rw [e0]
  refine ⟨hasPre_a _ _, ?_⟩
  show entN (isR (keyL ++ _) keyL) = _
  rw [isR_app]
  generalize hZ : versX e.2.1 ++ (keyE ++ R) = Z
  have e1 : eS1 (nameL ++ (e.1 ++ (nameE ++ Z))) = e.1 ++ (nameE ++ Z) := isR_app _ _
  have e2 : (!hasPre (nameL ++ (e.1 ++ (nameE ++ Z))) nameL) = false := by rw [hasPre_a]; rfl
  obtain ⟨u1, u2, u3⟩ := up_at (k := e.1) (p := nameE) (r := Z) (c := 60) false rfl (key_ne h2)
  have e3 : eK (nameL ++ (e.1 ++ (nameE ++ Z))) = e.1 := by show upT (eS1 _) nameE = _; rw [e1]; exact u1
  have e4 : eS2 (nameL ++ (e.1 ++ (nameE ++ Z))) = Z := by show upR (eS1 _) nameE = _; rw [e1]; exact u2
  have e5 : eB2 (nameL ++ (e.1 ++ (nameE ++ Z))) = false := by show upB (!hasPre _ nameL) (eS1 _) nameE = _; rw [e1, e2]; exact u3
  have hlen := flat_len verX verX_pos e.2.1.reverse
  have eW : entW (nameL ++ (e.1 ++ (nameE ++ Z))) = (keyE ++ R, false, e.2.1.reverse.map stripV) := by
    unfold entW
    rw [e5, e4, xF, ← hZ]
    have := entV_fwd (keyE ++ R) (mis (a := 60) (b := 47) (c := 118) (by decide) : hasPre (keyE ++ R) verL = false) e.2.1.reverse ((versX e.2.1 ++ (keyE ++ R)).length + 1) [] (fun v hv' => hv v (List.mem_reverse.1 hv')) (by
      show _ < (e.2.1.reverse.flatMap verX ++ (keyE ++ R)).length + 1
      rw [List.length_append]; omega)
    exact this
  unfold entN
  rw [eW, e3]
  dsimp only
  rw [isR_app, hasPre_a, Bool.not_true, Bool.false_or, ← List.map_reverse, List.reverse_reverse]
  rfl
theorem enF_fwd (R : List UInt8) (hR : hasPre R keyL = false) : ∀ (m : List EntD) (f : Nat) (q : List EntD), (∀ e, e ∈ m → entB e = true) → m.length < f → enF f (m.flatMap entX ++ R) q = (R, false, q ++ m.map stripE)
  | [], f, q, _, hf => by
    obtain ⟨f, rfl⟩ : ∃ g, f = g + 1 := ⟨f - 1, by rw [List.length_nil] at hf; omega⟩
    unfold enF
    show (bif hasPre R keyL then _ else (R, false, q)) = (R, false, q ++ [])
    rw [hR, List.append_nil]; rfl
  | e :: m, f, q, h, hf => by
    obtain ⟨f, rfl⟩ : ∃ g, f = g + 1 := ⟨f - 1, by rw [List.length_cons] at hf; omega⟩
    obtain ⟨h1, h2⟩ := en_at (m.flatMap entX ++ R) (h e List.mem_cons_self)
    unfold enF
    rw [List.flatMap_cons, List.append_assoc, h1, h2, xT, xF, enF_fwd R hR m f _ (fun x hx => h x (List.mem_cons_of_mem _ hx)) (by rw [List.length_cons] at hf; omega), List.append_assoc]
    rfl
theorem verB_strip {v : VerD} (h : verB v = true) : verB (stripV v) = true := by
  unfold verB at h ⊢
  rw [Bool.and_eq_true, Bool.and_eq_true] at h
  show (decide (1 ≤ v.1) && (decide (v.1 ≤ 1099511627776) && (decide (([] : List UInt8).length ≤ 300) && (!v.2.1 || true)))) = true
  rw [h.1, h.2.1, Bool.or_true]; rfl
theorem riseV_strip : ∀ (l : List VerD) (t : Int), riseV t l = true → riseV t (l.map stripV) = true
  | [], _, _ => rfl
  | v :: l, t, h => by
    rw [riseV_cons, Bool.and_eq_true, Bool.and_eq_true] at h
    rw [List.map_cons, riseV_cons, verB_strip h.1]
    show (true && (decide (t < v.1) && riseV v.1 (l.map stripV))) = true
    rw [h.2.1, riseV_strip l v.1 h.2.2]; rfl
theorem entB_strip {e : EntD} (h : entB e = true) : entB (stripE e) = true := by
  obtain ⟨h1, h2, h3, h4⟩ := entB_iff.1 h
  refine entB_iff.2 ⟨riseV_strip _ _ h1, h2, ?_, ?_⟩
  · show 1 ≤ (e.2.1.map stripV).length; rw [List.length_map]; exact h3
  · show (e.2.1.map stripV).length ≤ 12; rw [List.length_map]; exact h4
theorem smayN_strip {d : ShD} (h : smayN d = true) : smayN (stripS d) = true := by
  have hk : keysN d.1 (d.2.1.map stripE) = keysN d.1 d.2.1 := by
    unfold keysN
    rw [List.map_map]; rfl
  unfold smayN at h ⊢
  show (!(decide (0 < d.1.length) && decide (0 < (d.2.1.map stripE).length)) && (riseK [] (keysN d.1 (d.2.1.map stripE)) && ((d.2.1.map stripE).all entB && (decide ((keysN d.1 (d.2.1.map stripE)).length ≤ 20) && (bif d.2.2.1 then decide (0 < (keysN d.1 (d.2.1.map stripE)).length) && d.2.2.2.1 == lastK [] (keysN d.1 (d.2.1.map stripE)) else d.2.2.2.1 == []))))) = true
  rw [hk, List.length_map]
  rw [Bool.and_eq_true, Bool.and_eq_true, Bool.and_eq_true] at h ⊢
  refine ⟨h.1, h.2.1, ?_, h.2.2.2⟩
  rw [List.all_eq_true]
  intro e he
  obtain ⟨e', he', rfl⟩ := List.mem_map.1 he
  exact entB_strip (List.all_eq_true.1 h.2.2.1 e' he')
theorem riseK_key : ∀ (l : List (List UInt8)) (t : List UInt8), riseK t l = true → 0 < l.length → isKey (lastK t l) = true
  | [], _, _, h => absurd h (by decide)
  | [k], t, h, _ => by
    rw [riseK_cons, Bool.and_eq_true] at h
    exact h.1
  | a :: b :: l, t, h, _ => by
    rw [riseK_cons, Bool.and_eq_true, Bool.and_eq_true] at h
    exact riseK_key (b :: l) a h.2.2 (by rw [List.length_cons]; omega)
/-- where there is more: a key stands in next; where there is none: nothing -/
theorem smayN_next {d : ShD} (h : smayN d = true) : (d.2.2.1 = true → isKey d.2.2.2.1 = true) ∧ (d.2.2.1 = false → d.2.2.2.1 = []) := by
  unfold smayN at h
  rw [Bool.and_eq_true, Bool.and_eq_true, Bool.and_eq_true, Bool.and_eq_true] at h
  obtain ⟨_, h1, _, _, h4⟩ := h
  refine ⟨fun hb => ?_, fun hb => ?_⟩
  · rw [hb, xT, Bool.and_eq_true, decide_eq_true_eq, beq_iff_eq] at h4
    rw [h4.2]; exact riseK_key _ _ h1 h4.1
  · rw [hb, xF, beq_iff_eq] at h4; exact h4
theorem endG_fwd (T : List UInt8) {d : ShD} (h : smayN d = true) : endG (endL ++ T) false d = bif T == [] then (d, 0, ()) else errG := by
  unfold endG
  rw [hasPre_a, isR_app, h]
  cases T == [] <;> rfl
theorem finG_fwd {d : ShD} (T : List UInt8) (h : smayN d = true) : finG (nextX d.2.2.1 d.2.2.2.1 ++ (endL ++ T)) d.1 d.2.1 = bif T == [] then (d, 0, ()) else errG := by
  obtain ⟨n, l, b, x, ⟨⟩⟩ := d
  obtain ⟨k1, k2⟩ := smayN_next h
  have k1 : b = true → isKey x = true := k1
  have k2 : b = false → x = [] := k2
  show finG (nextX b x ++ (endL ++ T)) n l = _
  cases b
  · obtain rfl := k2 rfl
    unfold finG
    rw [show nextX false [] ++ (endL ++ T) = endL ++ T from rfl, (show hasPre (endL ++ T) nextL = false from mis (a := 60) (b := 47) (c := 110) (by decide)), xF]
    exact endG_fwd T h
  · have hx := k1 rfl
    have e : nextX true x ++ (endL ++ T) = nextL ++ (x ++ (nextE ++ (endL ++ T))) := by
      show (nextL ++ x ++ nextE) ++ (endL ++ T) = _
      simp only [List.append_assoc]
    obtain ⟨u1, u2, u3⟩ := up_at (k := x) (p := nextE) (r := endL ++ T) (c := 60) false rfl (key_ne hx)
    unfold finG
    rw [e, hasPre_a, xT]
    show endG (upR (isR _ nextL) nextE) (upB false (isR _ nextL) nextE) (n, l, true, upT (isR _ nextL) nextE, ()) = _
    rw [isR_app, u1, u2, u3]
    exact endG_fwd T h
/-- a list that may be is read back, but for the bodies; more text is none's -/
theorem sget_fwd {d : ShD} (T : List UInt8) (h : smayN d = true) : sgetN (bodyX d ++ T) = bif T == [] then (stripS d, 0, ()) else errG := by
  obtain ⟨hk, he, _, _, _⟩ := smayN_iff h
  have hf := finG_fwd T (smayN_strip h)
  obtain ⟨k1, k2⟩ := smayN_next h
  obtain ⟨n, l, b, x, ⟨⟩⟩ := d
  have hk : ∀ k, k ∈ n → isKey k = true := hk
  have he : ∀ e, e ∈ l → entB e = true := he
  have hf : finG (nextX b x ++ (endL ++ T)) n (l.map stripE) = bif T == [] then (stripS (n, l, b, x, ()), 0, ()) else errG := hf
  have k2 : b = false → x = [] := k2
  have e0 : bodyX (n, l, b, x, ()) ++ T = begL ++ (n.flatMap nameX ++ (l.flatMap entX ++ (nextX b x ++ (endL ++ T)))) := by
    unfold bodyX; simp only [List.append_assoc]
  have hR2 : hasPre (nextX b x ++ (endL ++ T)) keyL = false := by
    cases b
    · exact (mis (a := 60) (b := 47) (c := 107) (by decide) : hasPre (endL ++ T) keyL = false)
    · exact (mis (a := 60) (b := 110) (c := 107) (by decide) : hasPre ((nextL ++ x ++ nextE) ++ (endL ++ T)) keyL = false)
  have hR1 : hasPre (l.flatMap entX ++ (nextX b x ++ (endL ++ T))) nameL = false := by
    cases l with
    | nil =>
      cases b
      · exact (mis (a := 60) (b := 47) (c := 110) (by decide) : hasPre (endL ++ T) nameL = false)
      · exact (mis3 (a := 60) (b := 110) (c := 101) (d := 97) (by decide) : hasPre ((nextL ++ x ++ nextE) ++ (endL ++ T)) nameL = false)
    | cons e l =>
      rw [List.flatMap_cons]
      exact (mis (a := 60) (b := 107) (c := 110) (by decide) : hasPre ((kenL ++ e.1 ++ nameE ++ versX e.2.1 ++ keyE ++ l.flatMap entX) ++ (nextX b x ++ (endL ++ T))) nameL = false)
  have hl1 := flat_len nameX (fun k => by rw [nameX_len]; omega) n
  have hl2 := flat_len entX entX_pos l
  rw [e0]
  unfold sgetN
  have hlen : (begL ++ (n.flatMap nameX ++ (l.flatMap entX ++ (nextX b x ++ (endL ++ T))))).length = 6 + ((n.flatMap nameX).length + ((l.flatMap entX).length + (nextX b x ++ (endL ++ T)).length)) := by
    rw [List.length_append, List.length_append, List.length_append]; rfl
  rw [hasPre_a, isR_app, nmF_fwd _ hR1 n _ [] hk (by omega), Bool.not_true, xF]
  dsimp only
  rw [xF, enF_fwd _ hR2 l _ [] he (by omega)]
  dsimp only
  rw [xF]
  exact hf
end Nice
