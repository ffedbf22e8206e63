/-
  SheetTurn: a list's text of which a byte was turned. No condition.
-/
import Derived.Test.YtnblkjapeiaedaaGreatDoorQ7
import Derived.Test.YtnblkjapeiaedaaGreatDoorShRd
import Derived.Test.YtnblkjapeiaedaaGreatDoorLawXAll
namespace Nice
open Go Go.Eng
def xwT (c y : UInt8) : Int := IntKind.u8.wrap ((Nat.bitwise bne (((c.toNat : Int) % 256).toNat) (((y.toNat : Int) % 256).toNat) : Nat) : Int)
abbrev tuB (p : List UInt8) (k : Int) (x : UInt8) : List UInt8 := p.set k.toNat (UInt8.ofNat (xwT (p.getD k.toNat Ty.byte.dflt) x).toNat)
noncomputable def tuE (d : ShD) (p : List UInt8) : BO := bif !p == [] then bO true else (bif smayN (dX d) then gd [smayP (dX d)] (bO false) else gd [smayP (dX d)] (bO true))
noncomputable def tuG (d : ShD) (p b : List UInt8) (k : Int) (x : UInt8) (g h : ShD × Int × Unit) : BO :=
  gd [sgetS.pre (b, ()), decide (k.toNat < p.length), decide (inK .u8 (xwT (p.getD k.toNat Ty.byte.dflt) x)), decide (0 ≤ k), decide (k < (p.length : Int)), decide (k.toNat < p.length), decide (0 ≤ k), decide (k < (p.length : Int)), decide ((p.length : Int) ≠ 0)]
    (bif g.2.1 != 0 then (bif g.2.1 == 1 then (bif (x.toNat : Int) != 0 then bO true else bO false) else bO false)
    else gd [sgetS.pre (p.take k.toNat, ()), decide (0 ≤ k), decide (k ≤ (p.length : Int)), decide ((p.length : Int) ≠ 0)] (bif (g.1.1.length : Int) == (d.1.length : Int) then (bif smayN (dX g.1) then (bif sputN (dX g.1) == b then (bif h.2.1 == 1 then gd [smayP (dX g.1), smayP (dX g.1)] (bO true) else gd [smayP (dX g.1), smayP (dX g.1)] (bO false)) else gd [smayP (dX g.1), smayP (dX g.1)] (bO false)) else gd [smayP (dX g.1)] (bO false)) else bO false))
noncomputable def tuW (n : List (List UInt8)) (m : Bool) (i : Int) (x : UInt8) (d : ShD) : BO :=
  gd [smayP (dX d), shS.pre (n, [], m, ())] (bif sputN (dX d) == [] then tuE d (sputN (dX d)) else bif decide (i < 0) then tuE d (sputN (dX d))
    else tuG d (sputN (dX d)) (tuB (sputN (dX d)) (i.tmod ((sputN (dX d)).length : Int)) x) (i.tmod ((sputN (dX d)).length : Int)) x (sgetN (tuB (sputN (dX d)) (i.tmod ((sputN (dX d)).length : Int)) x)) (sgetN ((sputN (dX d)).take (i.tmod ((sputN (dX d)).length : Int)).toNat)))
theorem smayP_may {d : ShD} (h : smayN d = true) : smayP d = true := by
  obtain ⟨h1, h2, h3, h4, _⟩ := smayN_iff h
  refine smayP_iff.2 ⟨by omega, fun k hk => ?_, Go.Proofs.YtnblkjapeiaedaaGreatDoor.entsP_iff.2 ⟨by omega, fun e he => ?_⟩⟩
  · have := isKey_bnd (h1 k hk)
    unfold bndS; exact decide_eq_true (by omega)
  · obtain ⟨_, q2, _, q4⟩ := entB_iff.1 (h2 e he)
    have q2 := isKey_bnd q2
    unfold entP bndS
    rw [Bool.and_eq_true, decide_eq_true_eq, decide_eq_true_eq]
    exact ⟨by omega, by omega⟩
theorem xw0 (c : UInt8) : UInt8.ofNat (xwT c 0).toNat = c := by
  have hc := c.toNat_lt
  have e1 : ((c.toNat : Int) % 256).toNat = c.toNat := by omega
  unfold xwT
  rw [wrap_u8, e1, show (((0 : UInt8).toNat : Int) % 256).toNat = 0 from rfl, show Nat.bitwise bne c.toNat 0 = c.toNat from Nat.xor_zero c.toNat, e1, UInt8.ofNat_toNat]
theorem tuB_0 {p : List UInt8} {k : Nat} (h : k < p.length) : tuB p (k : Int) 0 = p := by
  show p.set k (UInt8.ofNat (xwT (p.getD k Ty.byte.dflt) 0).toNat) = p
  rw [xw0, List.getD_eq_getElem?_getD, List.getElem?_eq_getElem h]
  exact List.set_getElem_self h
theorem tuE_n {d : ShD} (hp : smayP d = true) : tuE d (sputN (dX d)) = bO true := by
  unfold tuE sputN
  rw [show dX d = d from rfl, gdB hp, gdB hp, xG, xG]
  cases hm : smayN d
  · rfl
  · rw [xT]
    have hne := bodyX_ne d
    rw [show (bodyX d == []) = false from by rw [beq_eq_false_iff_ne]; intro e; rw [e] at hne; exact absurd hne (by decide)]; rfl
theorem tuG_n {d : ShD} (h : smayN d = true) (he : d.2.1 = []) (x : UInt8) {k : Nat} (hk : k < (bodyX d).length) : tuG d (bodyX d) (tuB (bodyX d) (k : Int) x) (k : Int) x (sgetN (tuB (bodyX d) (k : Int) x)) (sgetN ((bodyX d).take (k : Int).toNat)) = bO true := by
  have hle := bodyX_le h
  have hw : inK .u8 (xwT ((bodyX d).getD (k : Int).toNat Ty.byte.dflt) x) := inK_u8.2 (by unfold xwT; rw [wrap_u8]; omega)
  have p1 : sgetS.pre (tuB (bodyX d) (k : Int) x, ()) = true := decide_eq_true (show (tuB (bodyX d) (k : Int) x).length ≤ 1073741824 by rw [List.length_set]; omega)
  have p2 : sgetS.pre ((bodyX d).take (k : Int).toNat, ()) = true := decide_eq_true (show ((bodyX d).take (k : Int).toNat).length ≤ 1073741824 by rw [List.length_take]; omega)
  have hq : sgetN ((bodyX d).take (k : Int).toNat) = errG := sget_beg h he hk
  unfold tuG
  rw [gdB p1, gdT (show (k : Int).toNat < (bodyX d).length from hk), gdT hw, gdT (by omega), gdT (by omega), gdT (show (k : Int).toNat < (bodyX d).length from hk), gdT (by omega), gdT (by omega), gdT (by omega), xG, gdB p2, gdT (by omega), gdT (by omega), gdT (by omega), xG, hq]
  rcases sget_cases (tuB (bodyX d) (k : Int) x) with e | ⟨y, e, _⟩
  · rw [e]
    have hx : x ≠ 0 := by
      rintro rfl
      rw [tuB_0 hk] at e
      have f2 := sget_fwd [] h
      rw [List.append_nil, e] at f2
      have t : (1 : Int) = 0 := congrArg (fun g : ShD × Int × Unit => g.2.1) f2
      exact absurd t (by decide)
    show (bif (x.toNat : Int) != 0 then bO true else bO false) = bO true
    rw [show ((x.toNat : Int) != 0) = true from by
      rw [bne_iff_ne]
      intro q
      exact hx (UInt8.toNat_inj.1 (by show x.toNat = 0; omega))]
    rfl
  · obtain ⟨t1, t2, t3⟩ := sget_turn (c := UInt8.ofNat (xwT ((bodyX d).getD (k : Int).toNat Ty.byte.dflt) x).toNat) h he hk e
    have hp := smayP_may t1
    rw [e]
    show (bif (y.1.length : Int) == (d.1.length : Int) then (bif smayN y then (bif sputN y == tuB (bodyX d) (k : Int) x then (bif (1 : Int) == 1 then gd [smayP y, smayP y] (bO true) else gd [smayP y, smayP y] (bO false)) else gd [smayP y, smayP y] (bO false)) else gd [smayP y] (bO false)) else bO false) = bO true
    have t2 : sputN y = tuB (bodyX d) (k : Int) x := t2
    rw [t3, beq_self_eq_true, xT, t1, xT, t2, beq_self_eq_true, xT, gdB hp, gdB hp, xG]; rfl
theorem tuW_n {n : List (List UInt8)} (m : Bool) (i : Int) (x : UInt8) (h : n.length ≤ 140737488355328) : tuW n m i x (shN n [] m) = bO true := by
  have hp := smayP_sh n [] m
  have hs : shS.pre (n, [], m, ()) = true := shPre_of h (Nat.zero_le _) (fun e he => by cases he)
  have he : (shN n [] m).2.1 = [] := rfl
  unfold tuW
  rw [show dX (shN n [] m) = shN n [] m from rfl, gdB hp, gdB hs, xG]
  have hE := tuE_n hp
  rw [show dX (shN n [] m) = shN n [] m from rfl] at hE
  generalize shN n [] m = d at hp he hE ⊢
  rw [hE]
  cases hm : smayN d
  · have : sputN d = [] := by unfold sputN; rw [hm]; rfl
    rw [this, beq_self_eq_true, xT]
  · have hb : sputN d = bodyX d := by unfold sputN; rw [hm]; rfl
    have hne := bodyX_ne d
    rw [hb, show (bodyX d == []) = false from by rw [beq_eq_false_iff_ne]; intro e; rw [e] at hne; exact absurd hne (by decide), xF]
    by_cases hi : i < 0
    · rw [cdT hi]
    · rw [cdF hi]
      have k0 : 0 ≤ i.tmod ((bodyX d).length : Int) := Int.tmod_nonneg _ (by omega)
      have k1 : i.tmod ((bodyX d).length : Int) < ((bodyX d).length : Int) := Int.tmod_lt_of_pos _ (by omega)
      generalize i.tmod ((bodyX d).length : Int) = k at k0 k1 ⊢
      obtain ⟨k, rfl⟩ : ∃ j : Nat, k = (j : Int) := ⟨k.toNat, by omega⟩
      exact tuG_n hm he x (by omega)
end Nice
namespace Go.Proofs.YtnblkjapeiaedaaGreatDoor
open Go Go.Eng Nice Go.RowKit
set_option maxRecDepth 1000000
abbrev tsXTurn : List Ty := [.slice .str, .bool, .int .i64, .byte]
noncomputable abbrev enXT : Eng.Env := envS [(13, trueS), (25, shS), (26, ofShS), (27, sputS), (28, smayS), (29, smayS), (32, sgetS)]
noncomputable def olawXTurn (x : DenL tsXTurn) : BO := fO Tryz.prog enXT (shOf []) Tryz.f7 tsXTurn [.bool] x
theorem exut (n : List (List UInt8)) (i : Int) (x : UInt8) : olawXTurn (n, true, i, x, ()) = tuW n true i x (shN n [] true) := by kernel_rfl
theorem exuf (n : List (List UInt8)) (i : Int) (x : UInt8) : olawXTurn (n, false, i, x, ()) = tuW n false i x (shN n [] false) := by kernel_rfl
theorem lawXTurn_n (x : DenL tsXTurn) (hx : BdL tsXTurn x) : olawXTurn x = some (true, ()) := by
  obtain ⟨n, m, i, y, ⟨⟩⟩ := x
  have h1 : n.length ≤ 140737488355328 := hx.1.1
  cases m
  · rw [exuf]; exact tuW_n false i y h1
  · rw [exut]; exact tuW_n true i y h1
theorem lawXTurn_c : PC 7 (ofO tsXTurn [.bool] olawXTurn) := (pureO (envS_ok (l := [(13, trueS), (25, shS), (26, ofShS), (27, sputS), (28, smayS), (29, smayS), (32, sgetS)]) ⟨begun_c, sh_c, of_c, sput_c, smay_c, rsmay_c, sget_c, trivial⟩) gl_ne Tryz.func7 (by kernel_rfl) (by decide))
theorem lawXTurn_run {w : World} (hgl : GlW glC w) {args : Array Value} {x : DenL tsXTurn} (hx : RdAll (fzW w) tsXTurn x args.toList) (hb : BdL tsXTurn x) : Calls Tryz.prog 7 args w fun e w' => e = .returned (.bool true) ∧ Same w w' :=
  law_calls lawXTurn_c (fun x hx => by
    have := lawXTurn_n x hx
    exact ⟨by show (olawXTurn x).isSome = true; rw [this]; rfl, by show (olawXTurn x).getD _ = _; rw [this]; rfl⟩) hgl hx hb
end Go.Proofs.YtnblkjapeiaedaaGreatDoor
