/-
  SayAny: is what is told of a text just its? The plain law and the contracts. No condition.
-/
import Derived.Test.YtnblkjapeiaedaaGreatDoorLawSAll
namespace Nice
open Go Go.Eng
def tlE (a : AnsD) : BO := bif eqAns a zA then gd [ansB a] (bO true) else gd [ansB a] (bO false)
def tlX (t : List UInt8) (g : AnsD × Int × Int) (nx : BO) : BO :=
  gd [bndS t] (bif g.2.2 != 0 then (bif g.2.1 == 0 then (bif g.2.2 == 2 then tlE g.1 else bif g.2.2 == 1 then tlE g.1 else bO false) else bO false)
    else bif decide (g.2.1 > (t.length : Int)) then bO false else bif decide (g.2.1 < 1) then bO false else bif amayB g.1 then nx else gd [aputP g.1] (bO false))
def tl0 (t : List UInt8) (g : AnsD × Int × Int) : BO :=
  bif aputN g.1 false == t.take g.2.1.toNat then gd [decide (0 ≤ g.2.1), decide (g.2.1 ≤ (t.length : Int)), aputP g.1, aputP g.1] (bO true) else gd [decide (0 ≤ g.2.1), decide (g.2.1 ≤ (t.length : Int)), aputP g.1, aputP g.1] (bO false)
def tl1 (g : AnsD × Int × Int) : BO := bif g.1.2.2.1 == [] then gd [aputP g.1] (bO true) else gd [aputP g.1] (bO false)
noncomputable def tellS : PSpec := ⟨[.str, .bool], [.bool], fun x => bndS x.1, fun x => (true, ())⟩
theorem headB_p {h : HeadD} (hb : headB h = true) : headP h = true := by
  obtain ⟨h1, h2⟩ := headB_len hb
  obtain ⟨n, v, ⟨⟩⟩ := h
  exact headP_cut (Nat.le_trans h1 (by decide)) (Nat.le_trans h2 (by decide))
theorem may_p {a : AnsD} (h : amayB a = true) : aputP a = true := by
  obtain ⟨n, hs, b, ⟨⟩⟩ := a
  obtain ⟨m1, m2, m3, m4, m5⟩ := may_iff.1 h
  exact Go.Proofs.YtnblkjapeiaedaaGreatDoor.headsP_iff.2 ⟨show hs.length ≤ 140737488355328 by omega, fun h hm => headB_p (m3 h hm)⟩
theorem may_bare {a : AnsD} (h : amayB a = true) : amayB (bareA a) = true := by
  obtain ⟨n, hs, b, ⟨⟩⟩ := a
  obtain ⟨m1, m2, m3, m4, m5⟩ := may_iff.1 h
  exact may_iff.2 ⟨m1, m2, m3, Nat.zero_le _, fun _ => rfl⟩
theorem tl_err {t : List UInt8} {c : Bool} (nx : BO) (hb : bndS t = true) (e : (getN t c).2.2 ≠ 0) : tlX t (getN t c) nx = bO true := by
  obtain ⟨e1, e2, e3⟩ := get_err e
  unfold tlX tlE
  rw [gdB hb, xG, bne_iff_ne.2 e, xT, e2, e1, show ((0 : Int) == 0) = true from rfl, xT, eqAns_refl, xT, gdB (show ansB zA = true from rfl), xG]
  rcases e3 with e3 | e3 <;> rw [e3] <;> rfl
theorem tl_0 (t : List UInt8) (hb : bndS t = true) : tlX t (getN t false) (tl0 t (getN t false)) = bO true := by
  rcases Int.decEq (getN t false).2.2 0 with e | e
  · exact tl_err _ hb e
  · obtain ⟨a, x, ha, rfl⟩ := get_inv e
    have hl := aput_len ha false
    have hp := may_p ha
    rw [get_fwd ha false]
    show tlX _ (a, ((aputN a false).length : Int), 0) (tl0 _ (a, ((aputN a false).length : Int), 0)) = _
    unfold tlX tl0
    dsimp only
    rw [gdB hb, xG, show ((0 : Int) != 0) = false from rfl, xF, cdF (by rw [List.length_append]; omega), cdF (by omega), ha, xT, Int.toNat_natCast, List.take_left, beq_self_eq_true, xT, gdT (by omega), gdT (by rw [List.length_append]; omega), gdB hp, gdB hp, xG]
theorem tl_1 (t : List UInt8) (hb : bndS t = true) : tlX t (getN t true) (tl1 (getN t true)) = bO true := by
  rcases Int.decEq (getN t true).2.2 0 with e | e
  · exact tl_err _ hb e
  · obtain ⟨a, x, ha, rfl⟩ := get_inv e
    have hl := aput_len ha true
    have hm := may_bare ha
    have hp := may_p hm
    rw [get_fwd ha true]
    show tlX _ (bareA a, ((aputN a true).length : Int), 0) (tl1 (bareA a, ((aputN a true).length : Int), 0)) = _
    unfold tlX tl1
    dsimp only
    rw [gdB hb, xG, show ((0 : Int) != 0) = false from rfl, xF, cdF (by rw [List.length_append]; omega), cdF (by omega), hm, xT, show ((bareA a).2.2.1 == []) = true from rfl, xT, gdB hp, xG]
/-! ### the law -/
def xw (c y : UInt8) : Int := IntKind.u8.wrap ((Nat.bitwise bne (((c.toNat : Int) % 256).toNat) (((y.toNat : Int) % 256).toNat) : Nat) : Int)
noncomputable def ayK (u : List UInt8) (T : List UInt8) (k : Int) (y : UInt8) (g : AnsD × Int × Int) : BO :=
  gd [bndS (T.take k.toNat), decide (0 ≤ k), decide (k ≤ (T.length : Int)), decide ((T.length : Int) ≠ 0), decide (k.toNat < T.length), decide (inK .u8 (xw (T.getD k.toNat Ty.byte.dflt) y)), decide (0 ≤ k), decide (k < (T.length : Int)), decide (k.toNat < T.length), decide (0 ≤ k), decide (k < (T.length : Int)), decide ((T.length : Int) ≠ 0), bndS u]
    (bif g.2.1 == 0 then (bif g.2.2 == 2 then gd [bndS (T ++ u), decide (T.length + u.length ≤ 1099511627776), bndS (T.set k.toNat (UInt8.ofNat (xw (T.getD k.toNat Ty.byte.dflt) y).toNat))] (bO true) else gd [bndS (T.set k.toNat (UInt8.ofNat (xw (T.getD k.toNat Ty.byte.dflt) y).toNat))] (bO false)) else gd [bndS (T.set k.toNat (UInt8.ofNat (xw (T.getD k.toNat Ty.byte.dflt) y).toNat))] (bO false))
noncomputable def ayW (u : List UInt8) (a : AnsD) (T : List UInt8) (i : Int) (y : UInt8) (g : AnsD × Int × Int) : BO :=
  gd [aputP a] (bif T == [] then gd [bndS u, bndS u] (bO true) else bif decide (i < 0) then gd [bndS u, bndS u] (bO true) else ayK u T (i.tmod (T.length : Int)) y g)
theorem ayW_n (u : List UInt8) (a : AnsD) (c : Bool) (i : Int) (y : UInt8) (hu : u.length ≤ 1000) (hp : aputP a = true) : ayW u a (aputN a c) i y (getN ((aputN a c).take (i.tmod ((aputN a c).length : Int)).toNat) c) = bO true := by
  have hb : bndS u = true := decide_eq_true (by omega)
  unfold ayW
  rw [gdB hp, xG, gdB hb, gdB hb, xG]
  cases h : amayB a
  · have e : aputN a c = [] := by unfold aputN; rw [h]; rfl
    rw [e]; rfl
  · obtain ⟨l1, l2⟩ := aput_len h c
    rw [aput_ne h c, xF]
    by_cases hi : i < 0
    · rw [cdT hi]
    · rw [cdF hi]
      have k0 : 0 ≤ i.tmod ((aputN a c).length : Int) := Int.tmod_nonneg _ (by omega)
      have k1 : i.tmod ((aputN a c).length : Int) < ((aputN a c).length : Int) := Int.tmod_lt_of_pos _ (by omega)
      generalize i.tmod ((aputN a c).length : Int) = k at k0 k1 ⊢
      have hpp : PP ((aputN a c).take k.toNat) (aputN a c) := ⟨(aputN a c).drop k.toNat, fun e => by
        have := congrArg List.length e
        rw [List.length_drop] at this
        have h0 : ([] : List UInt8).length = 0 := rfl
        omega, List.take_append_drop _ _⟩
      rw [get_pp h c hpp]
      have hw : inK .u8 (xw ((aputN a c).getD k.toNat Ty.byte.dflt) y) := inK_u8.2 (by unfold xw; rw [wrap_u8]; omega)
      have b1 : bndS ((aputN a c).take k.toNat) = true := decide_eq_true (by rw [List.length_take]; omega)
      have b2 : bndS (aputN a c ++ u) = true := decide_eq_true (by rw [List.length_append]; omega)
      have b3 : ∀ x : UInt8, bndS ((aputN a c).set k.toNat x) = true := fun x => decide_eq_true (by rw [List.length_set]; omega)
      unfold ayK
      dsimp only
      rw [gdB b1, gdT k0, gdT (by omega), gdT (by omega), gdT (by omega), gdT hw, gdT k0, gdT k1, gdT (by omega), gdT k0, gdT k1, gdT (by omega), gdB hb, xG]
      show gd _ _ = _
      rw [gdB b2, gdT (by omega), gdB (b3 _), xG]
end Nice
namespace Go.Proofs.YtnblkjapeiaedaaGreatDoor
open Go Go.Eng Nice Go.RowKit
set_option maxRecDepth 1000000
noncomputable abbrev envTl := envS [(18, amayAS), (19, aputS), (22, getSp), (23, eqAS)]
noncomputable def otells (x : DenL [.str, .bool]) : BO := fO Tryz.prog envTl (shOf []) Tryz.f24 [.str, .bool] [.bool] x
theorem etells_0 (N : Nat) (t : List UInt8) : fON Tryz.prog envTl (shOf []) Tryz.f24 [.str, .bool] [.bool] N (t, false, ()) = tlX t (getN t false) (tl0 t (getN t false)) := by kernel_rfl
theorem etells_1 (N : Nat) (t : List UInt8) : fON Tryz.prog envTl (shOf []) Tryz.f24 [.str, .bool] [.bool] N (t, true, ()) = tlX t (getN t true) (tl1 (getN t true)) := by kernel_rfl
theorem otells_g (x : DenL [.str, .bool]) : otells x = fON Tryz.prog envTl (shOf []) Tryz.f24 [.str, .bool] [.bool] heads0 x := rfl
theorem tells_c : PC 24 tellS := (pureO (envS_ok (l := [(18, amayAS), (19, aputS), (22, getSp), (23, eqAS)]) ⟨rmay_c, rput_c, get_c, eqa_c, trivial⟩) gl_ne Tryz.func24 (by kernel_rfl) (by decide)).nice fun ⟨t, c, ()⟩ h => by
  have h : bndS t = true := h
  show otells _ = some (true, ())
  rw [otells_g]
  cases c
  · rw [etells_0]; exact tl_0 t h
  · rw [etells_1]; exact tl_1 t h
noncomputable abbrev envSAny := envS [(13, trueS), (14, answS), (15, cutS), (16, aputS), (22, getSp), (24, tellS)]
noncomputable def olawSAny (x : DenL [.str, AnsT, .int .i64, .byte, .bool]) : BO := fO Tryz.prog envSAny (shOf []) Tryz.f4 [.str, AnsT, .int .i64, .byte, .bool] [.bool] x
theorem elawSAny_0 (N : Nat) (t : List UInt8) (n : Int) (hs : List HeadD) (b : List UInt8) (i : Int) (y : UInt8) : fON Tryz.prog envSAny (shOf []) Tryz.f4 [.str, AnsT, .int .i64, .byte, .bool] [.bool] N (t, (n, hs, b, ()), i, y, false, ()) =
  ayW (cut t 60) (answN (n, hs, b, ())) (aputN (answN (n, hs, b, ())) false) i y (getN ((aputN (answN (n, hs, b, ())) false).take (i.tmod ((aputN (answN (n, hs, b, ())) false).length : Int)).toNat) false) := by kernel_rfl
theorem elawSAny_1 (N : Nat) (t : List UInt8) (n : Int) (hs : List HeadD) (b : List UInt8) (i : Int) (y : UInt8) : fON Tryz.prog envSAny (shOf []) Tryz.f4 [.str, AnsT, .int .i64, .byte, .bool] [.bool] N (t, (n, hs, b, ()), i, y, true, ()) =
  ayW (cut t 60) (answN (n, hs, b, ())) (aputN (answN (n, hs, b, ())) true) i y (getN ((aputN (answN (n, hs, b, ())) true).take (i.tmod ((aputN (answN (n, hs, b, ())) true).length : Int)).toNat) true) := by kernel_rfl
theorem olawSAny_g (x : DenL [.str, AnsT, .int .i64, .byte, .bool]) : olawSAny x = fON Tryz.prog envSAny (shOf []) Tryz.f4 [.str, AnsT, .int .i64, .byte, .bool] [.bool] heads0 x := rfl
theorem lawSAny_n (x : DenL [.str, AnsT, .int .i64, .byte, .bool]) : olawSAny x = some (true, ()) := by
  obtain ⟨t, ⟨n, hs, b, ⟨⟩⟩, i, y, c, ⟨⟩⟩ := x
  have hc : (cut t 60).length ≤ 1000 := Nat.le_trans (cut_le t 60) (by decide)
  rw [olawSAny_g]
  cases c
  · rw [elawSAny_0]
    exact ayW_n (cut t 60) (answN (n, hs, b, ())) false i y hc (answ_p _)
  · rw [elawSAny_1]
    exact ayW_n (cut t 60) (answN (n, hs, b, ())) true i y hc (answ_p _)
theorem lawSAny_c : PC 4 (ofO [.str, AnsT, .int .i64, .byte, .bool] [.bool] olawSAny) := (pureO (envS_ok (l := [(13, trueS), (14, answS), (15, cutS), (16, aputS), (22, getSp), (24, tellS)]) ⟨begun_c, answ_c, cut_c, aput_c, get_c, tells_c, trivial⟩) gl_ne Tryz.func4 (by kernel_rfl) (by decide))
theorem lawSAny_run {w : World} (hgl : GlW glC w) {args : Array Value} {x : DenL [.str, AnsT, .int .i64, .byte, .bool]} (hx : RdAll (fzW w) [.str, AnsT, .int .i64, .byte, .bool] x args.toList) (hb : BdL [.str, AnsT, .int .i64, .byte, .bool] x) : Calls Tryz.prog 4 args w fun e w' => e = .returned (.bool true) ∧ Same w w' :=
  law_calls lawSAny_c (fun x _ => by
    have := lawSAny_n x
    exact ⟨by show (olawSAny x).isSome = true; rw [this]; rfl, by show (olawSAny x).getD _ = _; rw [this]; rfl⟩) hgl hx hb
end Go.Proofs.YtnblkjapeiaedaaGreatDoor
