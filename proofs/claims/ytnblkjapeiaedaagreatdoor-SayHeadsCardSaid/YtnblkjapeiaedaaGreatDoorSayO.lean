/-
  Which answers may be, as the document says: the contract of its May. No condition.
-/
import Derived.Test.YtnblkjapeiaedaaGreatDoorSayN
namespace Nice
open Go Go.Eng
theorem dw_len (p : UInt8 → Bool) (l : List UInt8) : (l.dropWhile p).length ≤ l.length := (List.dropWhile_sublist p).length_le
theorem n32 {c : UInt8} (h : ¬ c = 32) : (c.toNat == 32) = false := beq_eq_false_iff_ne.2 fun e => h (UInt8.toNat_inj.1 e)
theorem trim_ends (v : List UInt8) : (trim1 v == v) = endsB v := by
  unfold trim1 Lib.trimB Lib.trimLeftB Lib.trimRightB endsB
  cases hr : v.reverse with
  | nil => have : v = [] := List.reverse_eq_nil_iff.1 hr; subst this; rfl
  | cons d m =>
    have hv : v = m.reverse ++ [d] := by rw [← List.reverse_reverse v, hr, List.reverse_cons]
    have hl : v.length = m.length + 1 := by rw [hv]; simp
    have hd : v.getD (v.length - 1) 0 = d := by
      rw [hl, hv, List.getD_eq_getElem?_getD, List.getElem?_append_right (by simp)]; simp
    have hne : (v == []) = false := by rw [hv]; cases m.reverse <;> rfl
    rw [hd, hne, Bool.false_or, List.dropWhile_cons]
    by_cases e : d = 32
    · subst e
      rw [if_pos (show ((32 : UInt8) == 32) = true from rfl)]
      have hn : List.dropWhile (fun x => x == 32) (List.dropWhile (fun x => x == 32) m).reverse ≠ v := fun h => by
        have h1 := congrArg List.length h
        have h2 := dw_len (fun x => x == 32) (List.dropWhile (fun x => x == 32) m).reverse
        have h3 := dw_len (fun x => x == 32) m
        rw [List.length_reverse] at h2
        omega
      rw [beq_eq_false_iff_ne.2 hn]
      show false = (_ && false)
      rw [Bool.and_false]
    · rw [if_neg (by rw [beq_iff_eq]; exact e), n32 e, ← hr, List.reverse_reverse, Bool.not_false, Bool.and_true]
      cases v with
      | nil => cases hne
      | cons c r =>
        show (List.dropWhile (fun x => x == 32) (c :: r) == c :: r) = !(c.toNat == 32)
        rw [List.dropWhile_cons]
        by_cases f : c = 32
        · subst f
          rw [if_pos (show ((32 : UInt8) == 32) = true from rfl)]
          have hn : List.dropWhile (fun x => x == 32) r ≠ 32 :: r := fun h => by
            have h1 := congrArg List.length h
            have h2 := dw_len (fun x => x == 32) r
            rw [List.length_cons] at h1
            omega
          rw [beq_eq_false_iff_ne.2 hn]; rfl
        · rw [if_neg (by rw [beq_iff_eq]; exact f), n32 f, beq_self_eq_true]; rfl
theorem headR_eq (h : HeadD) : headR h = headB h := by
  unfold headR headB
  rw [trim_ends, Bool.eq_iff_iff]
  simp only [Bool.and_eq_true, decide_eq_true_eq]
  constructor
  · rintro ⟨a, b, c, d, e, f, g⟩; exact ⟨⟨⟨a, b⟩, f, d⟩, c, g, e⟩
  · rintro ⟨⟨⟨a, b⟩, f, d⟩, c, g, e⟩; exact ⟨a, b, c, d, e, f, g⟩
theorem i32 (c : UInt8) : ((c.toNat : Int) == 32) = (c.toNat == 32) := by
  by_cases h : c.toNat = 32
  · rw [h]; rfl
  · rw [beq_eq_false_iff_ne.2 h, beq_eq_false_iff_ne.2 (fun e => h (by omega))]
theorem cV_eq {nm v : List UInt8} (hn : nm.length ≤ 30) (hv : v.length ≤ 100) (x : Option (DenL [.bool])) : cV nm v x = bif endsB v then x else bO false := by
  have hlp : lowerP nm = true := decide_eq_true (by omega)
  unfold cV endsB
  by_cases e : v = []
  · subst e
    show gd [lowerP nm] x = x
    rw [gdB hlp, xG]
  · have hl : 0 < v.length := List.length_pos_iff.2 e
    rw [beq_eq_false_iff_ne.2 e, Bool.not_false, xT, Bool.false_or, i32, i32, show ((v.length : Int) - 1).toNat = v.length - 1 by omega]
    cases (v.getD 0 0).toNat == 32
    · rw [xF]
      cases (v.getD (v.length - 1) 0).toNat == 32
      · rw [xF, gdT (by omega), gdT (by omega), gdT (inK_i64.2 ⟨by omega, by omega⟩), gdT (by omega), gdB hlp, xG]; rfl
      · rw [xT, gdT (by omega), gdT (by omega), gdT (inK_i64.2 ⟨by omega, by omega⟩), gdT (by omega), gdB hlp, xG]; rfl
    · rw [xT, gdT (by omega), gdB hlp, xG]; rfl
theorem all_any (l : List HeadD) : l.all headR = !anyN l := by
  unfold anyN
  induction l with
  | nil => rfl
  | cons a l ih => rw [List.all_cons, List.any_cons, ih, headR_eq, Bool.not_or, Bool.not_not]
end Nice
namespace Go.Proofs.YtnblkjapeiaedaaGreatDoor
open Go Go.Eng Nice Go.RowKit
set_option maxRecDepth 1000000
theorem dropH (l : List HeadD) {i : Nat} (h : i < l.length) : l.drop i = l.getD i (HeadT).dflt :: l.drop (i + 1) := by
  rw [List.drop_eq_getElem_cons h, List.getD_eq_getElem?_getD, List.getElem?_eq_getElem h]; rfl
theorem m0_l (n : Int) (hs : List HeadD) (b : List UInt8) (q : Bool) (hb : hs.length ≤ 10) : ∀ (r i k : Nat), hs.length = i + r → 200 * r < k → hm0 k n hs b q (i : Int) = bO ((hs.drop i).all headR) := by
  intro r
  induction r with
  | zero =>
    intro i k hi hk
    obtain ⟨k, rfl⟩ : ∃ m, k = m + 1 := ⟨k - 1, by omega⟩
    rw [em0]
    unfold step0
    rw [cdF (by omega), List.drop_eq_nil_of_le (by omega)]; rfl
  | succ r ih =>
    intro i k hi hk
    obtain ⟨k, rfl⟩ : ∃ m, k = m + 1 := ⟨k - 1, by omega⟩
    have hlt : i < hs.length := by omega
    have h64 : inK .i64 ((i : Int) + 1) := inK_i64.2 ⟨by omega, by omega⟩
    rw [em0]
    unfold step0
    rw [cdT (by omega), show (i : Int).toNat = i from rfl, gdT hlt, gdT (by omega), gdT (by omega), gdT hlt, gdT (by omega), gdT (by omega), xG, dropH hs hlt, List.all_cons]
    generalize hs.getD i (HeadT).dflt = h
    obtain ⟨nm, v, ⟨⟩⟩ := h
    unfold headR
    dsimp only
    by_cases a1 : 1 ≤ nm.length
    · by_cases a2 : nm.length ≤ 30
      · by_cases a3 : v.length ≤ 100
        · have hlp : lowerP nm = true := decide_eq_true (by omega)
          rw [cdF (by omega), cdF (by omega), cdF (by omega), decide_eq_true a1, decide_eq_true a2, decide_eq_true a3, cV_eq a2 a3]
          have k1 := m1_l n hs b q i nm v a2 nm.length 0 k (by omega) (by omega)
          have k2 := m2_l n hs b q i nm v (nm.length : Int) a3 h64 v.length 0 (k - nm.length - 1) (by omega) (by omega)
          have k3 := ih (i + 1) (k - nm.length - 1 - v.length - 1) (by omega) (by omega)
          simp only [Int.natCast_add, Int.natCast_one] at k3
          rw [k3] at k2
          have k1 : hm1 k n hs b q i nm v 0 = bif nm.all tokB then hm2 (k - nm.length - 1) n hs b q i nm v (nm.length : Int) 0 else bO false := k1
          have k2 : hm2 (k - nm.length - 1) n hs b q i nm v (nm.length : Int) 0 = bif v.all prB then bO ((hs.drop (i + 1)).all headR) else bO false := k2
          rw [k1, k2]
          cases lower nm == clen
          · rw [xF]
            cases endsB v
            · rfl
            · cases nm.all tokB
              · rfl
              · cases v.all prB <;> rfl
          · rw [xT, gdB hlp, xG]; rfl
        · rw [cdF (by omega), cdF (by omega), cdT (by omega), decide_eq_true a1, decide_eq_true a2, decide_eq_false a3]; rfl
      · rw [cdF (by omega), cdT (by omega), decide_eq_true a1, decide_eq_false a2]; rfl
    · rw [cdT (by omega), decide_eq_false a1]; rfl
theorem rmay_n (n : Int) (hs : List HeadD) (b : List UInt8) : stepM n hs b (hm0 heads0 n hs b false 0) = some (amayB (n, hs, b, ()), ()) := by
  unfold stepM amayB
  dsimp only
  cases hw : wordsN n == []
  · rw [xF]
    by_cases a : hs.length ≤ 10
    · by_cases c : b.length ≤ 20000
      · rw [cdF (by omega), cdF (by omega), decide_eq_true a, decide_eq_true c, show hm0 heads0 n hs b false 0 = bO (hs.all headR) from m0_l n hs b false a hs.length 0 heads0 (by omega) (by unfold heads0; omega), all_any]
        cases n == 204
        · rw [xF]; cases anyN hs <;> rfl
        · rw [xT]; cases b == [] <;> cases anyN hs <;> rfl
      · rw [cdF (by omega), cdT (by omega), decide_eq_false c, Bool.false_and, Bool.and_false, Bool.and_false, Bool.and_false]; rfl
    · rw [cdT (by omega), decide_eq_false a, Bool.false_and, Bool.and_false]; rfl
  · rw [xT]; rfl
theorem rmay_c : PC 18 amayAS := (pureO (sh := shOf shrmay) (envS_ok (l := [(21, wordsS), (41, lowerS)]) ⟨rwords_c, rlow_c, trivial⟩) gl_ne Tryz.func18 (by kernel_rfl) (by decide)).nice fun ⟨⟨n, hs, b, ()⟩, ()⟩ _ => by
  show ormay _ = _
  rw [ormay_g, ermay_g]
  exact rmay_n n hs b
end Go.Proofs.YtnblkjapeiaedaaGreatDoor
