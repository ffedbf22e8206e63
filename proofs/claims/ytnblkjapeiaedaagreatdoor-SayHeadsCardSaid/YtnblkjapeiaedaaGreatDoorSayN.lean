/-
  Which answers may be, as the document says: just as the program has it. No condition.
-/
import Derived.Test.YtnblkjapeiaedaaGreatDoorSayM
namespace Nice
open Go Go.Eng
def tB (n : Nat) : Bool := (decide (97 ≤ n) && decide (n ≤ 122)) || (decide (48 ≤ n) && decide (n ≤ 57)) || decide (n = 45)
theorem tB_lo (c : UInt8) : tB (lo c).toNat = tokB c := by
  have : (List.range 256).all (fun n => tB (lo (UInt8.ofNat n)).toNat == tokB (UInt8.ofNat n)) = true := by kernel_rfl
  have := List.all_eq_true.1 this c.toNat (List.mem_range.2 c.toNat_lt)
  rw [UInt8.ofNat_toNat] at this
  exact beq_iff_eq.1 this
theorem cH_eq (c : UInt8) (x : Option (DenL [.bool])) : cH c x = bif decide (c.toNat = 45) then x else bO false := by
  unfold cH bne
  by_cases h : c.toNat = 45
  · rw [show ((c.toNat : Int) == 45) = true from beq_iff_eq.2 (by omega), decide_eq_true h]; rfl
  · rw [show ((c.toNat : Int) == 45) = false from beq_eq_false_iff_ne.2 (by omega), decide_eq_false h]; rfl
theorem cD_eq (c : UInt8) (x : Option (DenL [.bool])) : cD c x = bif (decide (48 ≤ c.toNat) && decide (c.toNat ≤ 57)) || decide (c.toNat = 45) then x else bO false := by
  unfold cD
  by_cases h1 : (c.toNat : Int) < 48
  · rw [cdT h1, cH_eq, decide_eq_false (by omega : ¬ 48 ≤ c.toNat)]; rfl
  · by_cases h2 : (c.toNat : Int) > 57
    · rw [cdF h1, cdT h2, cH_eq, decide_eq_false (by omega : ¬ c.toNat ≤ 57), Bool.and_false]; rfl
    · rw [cdF h1, cdF h2, decide_eq_true (by omega : 48 ≤ c.toNat), decide_eq_true (by omega : c.toNat ≤ 57)]; rfl
theorem cA_eq (c : UInt8) (x : Option (DenL [.bool])) : cA c x = bif tB c.toNat then x else bO false := by
  unfold cA tB
  by_cases h1 : (c.toNat : Int) < 97
  · rw [cdT h1, cD_eq, decide_eq_false (by omega : ¬ 97 ≤ c.toNat)]; rfl
  · by_cases h2 : (c.toNat : Int) > 122
    · rw [cdF h1, cdT h2, cD_eq, decide_eq_false (by omega : ¬ c.toNat ≤ 122), Bool.and_false]; rfl
    · rw [cdF h1, cdF h2, decide_eq_true (by omega : 97 ≤ c.toNat), decide_eq_true (by omega : c.toNat ≤ 122)]; rfl
def endsB (v : List UInt8) : Bool := v == [] || (!((v.getD 0 0).toNat == 32) && !((v.getD (v.length - 1) 0).toNat == 32))
/-- a head, as the document has it -/
def headR (h : HeadD) : Bool := decide (1 ≤ h.1.length) && (decide (h.1.length ≤ 30) && (decide (h.2.1.length ≤ 100) && (!(lower h.1 == clen) && (endsB h.2.1 && (h.1.all tokB && h.2.1.all prB)))))
end Nice
namespace Go.Proofs.YtnblkjapeiaedaaGreatDoor
open Go Go.Eng Nice Go.RowKit
set_option maxRecDepth 1000000
theorem drop_c (s : List UInt8) {i : Nat} (h : i < s.length) : s.drop i = s.getD i 0 :: s.drop (i + 1) := by
  rw [List.drop_eq_getElem_cons h, List.getD_eq_getElem?_getD, List.getElem?_eq_getElem h]; rfl
theorem m2_l (n : Int) (hs : List HeadD) (b : List UInt8) (q : Bool) (i : Int) (nm v : List UInt8) (j : Int) (hv : v.length ≤ 100) (hi : inK .i64 (i + 1)) : ∀ (r l k : Nat), v.length = l + r → r < k → hm2 k n hs b q i nm v j (l : Int) = bif (v.drop l).all prB then hm0 (k - r - 1) n hs b q (i + 1) else bO false := by
  intro r
  induction r with
  | zero =>
    intro l k hl hk
    obtain ⟨k, rfl⟩ : ∃ m, k = m + 1 := ⟨k - 1, by omega⟩
    rw [em2]
    unfold step2
    rw [cdF (by omega), gdT hi, xG, List.drop_eq_nil_of_le (by omega)]; rfl
  | succ r ih =>
    intro l k hl hk
    obtain ⟨k, rfl⟩ : ∃ m, k = m + 1 := ⟨k - 1, by omega⟩
    have key := ih (l + 1) k (by omega) (by omega)
    simp only [Int.natCast_add, Int.natCast_one] at key
    rw [em2]
    unfold step2
    rw [cdT (by omega), show (l : Int).toNat = l from rfl, drop_c v (by omega), List.all_cons]
    have hp : prB (v.getD l 0) = (decide (32 ≤ (v.getD l 0).toNat) && decide ((v.getD l 0).toNat ≤ 126)) := by
      unfold prB; rw [Bool.eq_iff_iff, Bool.and_eq_true, decide_eq_true_iff, decide_eq_true_iff, decide_eq_true_iff]
    rw [hp]
    by_cases h1 : ((v.getD l 0).toNat : Int) < 32
    · rw [cdT h1, gdT (by omega), gdT (by omega), xG, decide_eq_false (by omega : ¬ 32 ≤ (v.getD l 0).toNat)]; rfl
    · by_cases h2 : ((v.getD l 0).toNat : Int) > 126
      · rw [cdF h1, cdT h2, gdT (by omega), gdT (by omega), gdT (by omega), gdT (by omega), xG, decide_eq_false (by omega : ¬ (v.getD l 0).toNat ≤ 126), Bool.and_false]; rfl
      · rw [cdF h1, cdF h2, gdT (inK_i64.2 ⟨by omega, by omega⟩), gdT (by omega), gdT (by omega), gdT (by omega), gdT (by omega), xG, decide_eq_true (by omega : 32 ≤ (v.getD l 0).toNat), decide_eq_true (by omega : (v.getD l 0).toNat ≤ 126), key]
        simp only [Bool.true_and]
        rw [show k + 1 - (r + 1) - 1 = k - r - 1 by omega]
theorem low_len (s : List UInt8) : (lower s).length = s.length := by unfold lower; rw [List.length_map]
theorem low_get (s : List UInt8) {i : Nat} (h : i < s.length) : (lower s).getD i 0 = lo (s.getD i 0) := by
  unfold lower
  rw [List.getD_eq_getElem?_getD, List.getElem?_map, List.getElem?_eq_getElem h, List.getD_eq_getElem?_getD, List.getElem?_eq_getElem h]; rfl
theorem m1_l (n : Int) (hs : List HeadD) (b : List UInt8) (q : Bool) (i : Int) (nm v : List UInt8) (hn : nm.length ≤ 30) : ∀ (r j k : Nat), nm.length = j + r → r < k → hm1 k n hs b q i nm v (j : Int) = bif (nm.drop j).all tokB then hm2 (k - r - 1) n hs b q i nm v (nm.length : Int) 0 else bO false := by
  have hlp : lowerP nm = true := decide_eq_true (by omega)
  intro r
  induction r with
  | zero =>
    intro j k hj hk
    obtain ⟨k, rfl⟩ : ∃ m, k = m + 1 := ⟨k - 1, by omega⟩
    rw [em1]
    unfold step1
    rw [cdF (by omega), List.drop_eq_nil_of_le (by omega), show (j : Int) = (nm.length : Int) by omega]; rfl
  | succ r ih =>
    intro j k hj hk
    obtain ⟨k, rfl⟩ : ∃ m, k = m + 1 := ⟨k - 1, by omega⟩
    have key := ih (j + 1) k (by omega) (by omega)
    simp only [Int.natCast_add, Int.natCast_one] at key
    rw [em1]
    unfold step1
    rw [cdT (by omega), show (j : Int).toNat = j from rfl, gdT (by omega), gdT (by rw [low_len]; omega), gdB hlp, xG, low_get nm (by omega), cA_eq, tB_lo, drop_c nm (by omega), List.all_cons, gdT (inK_i64.2 ⟨by omega, by omega⟩), xG, key]
    cases tokB (nm.getD j 0)
    · rfl
    · rw [xT, Bool.true_and, show k + 1 - (r + 1) - 1 = k - r - 1 by omega]
end Go.Proofs.YtnblkjapeiaedaaGreatDoor
