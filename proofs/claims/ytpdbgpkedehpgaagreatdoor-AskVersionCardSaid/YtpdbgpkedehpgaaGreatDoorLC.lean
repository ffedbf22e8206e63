/-
  What the document's function of asks computes, at GET /o/k. No condition.
-/
import Derived.Test.YtpdbgpkedehpgaaGreatDoorLB
import Derived.Test.YtpdbgpkedehpgaaGreatDoorPAsk
namespace Go.Proofs.YtpdbgpkedehpgaaGreatDoor
open Go Go.Eng Nice
set_option maxRecDepth 100000
theorem rOf_n (q : List UInt8) (hs : List (List UInt8 × List UInt8 × Unit)) (h : bndS q = true) : orOf (([71, 69, 84], [47, 111, 47, 107], q, hs, [], ()), ()) = some ((askV q).1, (askV q).2, ()) := by
  have hb : q.length ≤ 140737488355328 := of_decide_eq_true h
  have hk : isKey [107] = true := by decide
  have hP : refNumP (List.drop 8 q) 13 = true := by
    unfold refNumP; rw [decide_eq_true (by simp; omega), decide_eq_true (by omega)]; rfl
  rw [erOf]
  simp only [show List.drop 3 ([47, 111, 47, 107] : List UInt8) = [107] from rfl, hk, cond_true, gdB (show bndS [107] = true by decide), gd_nil]
  unfold askV keyedN
  simp only [hk, cond_true, show (([71, 69, 84] : List UInt8) == [68, 69, 76, 69, 84, 69]) = false from rfl, cond_false]
  cases hq : (q == [])
  · simp only [Bool.not_false, cond_true, cond_false]
    unfold cutPre hasPre
    have hv8 : vPre.length = 8 := rfl
    simp only [hv8]
    by_cases h8 : 8 ≤ q.length
    · rw [decide_eq_true h8, Bool.true_and]
      cases ht : (List.take 8 q == vPre)
      · simp only [cond_false, Bool.false_and, Bool.and_false, show (List.take 8 q == [118, 101, 114, 115, 105, 111, 110, 61]) = false from ht, Bool.not_false, cond_true]
        by_cases h9 : q.length ≤ 8
        · rw [cdT (by omega)]; rfl
        · rw [cdF (by omega), gdT (by omega), gd_nil]; rfl
      · simp only [cond_true, Bool.true_and, show (List.take 8 q == [118, 101, 114, 115, 105, 111, 110, 61]) = true from ht, Bool.not_true, cond_false]
        by_cases h9 : q.length ≤ 8
        · rw [cdT (by omega)]
          have e0 : List.drop 8 q = [] := List.drop_eq_nil_of_le h9
          rw [e0]
          have : (numN ([] : List UInt8) (([] : List UInt8).length : Int) 1 1099511627776).2 = false := by simp [numN, intN, Lib.parseIntB]
          rw [this]; rfl
        · rw [cdF (by omega)]
          have e8 : (List.drop 8 q).getD 0 0 = q.getD 8 0 := by
            rw [List.getD_eq_getElem?_getD, List.getD_eq_getElem?_getD, List.getElem?_drop]
          rw [e8]
          by_cases h48 : q.getD 8 0 = 48
          · rw [h48, show ((UInt8.toNat 48 : Nat) : Int) = 48 from rfl, beT rfl]
            simp (disch := omega) only [gdT, gd_nil]
            simp only [beq_self_eq_true, Bool.not_true, Bool.and_false, cond_false]
            rfl
          · rw [beF (by intro e; exact h48 (UInt8.toNat.inj (show _ = (48 : UInt8).toNat by have : (48 : UInt8).toNat = 48 := rfl; omega))), show (q.getD 8 0 == 48) = false from by simpa using h48]
            simp (disch := omega) only [gdT, gd_nil, gdB hP]
            obtain ⟨v1, v2⟩ := ver_eq (List.drop 8 q) (by rw [e8]; exact h48)
            rw [Bool.not_false, Bool.and_true]
            cases hr : (refNum (List.drop 8 q) 13).2
            · rw [v1, hr]; rfl
            · rw [cond_true]
              by_cases g1 : (refNum (List.drop 8 q) 13).1 < 1
              · rw [cdT g1, v1, hr, decide_eq_true g1]; rfl
              · rw [cdF g1]
                by_cases g2 : (refNum (List.drop 8 q) 13).1 > 1099511627776
                · rw [cdT g2, v1, hr, decide_eq_false g1, decide_eq_true g2]; rfl
                · have v3 : (numN (List.drop 8 q) (List.drop 8 q).length 1 1099511627776).2 = true := by rw [v1, hr, decide_eq_false g1, decide_eq_false g2]; rfl
                  rw [cdF g2, v3, v2 v3]; rfl
    · rw [decide_eq_false h8, Bool.false_and]
      simp only [cond_false, Bool.false_and, Bool.and_false]
      rw [cdT (by omega)]; rfl
  · rfl
end Go.Proofs.YtpdbgpkedehpgaaGreatDoor
