/-
  Requests with a body, one behind the other: how they are read. No condition.
-/
import Derived.Test.YtpdbgpkedehpgaaGreatDoorM1
import Derived.Test.YtpdbgpkedehpgaaGreatDoorNiceK
namespace Nice
open Go Go.Eng
def clB : List UInt8 := [67, 111, 110, 116, 101, 110, 116, 45, 76, 101, 110, 103, 116, 104]
/-- a request of the law -/
def reqB (i : Int) (b : List UInt8) : List UInt8 := [80, 85, 84, 32, 47, 111, 47, 107] ++ digits i ++ [32, 72, 84, 84, 80, 47, 49, 46, 49, 13, 10, 67, 111, 110, 116, 101, 110, 116, 45, 76, 101, 110, 103, 116, 104, 58] ++ digits (b.length : Int) ++ [13, 10, 13, 10] ++ b
theorem r1_k (i : Nat) (hi : i < 6) (R : List UInt8) : r1 0 0 [] [] [] [] 0 ([80, 85, 84, 32, 47, 111, 47, 107] ++ digits (i : Int) ++ ([32, 72, 84, 84, 80, 47, 49, 46, 49, 13, 10] ++ R)) = .whole [80, 85, 84] ([47, 111, 47, 107] ++ digits (i : Int)) [] R := by
  have : i = 0 ∨ i = 1 ∨ i = 2 ∨ i = 3 ∨ i = 4 ∨ i = 5 := by omega
  rcases this with rfl | rfl | rfl | rfl | rfl | rfl <;> rfl
theorem r2_cl (R : List UInt8) : r2 0 5 [] [] 0 (clB ++ 58 :: R) = r2 0 6 clB [] 15 R := by rfl
theorem r2_val (nm : List UInt8) (R : List UInt8) : ∀ (ds tx : List UInt8) (i : Nat), 0 < i → i + ds.length ≤ 119 → (∀ c, c ∈ ds → 48 ≤ c.toNat ∧ c.toNat ≤ 57) → r2 0 6 nm tx i (ds ++ 13 :: 10 :: R) = .head (nm, trimL (trimR (tx ++ ds)), ()) R
  | [], tx, i, h0, hi, hd => by rw [List.append_nil]; rfl
  | c :: ds, tx, i, h0, hi, hd => by
    have hc := hd c (List.mem_cons_self ..)
    simp only [List.length_cons] at hi
    show r2 0 6 nm tx i (c :: (ds ++ 13 :: 10 :: R)) = _
    unfold r2
    rw [if_neg (by omega), if_neg (by omega), if_neg (by omega)]
    have ea : a2 6 nm tx c = some (6, nm, tx ++ [c]) := by unfold a2; rw [if_neg (by decide), if_pos (by omega)]
    rw [ea]
    simp only
    rw [r2_val nm R ds (tx ++ [c]) (i + 1) (by omega) (by omega) (fun c' h' => hd c' (List.mem_cons_of_mem _ h')), List.append_assoc]
    rfl
theorem r2_end (n : Nat) (R : List UInt8) : r2 n 5 [] [] 0 (13 :: 10 :: R) = .fin R := rfl
def okL (k : Nat) : Bool := (digits (k : Int)).all (fun c => decide (48 ≤ c.toNat ∧ c.toNat ≤ 57)) && decide ((digits (k : Int)).length ≤ 3) && (trimL (trimR (digits (k : Int))) == digits (k : Int)) && (refLen [(clB, digits (k : Int), ())] == ((k : Int), (0 : Int)))
theorem okL_all : (List.range 101).all okL = true := by kernel_rfl
theorem one_k (i : Nat) (hi : i < 6) (b : List UInt8) (hb : b.length ≤ 100) (R : List UInt8) :
    oneR (reqB i b ++ R) = .whole ([80, 85, 84], [47, 111, 47, 107] ++ digits (i : Int), [], [(clB, digits (b.length : Int), ())], b, ()) R := by
  have ho := List.all_eq_true.1 okL_all b.length (List.mem_range.2 (by omega))
  unfold okL at ho
  simp only [Bool.and_eq_true, List.all_eq_true, decide_eq_true_eq, beq_iff_eq] at ho
  obtain ⟨⟨⟨h1, h2⟩, h3⟩, h4⟩ := ho
  have e : reqB i b ++ R = [80, 85, 84, 32, 47, 111, 47, 107] ++ digits (i : Int) ++ ([32, 72, 84, 84, 80, 47, 49, 46, 49, 13, 10] ++ (clB ++ 58 :: (digits (b.length : Int) ++ 13 :: 10 :: (13 :: 10 :: (b ++ R))))) := by
    unfold reqB clB
    simp only [List.append_assoc, List.cons_append, List.nil_append]
  rw [e]
  unfold oneR
  rw [r1_k i hi]
  simp only
  obtain ⟨n, hn⟩ : ∃ n, (clB ++ 58 :: (digits (b.length : Int) ++ 13 :: 10 :: (13 :: 10 :: (b ++ R)))).length + 1 = n + 2 := ⟨(clB ++ 58 :: (digits (b.length : Int) ++ 13 :: 10 :: (13 :: 10 :: (b ++ R)))).length - 1, by simp only [List.length_append, List.length_cons]; omega⟩
  rw [hn]
  unfold hdsR
  rw [show ([] : List HeadD).length = 0 from rfl, r2_cl, r2_val clB _ _ [] 15 (by omega) (by omega) h1]
  simp only [List.nil_append]
  rw [h3]
  unfold hdsR
  rw [r2_end]
  simp only
  unfold bodyR
  rw [h4]
  simp only [List.length_append, Int.toNat_natCast, List.take_left, List.drop_left]
  rw [if_neg (by simp), if_neg (by omega)]
end Nice
