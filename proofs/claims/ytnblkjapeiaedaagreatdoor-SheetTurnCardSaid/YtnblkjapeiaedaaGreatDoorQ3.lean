/-
  Part of the proof: ShGa TagR TagG TagH TagI. No condition.
-/
import Derived.Test.YtnblkjapeiaedaaGreatDoorX0
import Derived.Test.YtnblkjapeiaedaaGreatDoorQ1
import Derived.Test.YtnblkjapeiaedaaGreatDoorItoaW
import Derived.Tactics2
import Derived.WalkKit
namespace Nice
open Go Go.Eng
def InvZ (i : Nat) (a b : Int) : Prop := 0 ≤ a ∧ 0 ≤ b ∧ (i < 4 → a < 16 ^ i ∧ b = 0) ∧ (4 ≤ i → a < 65536 ∧ b < 16 ^ (i - 4))
theorem invZ_0 : InvZ 0 0 0 := ⟨by omega, by omega, fun _ => ⟨by decide, rfl⟩, fun h => absurd h (by decide)⟩
theorem pow16 (i : Nat) : (16 : Int) ^ (i + 1) = 16 * 16 ^ i := by rw [Int.pow_succ, Int.mul_comm]
theorem pow16_le {i : Nat} (h : i ≤ 3) : (16 : Int) ^ i ≤ 4096 := by
  have : i = 0 ∨ i = 1 ∨ i = 2 ∨ i = 3 := by omega
  rcases this with rfl | rfl | rfl | rfl <;> decide
theorem invZ_a {i : Nat} {a b v : Int} (h : InvZ i a b) (hi : i < 4) (h0 : 0 ≤ v) (h1 : v ≤ 15) : InvZ (i + 1) (a * 16 + v) b ∧ a * 16 + v ≤ 65535 := by
  obtain ⟨q1, q2, q3, q4⟩ := h
  obtain ⟨q5, q6⟩ := q3 hi
  have := pow16 i
  have := pow16_le (show i ≤ 3 by omega)
  refine ⟨⟨by omega, by omega, fun h => ⟨by omega, q6⟩, fun h => ?_⟩, by omega⟩
  have e : i = 3 := by omega
  subst e
  refine ⟨by omega, ?_⟩
  rw [q6]; decide
theorem invZ_b {i : Nat} {a b v : Int} (h : InvZ i a b) (hi : 4 ≤ i) (hi8 : i < 8) (h0 : 0 ≤ v) (h1 : v ≤ 15) : InvZ (i + 1) a (b * 16 + v) ∧ b * 16 + v ≤ 65535 := by
  obtain ⟨q1, q2, q3, q4⟩ := h
  obtain ⟨q5, q6⟩ := q4 hi
  have e : i + 1 - 4 = (i - 4) + 1 := by omega
  have := pow16 (i - 4)
  have := pow16_le (show i - 4 ≤ 3 by omega)
  exact ⟨⟨q1, by omega, fun h => by omega, fun _ => ⟨q5, by rw [e]; omega⟩⟩, by omega⟩
theorem invZ_8 {a b : Int} (h : InvZ 8 a b) : 0 ≤ a ∧ a < 65536 ∧ 0 ≤ b ∧ b < 65536 := by
  obtain ⟨q1, q2, q3, q4⟩ := h
  obtain ⟨q5, q6⟩ := q4 (by decide)
  exact ⟨q1, q5, q2, q6⟩
theorem isHx_iff {c : UInt8} : isHx c = true ↔ (48 ≤ c.toNat ∧ c.toNat ≤ 57 ∨ 97 ≤ c.toNat ∧ c.toNat ≤ 102) := by
  unfold isHx; rw [decide_eq_true_iff]
theorem may_n {a b : Int} (h1 : 0 ≤ a) (h2 : a < 65536) (h3 : 0 ≤ b) (h4 : b < 65536) : (finW (FloatKind.f64.nearest a) && finW (FloatKind.f64.nearest b)) = true ∧ mayW (FloatKind.f64.nearest a) (FloatKind.f64.nearest b) = (decide (a < 65521) && decide (b < 65521)) := by
  obtain ⟨m, rfl⟩ : ∃ m : Nat, a = (m : Int) := ⟨a.toNat, by omega⟩
  obtain ⟨k, rfl⟩ : ∃ k : Nat, b = (k : Int) := ⟨b.toNat, by omega⟩
  obtain ⟨w1, w2⟩ := whole_n (n := m) (by omega)
  obtain ⟨w3, w4⟩ := whole_n (n := k) (by omega)
  refine ⟨by rw [w1, w3]; rfl, ?_⟩
  have e1 : decide (m < 65521) = decide ((m : Int) < 65521) := by rw [decide_eq_decide]; omega
  have e2 : decide (k < 65521) = decide ((k : Int) < 65521) := by rw [decide_eq_decide]; omega
  unfold mayW
  rw [w2, w4, e1, e2]
end Nice
namespace Go.Proofs.YtnblkjapeiaedaaGreatDoor
open Go Go.Eng Nice Go.RowKit
set_option maxRecDepth 1000000
abbrev shwhole : List (Nat × List (Nat × Sh)) := []
noncomputable def owhole (x : DenL [.f64, .f64, .f64]) : Option (DenL [.bool]) := fO Tryz.prog (envS [(200, archS)]) (shOf shwhole) Tryz.f147 [.f64, .f64, .f64] [.bool] x
theorem ewhole_g (N : Nat) (x0 x1 x2 : Nat) : fON Tryz.prog (envS [(200, archS)]) (shOf shwhole) Tryz.f147 [.f64, .f64, .f64] [.bool] N (x0, x1, x2, ()) =
  (bif fRel BinOp.geq FloatKind.f64 x0 x1 then
    (bif fRel BinOp.leq FloatKind.f64 x0 x2 then
      (bif fRel BinOp.eql FloatKind.f64 x0 (truncW x0) then
        (gd [finW x0] (some (true, ())))
      else
        (gd [finW x0] (some (false, ()))))
    else
      (some (false, ())))
  else
    (some (false, ()))) := by kernel_rfl
theorem owhole_g (x : DenL [.f64, .f64, .f64]) : owhole x = fON Tryz.prog (envS [(200, archS)]) (shOf shwhole) Tryz.f147 [.f64, .f64, .f64] [.bool] heads0 x := rfl

abbrev shgmay : List (Nat × List (Nat × Sh)) := []
noncomputable def ogmay (x : DenL [.cx]) : Option (DenL [.bool]) := fO Tryz.prog (envS [(147, wholeS)]) (shOf shgmay) Tryz.f113 [.cx] [.bool] x
theorem egmay_g (N : Nat) (x0 : Nat × Nat) : fON Tryz.prog (envS [(147, wholeS)]) (shOf shgmay) Tryz.f113 [.cx] [.bool] N (x0, ()) =
  (bif wholeW x0.fst 0 4679237813814689792 then
    (bif wholeW x0.snd 0 4679237813814689792 then
      (gd [finW x0.snd, finW x0.fst] (some (true, ())))
    else
      (gd [finW x0.snd, finW x0.fst] (some (false, ()))))
  else
    (gd [finW x0.fst] (some (false, ())))) := by kernel_rfl
theorem ogmay_g (x : DenL [.cx]) : ogmay x = fON Tryz.prog (envS [(147, wholeS)]) (shOf shgmay) Tryz.f113 [.cx] [.bool] heads0 x := rfl

abbrev shgread : List (Nat × List (Nat × Sh)) := [(5, [(0, (.one .sym)), (2, (.one .any)), (3, (.one .sym)), (4, (.obj [.sym, .sym])), (12, (.one .sym)), (13, (.one .sym))])]
noncomputable def hgread_0 (n : Nat) (t0 : List UInt8) (t3 : Bool) (t4_0 : Int) (t4_1 : Int) (t12 : Int) (t13 : Int) : Option (DenL [.cx, .bool]) := rH Tryz.prog (envS [(113, mayS)]) (shOf shgread) Tryz.f80 [.cx, .bool] n 0 [(0, sy (.string (bs t0))), (2, Value.complex FloatKind.f64 0 0), (3, .bool t3), (4, .pointer (some ⟨10, 0, none⟩)), (12, sy (.int .i64 t12)), (13, sy (.int .i64 t13))] [.row [sy (.int .i64 t4_0), sy (.int .i64 t4_1)] 150 false]
noncomputable def ogread (x : DenL [.str]) : Option (DenL [.cx, .bool]) := fO Tryz.prog (envS [(113, mayS)]) (shOf shgread) Tryz.f80 [.str] [.cx, .bool] x
theorem egread_g (N : Nat) (x0 : List UInt8) : fON Tryz.prog (envS [(113, mayS)]) (shOf shgread) Tryz.f80 [.str] [.cx, .bool] N (x0, ()) =
  (bif (↑x0.length : Int) != (8 : Int) then
    (some ((0, 0), false, ()))
  else
    (hgread_0 N (x0) (false) ((0 : Int)) ((0 : Int)) ((↑x0.length : Int)) ((0 : Int)))) := by kernel_rfl
theorem ogread_g (x : DenL [.str]) : ogread x = fON Tryz.prog (envS [(113, mayS)]) (shOf shgread) Tryz.f80 [.str] [.cx, .bool] heads0 x := rfl

theorem egread_0 (n : Nat) (t0 : List UInt8) (t3 : Bool) (t4_0 : Int) (t4_1 : Int) (t12 : Int) (t13 : Int) : hgread_0 (n + 1) t0 t3 t4_0 t4_1 t12 t13 =
  (bif decide (t13 < t12) then
    (gd [decide (inK .i64 (↑(t0.getD t13.toNat 0).toNat : Int)), decide ((0 : Int) ≤ t13), decide (t13 < (↑t0.length : Int))] (bif decide ((↑(t0.getD t13.toNat 0).toNat : Int) ≥ (48 : Int)) then
      (bif decide ((↑(t0.getD t13.toNat 0).toNat : Int) ≤ (57 : Int)) then
        (gd [decide (inK .i64 ((↑(t0.getD t13.toNat 0).toNat : Int) - (48 : Int)))] (bif t13.tdiv ((4 : Int)) == (0 : Int) then
          (bif t13.tdiv ((4 : Int)) == (0 : Int) then
            (gd [decide (inK .i64 (t13 + (1 : Int))), decide (inK .i64 (t4_0 * (16 : Int) + ((↑(t0.getD t13.toNat 0).toNat : Int) - (48 : Int)))), decide (inK .i64 (t4_0 * (16 : Int))), decide (inK .i64 (t13.tdiv ((4 : Int)))), decide (inK .i64 (t13.tdiv ((4 : Int))))] (hgread_0 n (t0) (t3) (t4_0 * (16 : Int) + ((↑(t0.getD t13.toNat 0).toNat : Int) - (48 : Int))) (t4_1) (t12) (t13 + (1 : Int))))
          else
            (gd [decide (inK .i64 (t13 + (1 : Int))), decide (inK .i64 (t4_0 * (16 : Int) + ((↑(t0.getD t13.toNat 0).toNat : Int) - (48 : Int)))), decide (inK .i64 (t4_0 * (16 : Int))), decide (inK .i64 (t13.tdiv ((4 : Int)))), decide (inK .i64 (t13.tdiv ((4 : Int)))), t13.tdiv ((4 : Int)) == (1 : Int)] (hgread_0 n (t0) (t3) (t4_0) (t4_0 * (16 : Int) + ((↑(t0.getD t13.toNat 0).toNat : Int) - (48 : Int))) (t12) (t13 + (1 : Int)))))
        else
          (gd [t13.tdiv ((4 : Int)) == (1 : Int)] (bif t13.tdiv ((4 : Int)) == (0 : Int) then
            (gd [decide (inK .i64 (t13 + (1 : Int))), decide (inK .i64 (t4_1 * (16 : Int) + ((↑(t0.getD t13.toNat 0).toNat : Int) - (48 : Int)))), decide (inK .i64 (t4_1 * (16 : Int))), decide (inK .i64 (t13.tdiv ((4 : Int)))), decide (inK .i64 (t13.tdiv ((4 : Int))))] (hgread_0 n (t0) (t3) (t4_1 * (16 : Int) + ((↑(t0.getD t13.toNat 0).toNat : Int) - (48 : Int))) (t4_1) (t12) (t13 + (1 : Int))))
          else
            (gd [decide (inK .i64 (t13 + (1 : Int))), decide (inK .i64 (t4_1 * (16 : Int) + ((↑(t0.getD t13.toNat 0).toNat : Int) - (48 : Int)))), decide (inK .i64 (t4_1 * (16 : Int))), decide (inK .i64 (t13.tdiv ((4 : Int)))), decide (inK .i64 (t13.tdiv ((4 : Int)))), t13.tdiv ((4 : Int)) == (1 : Int)] (hgread_0 n (t0) (t3) (t4_0) (t4_1 * (16 : Int) + ((↑(t0.getD t13.toNat 0).toNat : Int) - (48 : Int))) (t12) (t13 + (1 : Int))))))))
      else
        (bif decide ((↑(t0.getD t13.toNat 0).toNat : Int) ≥ (97 : Int)) then
          (bif decide ((↑(t0.getD t13.toNat 0).toNat : Int) ≤ (102 : Int)) then
            (gd [decide (inK .i64 ((↑(t0.getD t13.toNat 0).toNat : Int) - (87 : Int)))] (bif t13.tdiv ((4 : Int)) == (0 : Int) then
              (bif t13.tdiv ((4 : Int)) == (0 : Int) then
                (gd [decide (inK .i64 (t13 + (1 : Int))), decide (inK .i64 (t4_0 * (16 : Int) + ((↑(t0.getD t13.toNat 0).toNat : Int) - (87 : Int)))), decide (inK .i64 (t4_0 * (16 : Int))), decide (inK .i64 (t13.tdiv ((4 : Int)))), decide (inK .i64 (t13.tdiv ((4 : Int))))] (hgread_0 n (t0) (t3) (t4_0 * (16 : Int) + ((↑(t0.getD t13.toNat 0).toNat : Int) - (87 : Int))) (t4_1) (t12) (t13 + (1 : Int))))
              else
                (gd [decide (inK .i64 (t13 + (1 : Int))), decide (inK .i64 (t4_0 * (16 : Int) + ((↑(t0.getD t13.toNat 0).toNat : Int) - (87 : Int)))), decide (inK .i64 (t4_0 * (16 : Int))), decide (inK .i64 (t13.tdiv ((4 : Int)))), decide (inK .i64 (t13.tdiv ((4 : Int)))), t13.tdiv ((4 : Int)) == (1 : Int)] (hgread_0 n (t0) (t3) (t4_0) (t4_0 * (16 : Int) + ((↑(t0.getD t13.toNat 0).toNat : Int) - (87 : Int))) (t12) (t13 + (1 : Int)))))
            else
              (gd [t13.tdiv ((4 : Int)) == (1 : Int)] (bif t13.tdiv ((4 : Int)) == (0 : Int) then
                (gd [decide (inK .i64 (t13 + (1 : Int))), decide (inK .i64 (t4_1 * (16 : Int) + ((↑(t0.getD t13.toNat 0).toNat : Int) - (87 : Int)))), decide (inK .i64 (t4_1 * (16 : Int))), decide (inK .i64 (t13.tdiv ((4 : Int)))), decide (inK .i64 (t13.tdiv ((4 : Int))))] (hgread_0 n (t0) (t3) (t4_1 * (16 : Int) + ((↑(t0.getD t13.toNat 0).toNat : Int) - (87 : Int))) (t4_1) (t12) (t13 + (1 : Int))))
              else
                (gd [decide (inK .i64 (t13 + (1 : Int))), decide (inK .i64 (t4_1 * (16 : Int) + ((↑(t0.getD t13.toNat 0).toNat : Int) - (87 : Int)))), decide (inK .i64 (t4_1 * (16 : Int))), decide (inK .i64 (t13.tdiv ((4 : Int)))), decide (inK .i64 (t13.tdiv ((4 : Int)))), t13.tdiv ((4 : Int)) == (1 : Int)] (hgread_0 n (t0) (t3) (t4_0) (t4_1 * (16 : Int) + ((↑(t0.getD t13.toNat 0).toNat : Int) - (87 : Int))) (t12) (t13 + (1 : Int))))))))
          else
            (some ((0, 0), false, ())))
        else
          (some ((0, 0), false, ()))))
    else
      (bif decide ((↑(t0.getD t13.toNat 0).toNat : Int) ≥ (97 : Int)) then
        (bif decide ((↑(t0.getD t13.toNat 0).toNat : Int) ≤ (102 : Int)) then
          (gd [decide (inK .i64 ((↑(t0.getD t13.toNat 0).toNat : Int) - (87 : Int)))] (bif t13.tdiv ((4 : Int)) == (0 : Int) then
            (bif t13.tdiv ((4 : Int)) == (0 : Int) then
              (gd [decide (inK .i64 (t13 + (1 : Int))), decide (inK .i64 (t4_0 * (16 : Int) + ((↑(t0.getD t13.toNat 0).toNat : Int) - (87 : Int)))), decide (inK .i64 (t4_0 * (16 : Int))), decide (inK .i64 (t13.tdiv ((4 : Int)))), decide (inK .i64 (t13.tdiv ((4 : Int))))] (hgread_0 n (t0) (t3) (t4_0 * (16 : Int) + ((↑(t0.getD t13.toNat 0).toNat : Int) - (87 : Int))) (t4_1) (t12) (t13 + (1 : Int))))
            else
              (gd [decide (inK .i64 (t13 + (1 : Int))), decide (inK .i64 (t4_0 * (16 : Int) + ((↑(t0.getD t13.toNat 0).toNat : Int) - (87 : Int)))), decide (inK .i64 (t4_0 * (16 : Int))), decide (inK .i64 (t13.tdiv ((4 : Int)))), decide (inK .i64 (t13.tdiv ((4 : Int)))), t13.tdiv ((4 : Int)) == (1 : Int)] (hgread_0 n (t0) (t3) (t4_0) (t4_0 * (16 : Int) + ((↑(t0.getD t13.toNat 0).toNat : Int) - (87 : Int))) (t12) (t13 + (1 : Int)))))
          else
            (gd [t13.tdiv ((4 : Int)) == (1 : Int)] (bif t13.tdiv ((4 : Int)) == (0 : Int) then
              (gd [decide (inK .i64 (t13 + (1 : Int))), decide (inK .i64 (t4_1 * (16 : Int) + ((↑(t0.getD t13.toNat 0).toNat : Int) - (87 : Int)))), decide (inK .i64 (t4_1 * (16 : Int))), decide (inK .i64 (t13.tdiv ((4 : Int)))), decide (inK .i64 (t13.tdiv ((4 : Int))))] (hgread_0 n (t0) (t3) (t4_1 * (16 : Int) + ((↑(t0.getD t13.toNat 0).toNat : Int) - (87 : Int))) (t4_1) (t12) (t13 + (1 : Int))))
            else
              (gd [decide (inK .i64 (t13 + (1 : Int))), decide (inK .i64 (t4_1 * (16 : Int) + ((↑(t0.getD t13.toNat 0).toNat : Int) - (87 : Int)))), decide (inK .i64 (t4_1 * (16 : Int))), decide (inK .i64 (t13.tdiv ((4 : Int)))), decide (inK .i64 (t13.tdiv ((4 : Int)))), t13.tdiv ((4 : Int)) == (1 : Int)] (hgread_0 n (t0) (t3) (t4_0) (t4_1 * (16 : Int) + ((↑(t0.getD t13.toNat 0).toNat : Int) - (87 : Int))) (t12) (t13 + (1 : Int))))))))
        else
          (some ((0, 0), false, ())))
      else
        (some ((0, 0), false, ())))))
  else
    (bif mayW (FloatKind.f64.nearest t4_0) (FloatKind.f64.nearest t4_1) then
      (gd [finW (FloatKind.f64.nearest t4_0) && finW (FloatKind.f64.nearest t4_1)] (some ((FloatKind.f64.nearest t4_0, FloatKind.f64.nearest t4_1), true, ())))
    else
      (gd [finW (FloatKind.f64.nearest t4_0) && finW (FloatKind.f64.nearest t4_1)] (some ((0, 0), false, ()))))) := by kernel_rfl
theorem whole_nn (x a b : Nat) (h : finW x = true) : owhole (x, a, b, ()) = some (wholeW x a b, ()) := by
  rw [owhole_g, ewhole_g]; unfold wholeW
  cases fRel .geq .f64 x a <;> cases fRel .leq .f64 x b <;> cases fRel .eql .f64 x (truncW x) <;> simp [gd, h]
theorem gmay_nn (z : Nat × Nat) (h : (finW z.1 && finW z.2) = true) : ogmay (z, ()) = some (mayW z.1 z.2, ()) := by
  rw [Bool.and_eq_true] at h
  rw [ogmay_g, egmay_g]; unfold mayW
  cases wholeW z.1 0 4679237813814689792 <;> cases wholeW z.2 0 4679237813814689792 <;> simp [gd, h.1, h.2]
/-- what is told of two numbers, in the end -/
def zOut (z : Option (Int × Int)) : Option (Int × Int) := match z with
  | some z => bif decide (z.1 < 65521) && decide (z.2 < 65521) then some z else none
  | none => none
theorem tdiv4_0 {i : Nat} (h : i < 4) : ((i : Int)).tdiv 4 = 0 := by
  rw [Int.tdiv_eq_ediv_of_nonneg (by omega)]; omega
theorem tdiv4_1 {i : Nat} (h : 4 ≤ i) (h8 : i < 8) : ((i : Int)).tdiv 4 = 1 := by
  rw [Int.tdiv_eq_ediv_of_nonneg (by omega)]; omega
theorem c00 {α : Type} {a b : α} : (bif ((0 : Int) == (0 : Int)) then a else b) = a := by
  have h : ((0 : Int) == (0 : Int)) = true := by decide
  rw [h, cond_true]
theorem c10 {α : Type} {a b : α} : (bif ((1 : Int) == (0 : Int)) then a else b) = b := by
  have h : ((1 : Int) == (0 : Int)) = false := by decide
  rw [h, cond_false]
theorem g11 {α : Type} {l : List Bool} {r : Option α} : gd (((1 : Int) == (1 : Int)) :: l) r = gd l r := by
  have h : ((1 : Int) == (1 : Int)) = true := by decide
  exact gdB h
theorem gZ {α : Type} {r : Option α} : gd [] r = r := by cases r <;> rw [gd_nil]
theorem gread_l (s : List UInt8) (t3 : Bool) (rest : List UInt8) : ∀ (done : List UInt8) (n : Nat) (a b : Int), s = done ++ rest → done.length + rest.length = 8 → InvZ done.length a b → rest.length < n →
    hgread_0 n s t3 a b 8 (done.length : Int) = match zOut (rdF rest done.length a b) with
      | some z => some ((FloatKind.f64.nearest z.1, FloatKind.f64.nearest z.2), true, ())
      | none => some ((0, 0), false, ()) := by
  induction rest with
  | nil =>
    intro done n a b hs he hv hn
    obtain ⟨m, rfl⟩ : ∃ m, n = m + 1 := ⟨n - 1, by omega⟩
    simp only [List.length_nil, Nat.add_zero] at he
    rw [he] at hv
    obtain ⟨i1, i2, i3, i4⟩ := invZ_8 hv
    obtain ⟨w1, w2⟩ := may_n i1 i2 i3 i4
    rw [egread_0, cdF (by omega), w2]
    simp only [rdF, zOut]
    cases hh : decide (a < 65521) && decide (b < 65521)
    · simp only [cond_false]; rw [gdB w1, gZ]
    · simp only [cond_true]; rw [gdB w1, gZ]
  | cons c rest ihr =>
    intro done n a b hs he hv hn
    obtain ⟨m, rfl⟩ : ∃ m, n = m + 1 := ⟨n - 1, by omega⟩
    simp only [List.length_cons] at he hn
    have hc := c.toNat_lt
    have ih := fun a' b' => ihr (done ++ [c]) m a' b' (by rw [hs]; simp) (by simp; omega)
    simp only [List.length_append, List.length_singleton, Int.natCast_add] at ih
    have hg : s.getD done.length 0 = c := by rw [hs, getD_mid]
    have hl : s.length = 8 := by rw [hs]; simp; omega
    rw [egread_0]
    simp only [hl, Int.toNat_natCast, hg]
    rw [cdT (by omega)]
    have key : ∀ v : Int, 0 ≤ v → v ≤ 15 → isHx c = true → hx c = v → (done.length < 4 → hgread_0 m s t3 (a * 16 + v) b 8 ((done.length : Int) + 1) = match zOut (rdF (c :: rest) done.length a b) with
        | some z => some ((FloatKind.f64.nearest z.1, FloatKind.f64.nearest z.2), true, ())
        | none => some ((0, 0), false, ())) ∧ (4 ≤ done.length → hgread_0 m s t3 a (b * 16 + v) 8 ((done.length : Int) + 1) = match zOut (rdF (c :: rest) done.length a b) with
        | some z => some ((FloatKind.f64.nearest z.1, FloatKind.f64.nearest z.2), true, ())
        | none => some ((0, 0), false, ())) := by
      intro v h0 h1 hx1 hx2
      simp only [rdF, hx1, cond_true, hx2]
      constructor
      · intro hi
        rw [cdT hi]
        exact ih _ _ (invZ_a hv hi h0 h1).1 (by omega)
      · intro hi
        rw [cdF (by omega)]
        exact ih _ _ (invZ_b hv hi (by omega) h0 h1).1 (by omega)
    have bad : isHx c = false → (match zOut (rdF (c :: rest) done.length a b) with
        | some z => some ((FloatKind.f64.nearest z.1, FloatKind.f64.nearest z.2), true, ())
        | none => some ((0, 0), false, ()) : Option (DenL [.cx, .bool])) = some ((0, 0), false, ()) := by
      intro hx1
      simp only [rdF, hx1, cond_false, zOut]
    by_cases h1 : 48 ≤ c.toNat
    · by_cases h2 : c.toNat ≤ 57
      · obtain ⟨k1, k2⟩ := key ((c.toNat : Int) - 48) (by omega) (by omega) (isHx_iff.2 (.inl ⟨h1, h2⟩)) (by unfold hx; rw [cdT h2])
        by_cases hi : done.length < 4
        · have hb := (invZ_a hv hi (v := (c.toNat : Int) - 48) (by omega) (by omega)).2
          have h0 := hv.1
          simp only [tdiv4_0 hi, c00]
          simp (disch := omega) only [cdT, gdT, gZ, inK_i64]
          exact k1 hi
        · have hb := (invZ_b hv (by omega) (by omega) (v := (c.toNat : Int) - 48) (by omega) (by omega)).2
          have h0 := hv.2.1
          simp only [tdiv4_1 (show 4 ≤ done.length by omega) (by omega), c10, g11]
          simp (disch := omega) only [cdT, gdT, gZ, inK_i64, g11]
          exact k2 (by omega)
      · by_cases h3 : 97 ≤ c.toNat ∧ c.toNat ≤ 102
        · obtain ⟨k1, k2⟩ := key ((c.toNat : Int) - 87) (by omega) (by omega) (isHx_iff.2 (.inr h3)) (by unfold hx; rw [cdF h2])
          by_cases hi : done.length < 4
          · have hb := (invZ_a hv hi (v := (c.toNat : Int) - 87) (by omega) (by omega)).2
            have h0 := hv.1
            simp only [tdiv4_0 hi, c00]
            simp (disch := omega) only [cdT, cdF, gdT, gZ, inK_i64]
            exact k1 hi
          · have hb := (invZ_b hv (by omega) (by omega) (v := (c.toNat : Int) - 87) (by omega) (by omega)).2
            have h0 := hv.2.1
            simp only [tdiv4_1 (show 4 ≤ done.length by omega) (by omega), c10, g11]
            simp (disch := omega) only [cdT, cdF, gdT, gZ, inK_i64, g11]
            exact k2 (by omega)
        · rw [bad (by cases hb : isHx c; rfl; have := isHx_iff.1 hb; omega)]
          by_cases h4 : 97 ≤ c.toNat
          · simp (disch := omega) only [cdT, cdF, gdT, gZ, inK_i64]
          · simp (disch := omega) only [cdT, cdF, gdT, gZ, inK_i64]
    · rw [bad (by cases hb : isHx c; rfl; have := isHx_iff.1 hb; omega)]
      simp (disch := omega) only [cdT, cdF, gdT, gZ, inK_i64]
theorem gread_n (s : List UInt8) : ogread (s, ()) = some ((gRead s).1, (gRead s).2, ()) := by
  rw [ogread_g, egread_g]
  unfold gRead rdZ
  by_cases h : s.length = 8
  · have e : ((s.length : Int) != 8) = false := by rw [h]; rfl
    have e2 : ((s.length : Int)) = 8 := by omega
    rw [e, cond_false, decide_eq_true h, cond_true, e2]
    have := gread_l s false s [] heads0 0 0 rfl (by simpa using h) invZ_0 (by unfold heads0; omega)
    refine this.trans ?_
    show _ = some ((match zOut (rdF s 0 0 0) with
      | some z => ((FloatKind.f64.nearest z.1, FloatKind.f64.nearest z.2), true)
      | none => ((0, 0), false)).1, (match zOut (rdF s 0 0 0) with
      | some z => ((FloatKind.f64.nearest z.1, FloatKind.f64.nearest z.2), true)
      | none => ((0, 0), false)).2, ())
    show (match zOut (rdF s 0 0 0) with
      | some z => some ((FloatKind.f64.nearest z.1, FloatKind.f64.nearest z.2), true, ())
      | none => some ((0, 0), false, ())) = _
    cases zOut (rdF s 0 0 0) <;> rfl
  · have e : ((s.length : Int) != 8) = true := by simp; omega
    rw [e, cond_true, decide_eq_false h]; rfl
theorem arch_run {x : Nat} (h : finW x = true) (w : World) : (callFunc 257 #[.float .f64 x]).run Tryz.prog w = .ok (.value (.float .f64 (truncW x))) w := by
  rw [run_callFunc_extern Tryz.func257 (by kernel_rfl) (by kernel_rfl) (by kernel_rfl) (by kernel_rfl : Extern.find Tryz.f257 = some (Extern.MathFloor.toIntegral "math.archTrunc" .zero))]
  have e : Extern.MathFloor.toIntegral "math.archTrunc" .zero #[.float .f64 x] = Pure.pure (.float .f64 (truncW x)) := by
    show (match FloatKind.f64.decode x with
      | .nan s t => _
      | d => _) = _
    unfold finW at h
    unfold truncW
    split
    · rename_i hd; rw [hd] at h; cases h
    · rfl
  rw [e]; rfl
theorem trunc_c : PC 200 archS := pc_mk fun fz w args x hgl hr hp => by
  obtain ⟨x, ⟨⟩⟩ := x
  obtain ⟨_, r3, e1, h1, hr1⟩ := rd_cons' rfl hr
  obtain rfl : r3 = [] := hr1
  cases h1
  have ha : args = #[.float .f64 x] := Array.toList_inj.1 e1
  subst ha
  go_enter Tryz.func200, Tryz.ntmps200
  go_wp2
  rw [arch_run hp]
  go_wp2
  go_ret
  exact ⟨[.float .f64 (truncW x)], rfl, ⟨_, _, rfl, .inr ⟨rfl, rfl⟩, rfl⟩, ⟨Nat.le_refl _, rfl, rfl, fun _ _ => rfl⟩⟩
theorem whole_c : PC 147 wholeS := (pureO (envS_ok (l := [(200, archS)]) ⟨trunc_c, trivial⟩) gl_ne Tryz.func147 (by kernel_rfl) (by decide)).nice fun ⟨x, a, b, ()⟩ h => whole_nn x a b h
theorem may_c : PC 113 mayS := (pureO (envS_ok (l := [(147, wholeS)]) ⟨whole_c, trivial⟩) gl_ne Tryz.func113 (by kernel_rfl) (by decide)).nice fun ⟨z, ()⟩ h => gmay_nn z h
theorem gread_c : PC 80 gReadS := (pureO (envS_ok (l := [(113, mayS)]) ⟨may_c, trivial⟩) gl_ne Tryz.func80 (by kernel_rfl) (by decide)).nice fun ⟨s, ()⟩ _ => gread_n s
end Go.Proofs.YtnblkjapeiaedaaGreatDoor
namespace Go.Proofs.YtnblkjapeiaedaaGreatDoor
open Go Go.Eng Nice
set_option maxRecDepth 1000000
noncomputable def omod (x : DenL [.int .i64]) : Option (DenL [.int .i64]) := fO Tryz.prog (envS []) (shOf []) Tryz.f148 [.int .i64] [.int .i64] x
theorem emod (n : Int) : omod (n, ()) = (bif decide (n.tmod 65521 < 0) then gd [decide (inK .i64 (n.tmod 65521 + 65521))] (some (n.tmod 65521 + 65521, ())) else some (n.tmod 65521, ())) := by kernel_rfl
theorem mod_c : PC 148 modS := (pureO (envS_ok (l := []) trivial) gl_ne Tryz.func148 (by kernel_rfl) (by decide)).nice fun ⟨n, ()⟩ _ => by
  have := tmod_b n
  show omod _ = some (modN n, ())
  rw [emod]
  unfold modN
  by_cases h : n.tmod 65521 < 0
  · rw [cdT h, cdT h, gdT (inK_i64.2 ⟨by omega, by omega⟩), gd_nil]
  · rw [cdF h, cdF h]
noncomputable def ozadd (x : DenL [ZT2, ZT2]) : Option (DenL [ZT2]) := fO Tryz.prog (envS [(148, modS)]) (shOf []) Tryz.f114 [ZT2, ZT2] [ZT2] x
theorem ezadd (a b c d : Int) : ozadd ((a, b, ()), (c, d, ()), ()) = gd [decide (inK .i64 (b + d)), decide (inK .i64 (a + c))] (some ((modN (a + c), modN (b + d), ()), ())) := by kernel_rfl
theorem zadd_c : PC 114 zaddS := (pureO (envS_ok (l := [(148, modS)]) ⟨mod_c, trivial⟩) gl_ne Tryz.func114 (by kernel_rfl) (by decide)).nice fun ⟨⟨a, b, ()⟩, ⟨c, d, ()⟩, ()⟩ h => by
  have h : (zB (a, b, ()) && zB (c, d, ())) = true := h
  rw [Bool.and_eq_true, zB_iff, zB_iff] at h
  obtain ⟨⟨h1, h2, h3, h4⟩, h5, h6, h7, h8⟩ := h
  dsimp only at h1 h2 h3 h4 h5 h6 h7 h8
  show ozadd _ = _
  rw [ezadd, gdT (inK_i64.2 ⟨by omega, by omega⟩), gdT (inK_i64.2 ⟨by omega, by omega⟩), gd_nil]; rfl
noncomputable def ozmul (x : DenL [ZT2, ZT2]) : Option (DenL [ZT2]) := fO Tryz.prog (envS [(148, modS)]) (shOf []) Tryz.f115 [ZT2, ZT2] [ZT2] x
theorem ezmul (a b c d : Int) : ozmul ((a, b, ()), (c, d, ()), ()) = gd [decide (inK .i64 (a * d + b * c)), decide (inK .i64 (b * c)), decide (inK .i64 (a * d)), decide (inK .i64 (a * c - b * d)), decide (inK .i64 (b * d)), decide (inK .i64 (a * c))] (some ((modN (a * c - b * d), modN (a * d + b * c), ()), ())) := by kernel_rfl
theorem zmul_c : PC 115 zmulS := (pureO (envS_ok (l := [(148, modS)]) ⟨mod_c, trivial⟩) gl_ne Tryz.func115 (by kernel_rfl) (by decide)).nice fun ⟨⟨a, b, ()⟩, ⟨c, d, ()⟩, ()⟩ h => by
  have h : (zB (a, b, ()) && zB (c, d, ())) = true := h
  rw [Bool.and_eq_true, zB_iff, zB_iff] at h
  obtain ⟨⟨h1, h2, h3, h4⟩, h5, h6, h7, h8⟩ := h
  dsimp only at h1 h2 h3 h4 h5 h6 h7 h8
  obtain ⟨m1, m2⟩ := mul_bd h1 h2 h5 h6
  obtain ⟨m3, m4⟩ := mul_bd h3 h4 h7 h8
  obtain ⟨m5, m6⟩ := mul_bd h1 h2 h7 h8
  obtain ⟨m7, m8⟩ := mul_bd h3 h4 h5 h6
  show ozmul _ = _
  rw [ezmul, gdT (inK_i64.2 ⟨by omega, by omega⟩), gdT (inK_i64.2 ⟨by omega, by omega⟩), gdT (inK_i64.2 ⟨by omega, by omega⟩), gdT (inK_i64.2 ⟨by omega, by omega⟩), gdT (inK_i64.2 ⟨by omega, by omega⟩), gdT (inK_i64.2 ⟨by omega, by omega⟩), gd_nil]; rfl
abbrev shon : List (Nat × List (Nat × Sh)) := [(2, [(1, (.one .sym)), (2, (.obj [.sym, .sym])), (4, (.obj [.sym, .sym])), (5, (.one .sym))])]
noncomputable def hon_0 (n : Nat) (t1 : List UInt8) (t2_0 : Int) (t2_1 : Int) (t4_0 : Int) (t4_1 : Int) (t5 : Int) : Option (DenL [ZT2]) := rH Tryz.prog (envS [(114, zaddS), (115, zmulS)]) (shOf shon) Tryz.f83 [ZT2] n 0 [(1, sy (.string (bs t1))), (2, .pointer (some ⟨10, 0, none⟩)), (4, .pointer (some ⟨11, 0, none⟩)), (5, sy (.int .i64 t5))] [.row [sy (.int .i64 t2_0), sy (.int .i64 t2_1)] 95 false, .row [sy (.int .i64 t4_0), sy (.int .i64 t4_1)] 95 false]
noncomputable def oon (x : DenL [ZT2, .str]) : Option (DenL [ZT2]) := fO Tryz.prog (envS [(114, zaddS), (115, zmulS)]) (shOf shon) Tryz.f83 [ZT2, .str] [ZT2] x
theorem eon_g (a b : Int) (s : List UInt8) : ∀ N : Nat, fON Tryz.prog (envS [(114, zaddS), (115, zmulS)]) (shOf shon) Tryz.f83 [ZT2, .str] [ZT2] N ((a, b, ()), s, ()) = hon_0 N s a b 0 0 0 := fun N => by kernel_rfl
theorem oon_g (x : DenL [ZT2, .str]) : oon x = fON Tryz.prog (envS [(114, zaddS), (115, zmulS)]) (shOf shon) Tryz.f83 [ZT2, .str] [ZT2] heads0 x := rfl
def onStep (a b : Int) (c : UInt8) : ZW := zaddN (zmulN (a, b, ()) (3, 5, ())) ((c.toNat : Int) + 1, 0, ())
theorem eon_0 (n : Nat) (t1 : List UInt8) (a b c d i : Int) : hon_0 (n + 1) t1 a b c d i =
  (bif decide (i < (t1.length : Int)) then gd [decide (inK .i64 (i + 1)), zB (zmulN (a, b, ()) (3, 5, ())) && zB (((t1.getD i.toNat 0).toNat : Int) + 1, 0, ()), decide (inK .i64 (((t1.getD i.toNat 0).toNat : Int) + 1)), decide (inK .i64 ((t1.getD i.toNat 0).toNat : Int)), decide (0 ≤ i), decide (i < (t1.length : Int)), zB (a, b, ()) && zB (3, 5, ())]
    (hon_0 n t1 (onStep a b (t1.getD i.toNat 0)).1 (onStep a b (t1.getD i.toNat 0)).2.1 c d (i + 1)) else some ((a, b, ()), ())) := by kernel_rfl
theorem on_l (s : List UInt8) (hs : s.length ≤ 140737488355328) : ∀ (r i n : Nat) (a b c d : Int), s.length = i + r → r < n → zB (a, b, ()) = true → hon_0 n s a b c d (i : Int) = some (onN (a, b, ()) (s.drop i), ()) := by
  intro r
  induction r with
  | zero =>
    intro i n a b c d hi hn hz
    obtain ⟨n, rfl⟩ : ∃ k, n = k + 1 := ⟨n - 1, by omega⟩
    rw [eon_0, cdF (by omega), List.drop_eq_nil_of_le (by omega)]; rfl
  | succ r ih =>
    intro i n a b c d hi hn hz
    obtain ⟨n, rfl⟩ : ∃ k, n = k + 1 := ⟨n - 1, by omega⟩
    have hl : i < s.length := by omega
    have hb : ((s.getD i 0).toNat : Int) ≤ 255 := by have := (s.getD i 0).toNat_lt; omega
    have hb0 : (0 : Int) ≤ ((s.getD i 0).toNat : Int) := by omega
    have hd : s.drop i = s.getD i 0 :: s.drop (i + 1) := by
      rw [List.drop_eq_getElem_cons hl, List.getD_eq_getElem?_getD, List.getElem?_eq_getElem hl]; rfl
    have hst := zadd_b (zmulN (a, b, ()) (3, 5, ())) (((s.getD i 0).toNat : Int) + 1, 0, ())
    have hz2 : zB (((s.getD i 0).toNat : Int) + 1, 0, ()) = true := zB_iff.2 ⟨by show (0 : Int) ≤ _ + 1; omega, by show _ + (1 : Int) ≤ _; omega, Int.le_refl 0, (by decide : (0 : Int) ≤ 70000)⟩
    have key := ih (i + 1) n (onStep a b (s.getD i 0)).1 (onStep a b (s.getD i 0)).2.1 c d (by omega) (by omega) hst
    rw [eon_0, cdT (by omega), show (i : Int).toNat = i from rfl, gdT (inK_i64.2 ⟨by omega, by omega⟩), gdB (by rw [zmul_b, hz2]; rfl), gdT (inK_i64.2 ⟨by omega, by omega⟩), gdT (inK_i64.2 ⟨by omega, by omega⟩), gdT (by omega), gdT (by omega), gdB (by rw [hz]; rfl), gd_nil]
    simp only [Int.natCast_add, Int.natCast_one] at key
    rw [key, hd]; rfl
theorem on_c : PC 83 onS := (pureO (sh := shOf shon) (envS_ok (l := [(114, zaddS), (115, zmulS)]) ⟨zadd_c, zmul_c, trivial⟩) gl_ne Tryz.func83 (by kernel_rfl) (by decide)).nice fun ⟨⟨a, b, ()⟩, s, ()⟩ h => by
  have h : (zB (a, b, ()) && bndS s) = true := h
  rw [Bool.and_eq_true] at h
  have hs : s.length ≤ 140737488355328 := of_decide_eq_true h.2
  show oon _ = _
  rw [oon_g, eon_g]
  exact on_l s hs s.length 0 heads0 a b 0 0 (by omega) (by unfold heads0; omega) h.1
noncomputable def ofour (x : DenL [.int .i64]) : Option (DenL [.str]) := fO Tryz.prog (envS []) (shOf []) Tryz.f82 [.int .i64] [.str] x
theorem efour (n : Int) : ofour (n, ()) = gd [decide (0 ≤ n.tmod 16), decide (n.tmod 16 < 16), decide (0 ≤ (n.tdiv 16).tmod 16), decide ((n.tdiv 16).tmod 16 < 16), decide (inK .i64 (n.tdiv 16)), decide (0 ≤ (n.tdiv 256).tmod 16), decide ((n.tdiv 256).tmod 16 < 16), decide (inK .i64 (n.tdiv 256)), decide (0 ≤ (n.tdiv 4096).tmod 16), decide ((n.tdiv 4096).tmod 16 < 16), decide (inK .i64 (n.tdiv 4096))] (some (fourN n, ())) := by kernel_rfl
theorem four_c : PC 82 fourS := (pureO (envS_ok (l := []) trivial) gl_ne Tryz.func82 (by kernel_rfl) (by decide)).nice fun ⟨n, ()⟩ h => by
  obtain ⟨h0, h1⟩ : 0 ≤ n ∧ n ≤ 70000 := of_decide_eq_true h
  obtain ⟨a1, a2⟩ := tdiv_bd h0 h1 (by decide : (1 : Int) ≤ 16)
  obtain ⟨b1, b2⟩ := tdiv_bd h0 h1 (by decide : (1 : Int) ≤ 256)
  obtain ⟨c1, c2⟩ := tdiv_bd h0 h1 (by decide : (1 : Int) ≤ 4096)
  have m0 := tmod16 h0
  have m1 := tmod16 a1
  have m2 := tmod16 b1
  have m3 := tmod16 c1
  show ofour _ = _
  rw [efour, gdT m0.1, gdT m0.2, gdT m1.1, gdT m1.2, gdT (inK_i64.2 ⟨by omega, by omega⟩), gdT m2.1, gdT m2.2, gdT (inK_i64.2 ⟨by omega, by omega⟩), gdT m3.1, gdT m3.2, gdT (inK_i64.2 ⟨by omega, by omega⟩), gd_nil]
noncomputable def otext (x : DenL [ZT2]) : Option (DenL [.str]) := fO Tryz.prog (envS [(82, fourS)]) (shOf []) Tryz.f58 [ZT2] [.str] x
theorem etext (a b : Int) : otext ((a, b, ()), ()) = gd [decide ((fourN a).length + (fourN b).length ≤ 1099511627776), fourP b, fourP a] (some (fourN a ++ fourN b, ())) := by kernel_rfl
theorem text_c : PC 58 textS := (pureO (envS_ok (l := [(82, fourS)]) ⟨four_c, trivial⟩) gl_ne Tryz.func58 (by kernel_rfl) (by decide)).nice fun ⟨⟨a, b, ()⟩, ()⟩ h => by
  obtain ⟨h1, h2, h3, h4⟩ := zB_iff.1 h
  show otext _ = _
  rw [etext, gdT (show (fourN a).length + (fourN b).length ≤ 1099511627776 from (by decide : 4 + 4 ≤ 1099511627776)), gdB (show fourP b = true from decide_eq_true ⟨h3, h4⟩), gdB (show fourP a = true from decide_eq_true ⟨h1, h2⟩), gd_nil]; rfl
noncomputable def omark (x : DenL [.str]) : Option (DenL [ZT2]) := fO Tryz.prog (envS [(83, onS)]) (shOf []) Tryz.f59 [.str] [ZT2] x
theorem emark (s : List UInt8) : omark (s, ()) = gd [zB (0, 1, ()) && bndS s] (some (onN (0, 1, ()) s, ())) := by kernel_rfl
theorem mark_c : PC 59 markS := (pureO (envS_ok (l := [(83, onS)]) ⟨on_c, trivial⟩) gl_ne Tryz.func59 (by kernel_rfl) (by decide)).nice fun ⟨s, ()⟩ h => by
  have h : bndS s = true := h
  show omark _ = _
  rw [emark, gdB (by rw [h]; rfl), gd_nil]; rfl
noncomputable def otag (x : DenL [.str]) : Option (DenL [.str]) := fO Tryz.prog (envS [(58, textS), (59, markS)]) (shOf []) Tryz.f35 [.str] [.str] x
theorem etag (s : List UInt8) : otag (s, ()) = gd [zB (markN s), bndS s] (some (tagN s, ())) := by kernel_rfl
theorem tag_c : PC 35 tagS := (pureO (envS_ok (l := [(58, textS), (59, markS)]) ⟨text_c, mark_c, trivial⟩) gl_ne Tryz.func35 (by kernel_rfl) (by decide)).nice fun ⟨s, ()⟩ h => by
  have h : bndS s = true := h
  show otag _ = _
  rw [etag, gdB (show zB (markN s) = true from on_b s _ (by decide)), gdB h, gd_nil]
end Go.Proofs.YtnblkjapeiaedaaGreatDoor
namespace Nice
open Go Go.Eng
def un (w : Nat) : Int := (fIv w .i64).getD 0
def okR (lo hi : Int) (w : Nat) : Bool := decide (w = fN (un w)) && (decide (lo ≤ un w) && decide (un w ≤ hi))
def okF (w : Nat) : Bool := okR 0 65520 w
def okM (w : Nat) : Bool := okR (-1125899906842624) 1125899906842624 w
def okC (z : Nat × Nat) : Bool := okF z.1 && okF z.2
def cz (z : Nat × Nat) : ZW := (un z.1, un z.2, ())
def cf (z : ZW) : Nat × Nat := (fN z.1, fN z.2.1)
def partW (w : Nat) : Nat := fN (modN (un w))
noncomputable def partS : PSpec := ⟨[.f64], [.f64], fun x => okM x.1, fun x => (partW x.1, ())⟩
noncomputable def gmodS : PSpec := ⟨[.cx], [.cx], fun x => okM x.1.1 && okM x.1.2, fun x => ((partW x.1.1, partW x.1.2), ())⟩
noncomputable def gaddS : PSpec := ⟨[.cx, .cx], [.cx], fun x => okC x.1 && okC x.2.1, fun x => (cf (zaddN (cz x.1) (cz x.2.1)), ())⟩
noncomputable def gmulS : PSpec := ⟨[.cx, .cx], [.cx], fun x => okC x.1 && okC x.2.1, fun x => (cf (zmulN (cz x.1) (cz x.2.1)), ())⟩
noncomputable def gonS : PSpec := ⟨[.cx, .slice .byte], [.cx], fun x => okC x.1 && bndS x.2.1, fun x => (cf (onN (cz x.1) x.2.1), ())⟩
noncomputable def gmarkS : PSpec := ⟨[.slice .byte], [.cx], fun x => bndS x.1, fun x => (cf (markN x.1), ())⟩
noncomputable def gtextS : PSpec := ⟨[.cx], [.str], fun x => okC x.1, fun x => (textN (cz x.1), ())⟩
noncomputable def gtagS : PSpec := ⟨[.str], [.str], fun x => bndS x.1, fun x => (tagN x.1, ())⟩
theorem un_fN {n : Int} (h : n.natAbs < 2 ^ 53) : un (fN n) = n := by unfold un; rw [fint h]; rfl
theorem okR_iff {lo hi : Int} {w : Nat} (hl : -2000000000000000 ≤ lo) (hh : hi ≤ 2000000000000000) : okR lo hi w = true ↔ ∃ n : Int, lo ≤ n ∧ n ≤ hi ∧ w = fN n := by
  unfold okR
  rw [Bool.and_eq_true, Bool.and_eq_true, decide_eq_true_eq, decide_eq_true_eq, decide_eq_true_eq]
  constructor
  · rintro ⟨a, b, c⟩; exact ⟨un w, b, c, a⟩
  · rintro ⟨n, a, b, rfl⟩
    rw [un_fN (by omega)]
    exact ⟨rfl, a, b⟩
theorem okF_iff {w : Nat} : okF w = true ↔ ∃ n : Int, 0 ≤ n ∧ n ≤ 65520 ∧ w = fN n := okR_iff (by decide) (by decide)
theorem okM_iff {w : Nat} : okM w = true ↔ ∃ n : Int, -1125899906842624 ≤ n ∧ n ≤ 1125899906842624 ∧ w = fN n := okR_iff (by decide) (by decide)
theorem okM_of {n : Int} (h1 : -1125899906842624 ≤ n) (h2 : n ≤ 1125899906842624) : okM (fN n) = true := okM_iff.2 ⟨n, h1, h2, rfl⟩
theorem okF_of {n : Int} (h1 : 0 ≤ n) (h2 : n ≤ 65520) : okF (fN n) = true := okF_iff.2 ⟨n, h1, h2, rfl⟩
theorem okC_cf {z : ZW} (h1 : 0 ≤ z.1 ∧ z.1 < 65521) (h2 : 0 ≤ z.2.1 ∧ z.2.1 < 65521) : okC (cf z) = true := by
  unfold okC cf
  rw [Bool.and_eq_true]
  exact ⟨okF_of h1.1 (by omega), okF_of h2.1 (by omega)⟩
theorem cz_cf {z : ZW} (h1 : 0 ≤ z.1 ∧ z.1 < 65521) (h2 : 0 ≤ z.2.1 ∧ z.2.1 < 65521) : cz (cf z) = z := by
  obtain ⟨a, b, ⟨⟩⟩ := z
  show (un (fN a), un (fN b), ()) = (a, b, ())
  have h1 : 0 ≤ a ∧ a < 65521 := h1
  have h2 : 0 ≤ b ∧ b < 65521 := h2
  rw [un_fN (by omega), un_fN (by omega)]
theorem zadd_m (a b : ZW) : (0 ≤ (zaddN a b).1 ∧ (zaddN a b).1 < 65521) ∧ 0 ≤ (zaddN a b).2.1 ∧ (zaddN a b).2.1 < 65521 := ⟨modN_b _, modN_b _⟩
theorem zmul_m (a b : ZW) : (0 ≤ (zmulN a b).1 ∧ (zmulN a b).1 < 65521) ∧ 0 ≤ (zmulN a b).2.1 ∧ (zmulN a b).2.1 < 65521 := ⟨modN_b _, modN_b _⟩
theorem may_ok {a b : Int} (h1 : 0 ≤ a) (h2 : a ≤ 65520) (h3 : 0 ≤ b) (h4 : b ≤ 65520) : (finW (fN a) && finW (fN b)) = true ∧ mayW (fN a) (fN b) = true := by
  obtain ⟨e1, e2⟩ := may_n h1 (by omega) h3 (by omega)
  refine ⟨e1, e2.trans ?_⟩
  rw [decide_eq_true (show a < 65521 by omega), decide_eq_true (show b < 65521 by omega)]; rfl
theorem fAdd {a b : Int} (ha : 0 ≤ a) (hb : 0 ≤ b) (h : a + b < 9007199254740992) : fOk .add (fN a) (fN b) = true ∧ fA .add (fN a) (fN b) = fN (a + b) := by
  unfold fOk fA; rw [fadd ha hb h]; exact ⟨rfl, rfl⟩
theorem fSub {a b : Int} (ha : 0 ≤ a) (hb : 0 ≤ b) (h1 : a < 9007199254740992) (h2 : b < 9007199254740992) : fOk .sub (fN a) (fN b) = true ∧ fA .sub (fN a) (fN b) = fN (a - b) := by
  unfold fOk fA; rw [fsub ha hb h1 h2]; exact ⟨rfl, rfl⟩
theorem fMul {a b : Int} (ha : 0 ≤ a) (hb : 0 ≤ b) (h1 : a ≤ 65521) (h2 : b ≤ 65521) : fOk .mul (fN a) (fN b) = true ∧ fA .mul (fN a) (fN b) = fN (a * b) := by
  have hm : a * b ≤ 65521 * 65521 := Int.mul_le_mul h1 h2 hb (by decide)
  unfold fOk fA; rw [fmul ha hb (by omega) (by omega) (by omega)]; exact ⟨rfl, rfl⟩
theorem c50 : (4832362400168542208 : Nat) = fN 1125899906842624 := by decide
theorem c50n : (14055734437023318016 : Nat) = fN (-1125899906842624) := by decide
theorem c1 : (4607182418800017408 : Nat) = fN 1 := by decide
theorem c3 : (4613937818241073152 : Nat) = fN 3 := by decide
theorem c5 : (4617315517961601024 : Nat) = fN 5 := by decide
theorem c0 : (0 : Nat) = fN 0 := by decide
end Nice
namespace Go.Proofs.YtnblkjapeiaedaaGreatDoor
open Go Go.Eng Nice Go.RowKit
set_option maxRecDepth 1000000
noncomputable def opart (x : DenL [.f64]) : Option (DenL [.f64]) := fO Tryz.prog (envS []) (shOf []) Tryz.f287 [.f64] [.f64] x
theorem epart (x : Nat) : opart (x, ()) = gd [(fIv x .i64).isSome] (bif decide (((fIv x .i64).getD 0).tmod 65521 < 0) then gd [decide (inK .i64 (((fIv x .i64).getD 0).tmod 65521 + 65521))] (some (fN (((fIv x .i64).getD 0).tmod 65521 + 65521), ())) else some (fN (((fIv x .i64).getD 0).tmod 65521), ())) := by kernel_rfl
theorem part_c : PC 287 partS := (pureO (envS_ok (l := []) trivial) gl_ne Tryz.func287 (by kernel_rfl) (by decide)).nice fun ⟨x, ()⟩ h => by
  obtain ⟨n, h1, h2, rfl⟩ := okM_iff.1 h
  have ht := tmod_b n
  have hu : un (fN n) = n := un_fN (by omega)
  show opart _ = some (fN (modN (un (fN n))), ())
  rw [epart, hu, fint (by omega), gdB (b := (some n).isSome) rfl, xG, Option.getD_some]
  unfold modN
  by_cases h : n.tmod 65521 < 0
  · rw [cdT h, cdT h, gdT (inK_i64.2 ⟨by omega, by omega⟩), xG]
  · rw [cdF h, cdF h]
noncomputable def ogmod (x : DenL [.cx]) : Option (DenL [.cx]) := fO Tryz.prog (envS [(147, wholeS), (287, partS)]) (shOf []) Tryz.f254 [.cx] [.cx] x
theorem egmod (a b : Nat) : ogmod ((a, b), ()) = (bif wholeW a 14055734437023318016 4832362400168542208 then (bif wholeW b 14055734437023318016 4832362400168542208 then gd [okM b, okM a, finW b, finW a] (some ((partW a, partW b), ())) else gd [finW b, finW a] (some ((0, 0), ()))) else gd [finW a] (some ((0, 0), ()))) := by kernel_rfl
theorem gmod_c : PC 254 gmodS := (pureO (envS_ok (l := [(147, wholeS), (287, partS)]) ⟨whole_c, part_c, trivial⟩) gl_ne Tryz.func254 (by kernel_rfl) (by decide)).nice fun ⟨⟨a, b⟩, ()⟩ h => by
  have h : (okM a && okM b) = true := h
  rw [Bool.and_eq_true] at h
  obtain ⟨n, h1, h2, rfl⟩ := okM_iff.1 h.1
  obtain ⟨m, h3, h4, rfl⟩ := okM_iff.1 h.2
  have w1 : wholeW (fN n) (fN (-1125899906842624)) (fN 1125899906842624) = true := by
    rw [fwhole (by omega) (by decide) (by decide), decide_eq_true h1, decide_eq_true h2]; rfl
  have w2 : wholeW (fN m) (fN (-1125899906842624)) (fN 1125899906842624) = true := by
    rw [fwhole (by omega) (by decide) (by decide), decide_eq_true h3, decide_eq_true h4]; rfl
  show ogmod _ = _
  rw [egmod, c50, c50n, w1, xT, w2, xT, gdB h.2, gdB h.1, gdB (ftrunc (by omega)).2, gdB (ftrunc (by omega)).2, xG]
noncomputable def ogadd (x : DenL [.cx, .cx]) : Option (DenL [.cx]) := fO Tryz.prog (envS [(113, mayS), (254, gmodS)]) (shOf []) Tryz.f190 [.cx, .cx] [.cx] x
theorem egadd (a b c d : Nat) : ogadd ((a, b), (c, d), ()) = (bif mayW a b then (bif mayW c d then gd [okM (fA .add a c) && okM (fA .add b d), fOk .add a c, fOk .add b d, finW c && finW d, finW a && finW b] (some ((partW (fA .add a c), partW (fA .add b d)), ())) else gd [finW c && finW d, finW a && finW b] (some ((0, 0), ()))) else gd [finW a && finW b] (some ((0, 0), ()))) := by kernel_rfl
noncomputable def ogmul (x : DenL [.cx, .cx]) : Option (DenL [.cx]) := fO Tryz.prog (envS [(113, mayS), (254, gmodS)]) (shOf []) Tryz.f191 [.cx, .cx] [.cx] x
theorem egmul (a b c d : Nat) : ogmul ((a, b), (c, d), ()) = (bif mayW a b then (bif mayW c d then gd [okM (fA .sub (fA .mul a c) (fA .mul b d)) && okM (fA .add (fA .mul a d) (fA .mul b c)), fOk .mul a c, fOk .mul b d, fOk .sub (fA .mul a c) (fA .mul b d), fOk .mul a d, fOk .mul b c, fOk .add (fA .mul a d) (fA .mul b c), finW c && finW d, finW a && finW b] (some ((partW (fA .sub (fA .mul a c) (fA .mul b d)), partW (fA .add (fA .mul a d) (fA .mul b c))), ())) else gd [finW c && finW d, finW a && finW b] (some ((0, 0), ()))) else gd [finW a && finW b] (some ((0, 0), ()))) := by kernel_rfl
theorem okC_iff {z : Nat × Nat} (h : okC z = true) : ∃ a b : Int, (0 ≤ a ∧ a ≤ 65520) ∧ (0 ≤ b ∧ b ≤ 65520) ∧ z = (fN a, fN b) := by
  obtain ⟨x, y⟩ := z
  have h : (okF x && okF y) = true := h
  rw [Bool.and_eq_true] at h
  obtain ⟨a, a1, a2, rfl⟩ := okF_iff.1 h.1
  obtain ⟨b, b1, b2, rfl⟩ := okF_iff.1 h.2
  exact ⟨a, b, ⟨a1, a2⟩, ⟨b1, b2⟩, rfl⟩
theorem gadd_c : PC 190 gaddS := (pureO (envS_ok (l := [(113, mayS), (254, gmodS)]) ⟨may_c, gmod_c, trivial⟩) gl_ne Tryz.func190 (by kernel_rfl) (by decide)).nice fun ⟨z, u, ()⟩ h => by
  have h : (okC z && okC u) = true := h
  rw [Bool.and_eq_true] at h
  obtain ⟨a, b, ha, hb, rfl⟩ := okC_iff h.1
  obtain ⟨c, d, hc, hd, rfl⟩ := okC_iff h.2
  obtain ⟨m1, m2⟩ := may_ok ha.1 ha.2 hb.1 hb.2
  obtain ⟨m3, m4⟩ := may_ok hc.1 hc.2 hd.1 hd.2
  obtain ⟨p1, p2⟩ := fAdd (a := a) (b := c) (by omega) (by omega) (by omega)
  obtain ⟨p3, p4⟩ := fAdd (a := b) (b := d) (by omega) (by omega) (by omega)
  have o1 := okM_of (n := a + c) (by omega) (by omega)
  have o2 := okM_of (n := b + d) (by omega) (by omega)
  show ogadd _ = some (cf (zaddN (un (fN a), un (fN b), ()) (un (fN c), un (fN d), ())), ())
  rw [egadd, m2, xT, m4, xT, p2, p4, gdB (by rw [o1, o2]; rfl), gdB p1, gdB p3, gdB m3, gdB m1, xG, un_fN (by omega), un_fN (by omega), un_fN (by omega), un_fN (by omega)]
  unfold partW
  rw [un_fN (by omega), un_fN (by omega)]
  rfl
theorem gmul_c : PC 191 gmulS := (pureO (envS_ok (l := [(113, mayS), (254, gmodS)]) ⟨may_c, gmod_c, trivial⟩) gl_ne Tryz.func191 (by kernel_rfl) (by decide)).nice fun ⟨z, u, ()⟩ h => by
  have h : (okC z && okC u) = true := h
  rw [Bool.and_eq_true] at h
  obtain ⟨a, b, ha, hb, rfl⟩ := okC_iff h.1
  obtain ⟨c, d, hc, hd, rfl⟩ := okC_iff h.2
  obtain ⟨m1, m2⟩ := may_ok ha.1 ha.2 hb.1 hb.2
  obtain ⟨m3, m4⟩ := may_ok hc.1 hc.2 hd.1 hd.2
  obtain ⟨p1, p2⟩ := fMul (a := a) (b := c) (by omega) (by omega) (by omega) (by omega)
  obtain ⟨p3, p4⟩ := fMul (a := b) (b := d) (by omega) (by omega) (by omega) (by omega)
  obtain ⟨p5, p6⟩ := fMul (a := a) (b := d) (by omega) (by omega) (by omega) (by omega)
  obtain ⟨p7, p8⟩ := fMul (a := b) (b := c) (by omega) (by omega) (by omega) (by omega)
  have q1 := mul_bd (a := a) (b := c) (by omega) (by omega) (by omega) (by omega)
  have q2 := mul_bd (a := b) (b := d) (by omega) (by omega) (by omega) (by omega)
  have q3 := mul_bd (a := a) (b := d) (by omega) (by omega) (by omega) (by omega)
  have q4 := mul_bd (a := b) (b := c) (by omega) (by omega) (by omega) (by omega)
  obtain ⟨s1, s2⟩ := fSub (a := a * c) (b := b * d) (by omega) (by omega) (by omega) (by omega)
  obtain ⟨s3, s4⟩ := fAdd (a := a * d) (b := b * c) (by omega) (by omega) (by omega)
  have o1 := okM_of (n := a * c - b * d) (by omega) (by omega)
  have o2 := okM_of (n := a * d + b * c) (by omega) (by omega)
  show ogmul _ = some (cf (zmulN (un (fN a), un (fN b), ()) (un (fN c), un (fN d), ())), ())
  rw [egmul, m2, xT, m4, xT, p2, p4, p6, p8, s2, s4, gdB (by rw [o1, o2]; rfl), gdB p1, gdB p3, gdB s1, gdB p5, gdB p7, gdB s3, gdB m3, gdB m1, xG, un_fN (by omega), un_fN (by omega), un_fN (by omega), un_fN (by omega)]
  unfold partW
  rw [un_fN (by omega), un_fN (by omega)]
  rfl
end Go.Proofs.YtnblkjapeiaedaaGreatDoor
namespace Nice
open Go Go.Eng
/-- the mark so far, as a number -/
def stepZ (z : ZW) (c : UInt8) : ZW := zaddN (zmulN z (3, 5, ())) ((c.toNat : Int) + 1, 0, ())
def dig1 (n i : Int) : Int := IntKind.u8.wrap (IntKind.i64.wrap ((Nat.bitwise and (n.fdiv (2 ^ min (4 * i).toNat 64) % 18446744073709551616).toNat 15 : Nat) : Int))
def chr1 (d : Int) : UInt8 := bif decide (d < 10) then UInt8.ofNat (IntKind.u8.wrap (48 + d)).toNat else UInt8.ofNat (IntKind.u8.wrap (IntKind.u8.wrap (97 + d) - 10)).toNat
abbrev TO := Option (DenL [.str])
noncomputable def stepH (n i : Int) (o : List UInt8) (nx : List UInt8 → TO) (fin : TO) : TO :=
  bif decide (i ≥ 0) then gd [decide (0 ≤ 4 * i), decide (inK .i64 (4 * i))] (bif decide (dig1 n i < 10) then
      gd [decide (inK .i64 (i - 1)), decide ((2 * (o.length + [UInt8.ofNat (IntKind.u8.wrap (48 + dig1 n i)).toNat].length) + 400) * 1 ≤ 281474976710656), decide (inK .u8 (IntKind.u8.wrap (48 + dig1 n i)))] (nx (o ++ [UInt8.ofNat (IntKind.u8.wrap (48 + dig1 n i)).toNat]))
    else gd [decide (inK .i64 (i - 1)), decide ((2 * (o.length + [UInt8.ofNat (IntKind.u8.wrap (IntKind.u8.wrap (97 + dig1 n i) - 10)).toNat].length) + 400) * 1 ≤ 281474976710656), decide (inK .u8 (IntKind.u8.wrap (IntKind.u8.wrap (97 + dig1 n i) - 10)))] (nx (o ++ [UInt8.ofNat (IntKind.u8.wrap (IntKind.u8.wrap (97 + dig1 n i) - 10)).toNat])))
  else fin
end Nice
namespace Go.Proofs.YtnblkjapeiaedaaGreatDoor
open Go Go.Eng Nice Go.RowKit
set_option maxRecDepth 1000000
abbrev shgon : List (Nat × List (Nat × Sh)) := [(4, [(0, (.one .sym)), (4, (.one .sym)), (10, (.one (.dat .byte))), (11, (.one .sym)), (12, (.one .sym))])]
noncomputable def hgon (k : Nat) (a b c d : Nat) (l : List UInt8) (m i : Int) : Option (DenL [.cx]) := rH Tryz.prog (envS [(113, mayS), (190, gaddS), (191, gmulS)]) (shOf shgon) Tryz.f140 [.cx] k 0 [(0, sy (.complex .f64 a b)), (4, sy (.complex .f64 c d)), (10, dt 10), (11, sy (.int .i64 m)), (12, sy (.int .i64 i))] [.dat .byte l]
noncomputable def ogon (x : DenL [.cx, .slice .byte]) : Option (DenL [.cx]) := fO Tryz.prog (envS [(113, mayS), (190, gaddS), (191, gmulS)]) (shOf shgon) Tryz.f140 [.cx, .slice .byte] [.cx] x
theorem egon_g (N : Nat) (a b : Nat) (l : List UInt8) : fON Tryz.prog (envS [(113, mayS), (190, gaddS), (191, gmulS)]) (shOf shgon) Tryz.f140 [.cx, .slice .byte] [.cx] N ((a, b), l, ()) =
  (bif mayW a b then gd [finW a && finW b] (hgon N a b 0 0 l (l.length : Int) 0) else gd [finW a && finW b] (some ((0, 0), ()))) := by kernel_rfl
theorem ogon_g (x : DenL [.cx, .slice .byte]) : ogon x = fON Tryz.prog (envS [(113, mayS), (190, gaddS), (191, gmulS)]) (shOf shgon) Tryz.f140 [.cx, .slice .byte] [.cx] heads0 x := rfl
theorem egon_0 (k : Nat) (a b c d : Nat) (l : List UInt8) (m i : Int) : hgon (k + 1) a b c d l m i =
  (bif decide (i < m) then gd [decide (inK .i64 (i + 1)), okC (cf (zmulN (cz (a, b)) (cz (4613937818241073152, 4617315517961601024)))) && okC (fA .add (fN ((l.getD i.toNat Ty.byte.dflt).toNat : Int)) 4607182418800017408, 0), fOk .add (fN ((l.getD i.toNat Ty.byte.dflt).toNat : Int)) 4607182418800017408, okC (a, b) && okC (4613937818241073152, 4617315517961601024), decide (i.toNat < l.length), decide (0 ≤ i), decide (i < (l.length : Int))]
    (hgon k (cf (zaddN (cz (cf (zmulN (cz (a, b)) (cz (4613937818241073152, 4617315517961601024))))) (cz (fA .add (fN ((l.getD i.toNat Ty.byte.dflt).toNat : Int)) 4607182418800017408, 0)))).1 (cf (zaddN (cz (cf (zmulN (cz (a, b)) (cz (4613937818241073152, 4617315517961601024))))) (cz (fA .add (fN ((l.getD i.toNat Ty.byte.dflt).toNat : Int)) 4607182418800017408, 0)))).2 c d l m (i + 1))
  else some ((a, b), ())) := by kernel_rfl
theorem gon_l (c d : Nat) (l : List UInt8) (hl : l.length ≤ 140737488355328) : ∀ (r i k : Nat) (z : ZW), l.length = i + r → r < k → (0 ≤ z.1 ∧ z.1 < 65521) → (0 ≤ z.2.1 ∧ z.2.1 < 65521) → hgon k (cf z).1 (cf z).2 c d l (l.length : Int) (i : Int) = some (cf (onN z (l.drop i)), ()) := by
  intro r
  induction r with
  | zero =>
    intro i k z hi hk h1 h2
    obtain ⟨k, rfl⟩ : ∃ m, k = m + 1 := ⟨k - 1, by omega⟩
    rw [egon_0, cdF (by omega), List.drop_eq_nil_of_le (by omega)]; rfl
  | succ r ih =>
    intro i k z hi hk h1 h2
    obtain ⟨k, rfl⟩ : ∃ m, k = m + 1 := ⟨k - 1, by omega⟩
    have hlt : i < l.length := by omega
    have hd : l.drop i = l.getD i Ty.byte.dflt :: l.drop (i + 1) := by
      rw [List.drop_eq_getElem_cons hlt, List.getD_eq_getElem?_getD, List.getElem?_eq_getElem hlt]; rfl
    have hb := (l.getD i Ty.byte.dflt).toNat_lt
    obtain ⟨g1, g2⟩ := zadd_m (zmulN z (3, 5, ())) (((l.getD i Ty.byte.dflt).toNat : Int) + 1, 0, ())
    obtain ⟨q1, q2⟩ := zmul_m z (3, 5, ())
    have key := ih (i + 1) k (stepZ z (l.getD i Ty.byte.dflt)) (by omega) (by omega) g1 g2
    simp only [Int.natCast_add, Int.natCast_one] at key
    obtain ⟨p1, p2⟩ := fAdd (a := ((l.getD i Ty.byte.dflt).toNat : Int)) (b := 1) (by omega) (by omega) (by omega)
    have e1 : cz ((cf z).1, (cf z).2) = z := cz_cf h1 h2
    have e2 : cz (4613937818241073152, 4617315517961601024) = (3, 5, ()) := by
      rw [c3, c5]; exact cz_cf (z := (3, 5, ())) (by decide) (by decide)
    have e3 : cz (fN (((l.getD i Ty.byte.dflt).toNat : Int) + 1), 0) = (((l.getD i Ty.byte.dflt).toNat : Int) + 1, 0, ()) := cz_cf (z := (((l.getD i Ty.byte.dflt).toNat : Int) + 1, 0, ())) ⟨by show (0 : Int) ≤ _ + 1; omega, by show _ + (1 : Int) < _; omega⟩ ⟨Int.le_refl 0, (by decide : (0 : Int) < 65521)⟩
    have o1 : okC ((cf z).1, (cf z).2) = true := okC_cf h1 h2
    have o2 : okC (4613937818241073152, 4617315517961601024) = true := by
      rw [c3, c5]; exact okC_cf (z := (3, 5, ())) (by decide) (by decide)
    have o3 : okC (fN (((l.getD i Ty.byte.dflt).toNat : Int) + 1), 0) = true := okC_cf (z := (((l.getD i Ty.byte.dflt).toNat : Int) + 1, 0, ())) ⟨by show (0 : Int) ≤ _ + 1; omega, by show _ + (1 : Int) < _; omega⟩ ⟨Int.le_refl 0, (by decide : (0 : Int) < 65521)⟩
    have o4 := okC_cf q1 q2
    rw [egon_0, cdT (by omega), show (i : Int).toNat = i from rfl]
    rw [← c1] at p1 p2
    rw [p2, e1, e2, e3, cz_cf q1 q2, gdT (inK_i64.2 ⟨by omega, by omega⟩), gdB (by rw [o4, o3]; rfl), gdB p1, gdB (by rw [o1, o2]; rfl), gdT hlt, gdT (by omega), gdT (by omega), xG, hd]
    exact key
theorem gon_c : PC 140 gonS := (pureO (sh := shOf shgon) (envS_ok (l := [(113, mayS), (190, gaddS), (191, gmulS)]) ⟨may_c, gadd_c, gmul_c, trivial⟩) gl_ne Tryz.func140 (by kernel_rfl) (by decide)).nice fun ⟨z, l, ()⟩ h => by
  have h : (okC z && bndS l) = true := h
  rw [Bool.and_eq_true] at h
  have hl : l.length ≤ 140737488355328 := of_decide_eq_true h.2
  obtain ⟨a, b, ha, hb, rfl⟩ := okC_iff h.1
  obtain ⟨m1, m2⟩ := may_ok ha.1 ha.2 hb.1 hb.2
  show ogon _ = some (cf (onN (un (fN a), un (fN b), ()) l), ())
  rw [ogon_g, egon_g, m2, xT, gdB m1, xG, un_fN (by omega), un_fN (by omega)]
  exact gon_l 0 0 l hl l.length 0 heads0 (a, b, ()) (by omega) (by unfold heads0; omega) ⟨ha.1, by show a < 65521; omega⟩ ⟨hb.1, by show b < 65521; omega⟩
noncomputable def ogmark (x : DenL [.slice .byte]) : Option (DenL [.cx]) := fO Tryz.prog (envS [(140, gonS)]) (shOf []) Tryz.f108 [.slice .byte] [.cx] x
theorem egmark (l : List UInt8) : ogmark (l, ()) = gd [okC (0, 4607182418800017408) && bndS l] (some (cf (onN (cz (0, 4607182418800017408)) l), ())) := by kernel_rfl
theorem gmark_c : PC 108 gmarkS := (pureO (envS_ok (l := [(140, gonS)]) ⟨gon_c, trivial⟩) gl_ne Tryz.func108 (by kernel_rfl) (by decide)).nice fun ⟨l, ()⟩ h => by
  have h : bndS l = true := h
  have e : cz (0, 4607182418800017408) = (0, 1, ()) := by
    rw [c1]; exact cz_cf (z := (0, 1, ())) (by decide) (by decide)
  have o : okC (0, 4607182418800017408) = true := by
    rw [c1]; exact okC_cf (z := (0, 1, ())) (by decide) (by decide)
  show ogmark _ = some (cf (onN (0, 1, ()) l), ())
  rw [egmark, e, gdB (by rw [o, h]; rfl), xG]
/-! ### as text -/
abbrev shgt : List (Nat × List (Nat × Sh)) := [(9, [(2, (.one .sym)), (3, (.one (.vec .byte 5))), (6, (.one .sym)), (7, (.one .sym)), (16, (.agg [.sym, .sym])), (17, (.one .any))])]
noncomputable def hgt (k : Nat) (j : Int) (t o : List UInt8) (n i : Int) (a b : Nat) : TO := rH Tryz.prog (envS [(113, mayS)]) (shOf shgt) Tryz.f107 [.str] k 1 [(2, sy (.string (bs t))), (3, dt 10), (6, sy (.int .i64 n)), (7, sy (.int .i64 i)), (16, .agg #[sy (.float .f64 a), sy (.float .f64 b)]), (17, .int .i64 j)] [.vec .byte o 5]
noncomputable def ogt (x : DenL [.cx]) : TO := fO Tryz.prog (envS [(113, mayS)]) (shOf shgt) Tryz.f107 [.cx] [.str] x
theorem ogt_g (x : DenL [.cx]) : ogt x = fON Tryz.prog (envS [(113, mayS)]) (shOf shgt) Tryz.f107 [.cx] [.str] heads0 x := rfl
theorem egt_g (N : Nat) (a b : Nat) : fON Tryz.prog (envS [(113, mayS)]) (shOf shgt) Tryz.f107 [.cx] [.str] N ((a, b), ()) =
  (bif mayW a b then gd [(fIv a .i64).isSome, finW a && finW b] (hgt N 0 [] [] ((fIv a .i64).getD 0) 3 a b) else gd [finW a && finW b] (some ([], ()))) := by kernel_rfl
theorem egt_0 (k : Nat) (t o : List UInt8) (n i : Int) (a b : Nat) : hgt (k + 1) 0 t o n i a b = stepH n i o (fun o' => hgt k 0 t o' n (i - 1) a b) (gd [(fIv b .i64).isSome] (hgt k 1 t o ((fIv b .i64).getD 0) 3 a b)) := by kernel_rfl
theorem egt_1 (k : Nat) (t o : List UInt8) (n i : Int) (a b : Nat) : hgt (k + 1) 1 t o n i a b = stepH n i o (fun o' => hgt k 1 t o' n (i - 1) a b) (some (o, ())) := by kernel_rfl
end Go.Proofs.YtnblkjapeiaedaaGreatDoor
namespace Nice
open Go Go.Eng
theorem dig1_eq {n k : Nat} {i : Int} (hn : n < 65536) (hk : (4 * i).toNat = k) (h12 : k ≤ 12) : dig1 (n : Int) i = ((n / 2 ^ k % 16 : Nat) : Int) := by
  unfold dig1
  rw [hk, Nat.min_eq_left (by omega)]
  have e1 : ((n : Int).fdiv (2 ^ k)) = ((n / 2 ^ k : Nat) : Int) := by
    have hp : (2 : Int) ^ k = ((2 ^ k : Nat) : Int) := by rw [Int.natCast_pow]; rfl
    rw [hp, Int.fdiv_eq_ediv_of_nonneg _ (Int.natCast_nonneg _), Int.natCast_ediv]
  have hm : n / 2 ^ k ≤ n := Nat.div_le_self ..
  rw [e1]
  generalize n / 2 ^ k = q at hm ⊢
  have e2 : ((q : Int) % 18446744073709551616).toNat = q := by omega
  have e3 : Nat.bitwise and q 15 = q % 16 := Nat.and_two_pow_sub_one_eq_mod q 4
  rw [e2, e3, wrap_inK (inK_i64.2 ⟨by omega, by omega⟩), wrap_inK (inK_u8.2 ⟨by omega, by omega⟩)]
theorem chr_all : (List.range 16).all (fun d => chr1 (d : Int) == hexD (d : Int)) = true := by kernel_rfl
theorem chr_eq {d : Nat} (h : d < 16) : chr1 (d : Int) = hexD (d : Int) := beq_iff_eq.1 (List.all_eq_true.1 chr_all d (List.mem_range.2 h))
theorem four_eq {n : Nat} (hn : n < 65536) : fourN (n : Int) = [chr1 (dig1 (n : Int) 3), chr1 (dig1 (n : Int) 2), chr1 (dig1 (n : Int) 1), chr1 (dig1 (n : Int) 0)] := by
  rw [dig1_eq (k := 12) hn rfl (by decide), dig1_eq (k := 8) hn rfl (by decide), dig1_eq (k := 4) hn rfl (by decide), dig1_eq (k := 0) hn rfl (by decide), chr_eq (Nat.mod_lt _ (by decide)), chr_eq (Nat.mod_lt _ (by decide)), chr_eq (Nat.mod_lt _ (by decide)), chr_eq (Nat.mod_lt _ (by decide))]
  have t : ∀ a b : Nat, ((a : Int).tdiv (b : Int)).tmod 16 = ((a / b % 16 : Nat) : Int) := fun a b => by
    rw [Int.tdiv_eq_ediv_of_nonneg (Int.natCast_nonneg a), ← Int.natCast_ediv, Int.tmod_eq_emod_of_nonneg (Int.natCast_nonneg _)]; rfl
  unfold fourN
  have t0 : ((n : Int)).tmod 16 = ((n / 1 % 16 : Nat) : Int) := by
    rw [Int.tmod_eq_emod_of_nonneg (Int.natCast_nonneg _), Nat.div_one]; rfl
  rw [t0, show ((n : Int).tdiv 4096).tmod 16 = _ from t n 4096, show ((n : Int).tdiv 256).tmod 16 = _ from t n 256, show ((n : Int).tdiv 16).tmod 16 = _ from t n 16]
theorem stepH_n {n : Nat} {i : Int} {o : List UInt8} {nx : List UInt8 → TO} {fin : TO} (h0 : 0 ≤ i) (h3 : i ≤ 3) (ho : o.length ≤ 100) : stepH (n : Int) i o nx fin = nx (o ++ [chr1 (dig1 (n : Int) i)]) := by
  unfold stepH chr1
  rw [cdT h0, gdT (by omega), gdT (inK_i64.2 ⟨by omega, by omega⟩), xG]
  by_cases h : dig1 (n : Int) i < 10
  · rw [cdT h, cdT h, gdT (inK_i64.2 ⟨by omega, by omega⟩), gdT (by rw [List.length_singleton]; omega), gdT (inK_u8.2 (by rw [wrap_u8]; omega)), xG]
  · rw [cdF h, cdF h, gdT (inK_i64.2 ⟨by omega, by omega⟩), gdT (by rw [List.length_singleton]; omega), gdT (inK_u8.2 (by rw [wrap_u8]; omega)), xG]
theorem stepH_f {n i : Int} {o : List UInt8} {nx : List UInt8 → TO} {fin : TO} (h0 : ¬ i ≥ 0) : stepH n i o nx fin = fin := by
  unfold stepH
  rw [cdF h0]
end Nice
namespace Go.Proofs.YtnblkjapeiaedaaGreatDoor
open Go Go.Eng Nice Go.RowKit
set_option maxRecDepth 1000000
theorem gt_0 (k : Nat) (t o : List UInt8) {n : Nat} (hn : n < 65536) (ho : o.length ≤ 50) (a b : Nat) : hgt (k + 5) 0 t o (n : Int) 3 a b = gd [(fIv b .i64).isSome] (hgt k 1 t (o ++ fourN (n : Int)) ((fIv b .i64).getD 0) 3 a b) := by
  have l : ∀ (o : List UInt8) (x : UInt8), (o ++ [x]).length = o.length + 1 := fun o x => by rw [List.length_append]; rfl
  rw [egt_0, stepH_n (by decide) (by decide) (by omega)]
  show hgt (k + 4) 0 t (o ++ [chr1 (dig1 (n : Int) 3)]) (n : Int) 2 a b = _
  rw [egt_0, stepH_n (by decide) (by decide) (by rw [l]; omega)]
  show hgt (k + 3) 0 t (o ++ [chr1 (dig1 (n : Int) 3)] ++ [chr1 (dig1 (n : Int) 2)]) (n : Int) 1 a b = _
  rw [egt_0, stepH_n (by decide) (by decide) (by rw [l, l]; omega)]
  show hgt (k + 2) 0 t (o ++ [chr1 (dig1 (n : Int) 3)] ++ [chr1 (dig1 (n : Int) 2)] ++ [chr1 (dig1 (n : Int) 1)]) (n : Int) 0 a b = _
  rw [egt_0, stepH_n (by decide) (by decide) (by rw [l, l, l]; omega)]
  show hgt (k + 1) 0 t (o ++ [chr1 (dig1 (n : Int) 3)] ++ [chr1 (dig1 (n : Int) 2)] ++ [chr1 (dig1 (n : Int) 1)] ++ [chr1 (dig1 (n : Int) 0)]) (n : Int) (-1) a b = _
  rw [egt_0, stepH_f (by decide), four_eq hn]
  simp only [List.append_assoc, List.cons_append, List.nil_append]
theorem gt_1 (k : Nat) (t o : List UInt8) {n : Nat} (hn : n < 65536) (ho : o.length ≤ 50) (a b : Nat) : hgt (k + 5) 1 t o (n : Int) 3 a b = some (o ++ fourN (n : Int), ()) := by
  have l : ∀ (o : List UInt8) (x : UInt8), (o ++ [x]).length = o.length + 1 := fun o x => by rw [List.length_append]; rfl
  rw [egt_1, stepH_n (by decide) (by decide) (by omega)]
  show hgt (k + 4) 1 t (o ++ [chr1 (dig1 (n : Int) 3)]) (n : Int) 2 a b = _
  rw [egt_1, stepH_n (by decide) (by decide) (by rw [l]; omega)]
  show hgt (k + 3) 1 t (o ++ [chr1 (dig1 (n : Int) 3)] ++ [chr1 (dig1 (n : Int) 2)]) (n : Int) 1 a b = _
  rw [egt_1, stepH_n (by decide) (by decide) (by rw [l, l]; omega)]
  show hgt (k + 2) 1 t (o ++ [chr1 (dig1 (n : Int) 3)] ++ [chr1 (dig1 (n : Int) 2)] ++ [chr1 (dig1 (n : Int) 1)]) (n : Int) 0 a b = _
  rw [egt_1, stepH_n (by decide) (by decide) (by rw [l, l, l]; omega)]
  show hgt (k + 1) 1 t (o ++ [chr1 (dig1 (n : Int) 3)] ++ [chr1 (dig1 (n : Int) 2)] ++ [chr1 (dig1 (n : Int) 1)] ++ [chr1 (dig1 (n : Int) 0)]) (n : Int) (-1) a b = _
  rw [egt_1, stepH_f (by decide), four_eq hn]
  simp only [List.append_assoc, List.cons_append, List.nil_append]
theorem heads_10 : ∃ m, heads0 = m + 5 + 5 := ⟨heads0 - 10, by unfold heads0; omega⟩
theorem gtext_c : PC 107 gtextS := (pureO (sh := shOf shgt) (envS_ok (l := [(113, mayS)]) ⟨may_c, trivial⟩) gl_ne Tryz.func107 (by kernel_rfl) (by decide)).nice fun ⟨z, ()⟩ h => by
  obtain ⟨a, b, ha, hb, rfl⟩ := okC_iff h
  obtain ⟨m1, m2⟩ := may_ok ha.1 ha.2 hb.1 hb.2
  obtain ⟨n, rfl⟩ : ∃ n : Nat, a = (n : Int) := ⟨a.toNat, by omega⟩
  obtain ⟨m, rfl⟩ : ∃ n : Nat, b = (n : Int) := ⟨b.toNat, by omega⟩
  obtain ⟨K, hK⟩ := heads_10
  show ogt _ = some (fourN (un (fN (n : Int))) ++ fourN (un (fN (m : Int))), ())
  rw [ogt_g, egt_g, m2, xT, fint (by omega), gdB (b := (some (n : Int)).isSome) rfl, gdB m1, xG, Option.getD_some, hK, gt_0 _ _ _ (by omega) (by decide), fint (by omega), gdB (b := (some (m : Int)).isSome) rfl, xG, Option.getD_some, gt_1 _ _ _ (by omega) (by show ([] ++ fourN (n : Int)).length ≤ 50; exact (by decide : 4 ≤ 50)), un_fN (by omega), un_fN (by omega)]
  rfl
noncomputable def ogtag (x : DenL [.str]) : TO := fO Tryz.prog (envS [(107, gtextS), (108, gmarkS)]) (shOf []) Tryz.f71 [.str] [.str] x
theorem egtag (s : List UInt8) : ogtag (s, ()) = gd [okC (cf (markN s)), bndS s] (some (textN (cz (cf (markN s))), ())) := by kernel_rfl
theorem on_m : ∀ (s : List UInt8) (z : ZW), (0 ≤ z.1 ∧ z.1 < 65521) ∧ (0 ≤ z.2.1 ∧ z.2.1 < 65521) → (0 ≤ (onN z s).1 ∧ (onN z s).1 < 65521) ∧ (0 ≤ (onN z s).2.1 ∧ (onN z s).2.1 < 65521)
  | [], _, h => h
  | c :: s, z, _ => on_m s (stepZ z c) (zadd_m _ _)
theorem gtag_c : PC 71 gtagS := (pureO (envS_ok (l := [(107, gtextS), (108, gmarkS)]) ⟨gtext_c, gmark_c, trivial⟩) gl_ne Tryz.func71 (by kernel_rfl) (by decide)).nice fun ⟨s, ()⟩ h => by
  have h : bndS s = true := h
  obtain ⟨h1, h2⟩ := on_m s (0, 1, ()) ⟨by decide, by decide⟩
  show ogtag _ = some (textN (markN s), ())
  have o : okC (cf (markN s)) = true := okC_cf h1 h2
  have e : cz (cf (markN s)) = markN s := cz_cf h1 h2
  rw [egtag, gdB o, gdB h, xG, e]
end Go.Proofs.YtnblkjapeiaedaaGreatDoor
