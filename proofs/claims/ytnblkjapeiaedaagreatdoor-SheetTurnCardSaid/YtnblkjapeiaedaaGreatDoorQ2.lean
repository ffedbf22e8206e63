/-
  Part of the proof: ShKey ShEnt ShRev. No condition.
-/
import Derived.Test.YtnblkjapeiaedaaGreatDoorX0
import Derived.Test.YtnblkjapeiaedaaGreatDoorNiceK
namespace Go.Proofs.YtnblkjapeiaedaaGreatDoor
open Go Go.Eng Nice
set_option maxRecDepth 1000000
abbrev shkeyCh : List (Nat × List (Nat × Sh)) := []
noncomputable def okeyCh (x : DenL [.byte]) : Option (DenL [.bool]) := fO Tryz.prog (envS []) (shOf shkeyCh) Tryz.f74 [.byte] [.bool] x
theorem ekeyCh_g (N : Nat) (x0 : UInt8) : fON Tryz.prog (envS []) (shOf shkeyCh) Tryz.f74 [.byte] [.bool] N (x0, ()) =
  (bif decide ((↑x0.toNat : Int) ≥ (97 : Int)) then
    (bif decide ((↑x0.toNat : Int) ≤ (122 : Int)) then
      (some (true, PUnit.unit))
    else
      (bif decide ((↑x0.toNat : Int) ≥ (48 : Int)) then
        (bif decide ((↑x0.toNat : Int) ≤ (57 : Int)) then
          (some (true, PUnit.unit))
        else
          (bif (↑x0.toNat : Int) == (46 : Int) then
            (some (true, PUnit.unit))
          else
            (bif (↑x0.toNat : Int) == (45 : Int) then
              (some (true, PUnit.unit))
            else
              (bif (↑x0.toNat : Int) == (95 : Int) then
                (some (true, PUnit.unit))
              else
                (bif (↑x0.toNat : Int) == (47 : Int) then
                  (some (true, PUnit.unit))
                else
                  (some (false, PUnit.unit)))))))
      else
        (bif (↑x0.toNat : Int) == (46 : Int) then
          (some (true, PUnit.unit))
        else
          (bif (↑x0.toNat : Int) == (45 : Int) then
            (some (true, PUnit.unit))
          else
            (bif (↑x0.toNat : Int) == (95 : Int) then
              (some (true, PUnit.unit))
            else
              (bif (↑x0.toNat : Int) == (47 : Int) then
                (some (true, PUnit.unit))
              else
                (some (false, PUnit.unit))))))))
  else
    (bif decide ((↑x0.toNat : Int) ≥ (48 : Int)) then
      (bif decide ((↑x0.toNat : Int) ≤ (57 : Int)) then
        (some (true, PUnit.unit))
      else
        (bif (↑x0.toNat : Int) == (46 : Int) then
          (some (true, PUnit.unit))
        else
          (bif (↑x0.toNat : Int) == (45 : Int) then
            (some (true, PUnit.unit))
          else
            (bif (↑x0.toNat : Int) == (95 : Int) then
              (some (true, PUnit.unit))
            else
              (bif (↑x0.toNat : Int) == (47 : Int) then
                (some (true, PUnit.unit))
              else
                (some (false, PUnit.unit)))))))
    else
      (bif (↑x0.toNat : Int) == (46 : Int) then
        (some (true, PUnit.unit))
      else
        (bif (↑x0.toNat : Int) == (45 : Int) then
          (some (true, PUnit.unit))
        else
          (bif (↑x0.toNat : Int) == (95 : Int) then
            (some (true, PUnit.unit))
          else
            (bif (↑x0.toNat : Int) == (47 : Int) then
              (some (true, PUnit.unit))
            else
              (some (false, PUnit.unit)))))))) := by kernel_rfl
theorem ekeyCh (x0 : UInt8) : okeyCh (x0, ()) =
  (bif decide ((↑x0.toNat : Int) ≥ (97 : Int)) then
    (bif decide ((↑x0.toNat : Int) ≤ (122 : Int)) then
      (some (true, PUnit.unit))
    else
      (bif decide ((↑x0.toNat : Int) ≥ (48 : Int)) then
        (bif decide ((↑x0.toNat : Int) ≤ (57 : Int)) then
          (some (true, PUnit.unit))
        else
          (bif (↑x0.toNat : Int) == (46 : Int) then
            (some (true, PUnit.unit))
          else
            (bif (↑x0.toNat : Int) == (45 : Int) then
              (some (true, PUnit.unit))
            else
              (bif (↑x0.toNat : Int) == (95 : Int) then
                (some (true, PUnit.unit))
              else
                (bif (↑x0.toNat : Int) == (47 : Int) then
                  (some (true, PUnit.unit))
                else
                  (some (false, PUnit.unit)))))))
      else
        (bif (↑x0.toNat : Int) == (46 : Int) then
          (some (true, PUnit.unit))
        else
          (bif (↑x0.toNat : Int) == (45 : Int) then
            (some (true, PUnit.unit))
          else
            (bif (↑x0.toNat : Int) == (95 : Int) then
              (some (true, PUnit.unit))
            else
              (bif (↑x0.toNat : Int) == (47 : Int) then
                (some (true, PUnit.unit))
              else
                (some (false, PUnit.unit))))))))
  else
    (bif decide ((↑x0.toNat : Int) ≥ (48 : Int)) then
      (bif decide ((↑x0.toNat : Int) ≤ (57 : Int)) then
        (some (true, PUnit.unit))
      else
        (bif (↑x0.toNat : Int) == (46 : Int) then
          (some (true, PUnit.unit))
        else
          (bif (↑x0.toNat : Int) == (45 : Int) then
            (some (true, PUnit.unit))
          else
            (bif (↑x0.toNat : Int) == (95 : Int) then
              (some (true, PUnit.unit))
            else
              (bif (↑x0.toNat : Int) == (47 : Int) then
                (some (true, PUnit.unit))
              else
                (some (false, PUnit.unit)))))))
    else
      (bif (↑x0.toNat : Int) == (46 : Int) then
        (some (true, PUnit.unit))
      else
        (bif (↑x0.toNat : Int) == (45 : Int) then
          (some (true, PUnit.unit))
        else
          (bif (↑x0.toNat : Int) == (95 : Int) then
            (some (true, PUnit.unit))
          else
            (bif (↑x0.toNat : Int) == (47 : Int) then
              (some (true, PUnit.unit))
            else
              (some (false, PUnit.unit)))))))) := ekeyCh_g heads0 x0
abbrev shdKey : List (Nat × List (Nat × Sh)) := [(2, [(0, (.one .sym)), (2, (.one .sym)), (5, (.one .sym)), (6, (.one .sym))])]
noncomputable def hdKey_0 (n : Nat) (t0 : List UInt8) (t2 : Bool) (t5 : Int) (t6 : Int) : Option (DenL [.bool]) := rH Tryz.prog (envS [(74, keyChS)]) (shOf shdKey) Tryz.f48 [.bool] n 0 [(0, sy (.string (bs t0))), (2, .bool t2), (5, sy (.int .i64 t5)), (6, sy (.int .i64 t6))] []
noncomputable def odKey (x : DenL [.str]) : Option (DenL [.bool]) := fO Tryz.prog (envS [(74, keyChS)]) (shOf shdKey) Tryz.f48 [.str] [.bool] x
theorem edKey_g (N : Nat) (x0 : List UInt8) : fON Tryz.prog (envS [(74, keyChS)]) (shOf shdKey) Tryz.f48 [.str] [.bool] N (x0, ()) =
  (hdKey_0 N (x0) (false) ((↑x0.length : Int)) ((0 : Int))) := by kernel_rfl
theorem edKey (x0 : List UInt8) : odKey (x0, ()) =
  (hdKey_0 heads0 (x0) (false) ((↑x0.length : Int)) ((0 : Int))) := edKey_g heads0 x0
theorem edKey_0 (n : Nat) (t0 : List UInt8) (t2 : Bool) (t5 : Int) (t6 : Int) : hdKey_0 (n + 1) t0 t2 t5 t6 =
  (bif decide (t6 < t5) then
    (bif keyCh (UInt8.ofNat (↑(t0.getD t6.toNat 0).toNat : Int).toNat) then
      (gd [decide (inK IntKind.i64 (t6 + (1 : Int))), decide (inK IntKind.u8 (↑(t0.getD t6.toNat 0).toNat : Int)), decide ((0 : Int) ≤ t6), decide (t6 < (↑t0.length : Int))] (hdKey_0 n (t0) (t2) (t5) (t6 + (1 : Int))))
    else
      (gd [decide (inK IntKind.u8 (↑(t0.getD t6.toNat 0).toNat : Int)), decide ((0 : Int) ≤ t6), decide (t6 < (↑t0.length : Int))] (some (false, PUnit.unit))))
  else
    (bif decide ((↑t0.length : Int) ≥ (1 : Int)) then
      (bif decide ((↑t0.length : Int) ≤ (40 : Int)) then
        (some (true, PUnit.unit))
      else
        (some (false, PUnit.unit)))
    else
      (some (false, PUnit.unit)))) := by kernel_rfl
abbrev shrKey : List (Nat × List (Nat × Sh)) := [(2, [(0, (.one .sym)), (2, (.one .sym)), (3, (.one .sym))])]
noncomputable def hrKey_0 (n : Nat) (t0 : List UInt8) (t2 : Bool) (t3 : Int) : Option (DenL [.bool]) := rH Tryz.prog (envS []) (shOf shrKey) Tryz.f52 [.bool] n 0 [(0, sy (.string (bs t0))), (2, .bool t2), (3, sy (.int .i64 t3))] []
noncomputable def orKey (x : DenL [.str]) : Option (DenL [.bool]) := fO Tryz.prog (envS []) (shOf shrKey) Tryz.f52 [.str] [.bool] x
theorem erKey_g (N : Nat) (x0 : List UInt8) : fON Tryz.prog (envS []) (shOf shrKey) Tryz.f52 [.str] [.bool] N (x0, ()) =
  (hrKey_0 N (x0) (false) ((0 : Int))) := by kernel_rfl
theorem erKey (x0 : List UInt8) : orKey (x0, ()) =
  (hrKey_0 heads0 (x0) (false) ((0 : Int))) := erKey_g heads0 x0
theorem erKey_0 (n : Nat) (t0 : List UInt8) (t2 : Bool) (t3 : Int) : hrKey_0 (n + 1) t0 t2 t3 =
  (bif decide (t3 < (↑t0.length : Int)) then
    (gd [decide ((0 : Int) ≤ t3), decide (t3 < (↑t0.length : Int))] (bif decide ((↑(t0.getD t3.toNat 0).toNat : Int) < (97 : Int)) then
      (bif decide ((↑(t0.getD t3.toNat 0).toNat : Int) < (48 : Int)) then
        (bif (↑(t0.getD t3.toNat 0).toNat : Int) != (46 : Int) then
          (bif (↑(t0.getD t3.toNat 0).toNat : Int) != (45 : Int) then
            (bif (↑(t0.getD t3.toNat 0).toNat : Int) != (95 : Int) then
              (bif (↑(t0.getD t3.toNat 0).toNat : Int) != (47 : Int) then
                (some (false, PUnit.unit))
              else
                (gd [decide (inK IntKind.i64 (t3 + (1 : Int)))] (hrKey_0 n (t0) (t2) (t3 + (1 : Int)))))
            else
              (gd [decide (inK IntKind.i64 (t3 + (1 : Int)))] (hrKey_0 n (t0) (t2) (t3 + (1 : Int)))))
          else
            (gd [decide (inK IntKind.i64 (t3 + (1 : Int)))] (hrKey_0 n (t0) (t2) (t3 + (1 : Int)))))
        else
          (gd [decide (inK IntKind.i64 (t3 + (1 : Int)))] (hrKey_0 n (t0) (t2) (t3 + (1 : Int)))))
      else
        (bif decide ((↑(t0.getD t3.toNat 0).toNat : Int) > (57 : Int)) then
          (bif (↑(t0.getD t3.toNat 0).toNat : Int) != (46 : Int) then
            (bif (↑(t0.getD t3.toNat 0).toNat : Int) != (45 : Int) then
              (bif (↑(t0.getD t3.toNat 0).toNat : Int) != (95 : Int) then
                (bif (↑(t0.getD t3.toNat 0).toNat : Int) != (47 : Int) then
                  (some (false, PUnit.unit))
                else
                  (gd [decide (inK IntKind.i64 (t3 + (1 : Int)))] (hrKey_0 n (t0) (t2) (t3 + (1 : Int)))))
              else
                (gd [decide (inK IntKind.i64 (t3 + (1 : Int)))] (hrKey_0 n (t0) (t2) (t3 + (1 : Int)))))
            else
              (gd [decide (inK IntKind.i64 (t3 + (1 : Int)))] (hrKey_0 n (t0) (t2) (t3 + (1 : Int)))))
          else
            (gd [decide (inK IntKind.i64 (t3 + (1 : Int)))] (hrKey_0 n (t0) (t2) (t3 + (1 : Int)))))
        else
          (gd [decide (inK IntKind.i64 (t3 + (1 : Int)))] (hrKey_0 n (t0) (t2) (t3 + (1 : Int))))))
    else
      (bif decide ((↑(t0.getD t3.toNat 0).toNat : Int) > (122 : Int)) then
        (bif decide ((↑(t0.getD t3.toNat 0).toNat : Int) < (48 : Int)) then
          (bif (↑(t0.getD t3.toNat 0).toNat : Int) != (46 : Int) then
            (bif (↑(t0.getD t3.toNat 0).toNat : Int) != (45 : Int) then
              (bif (↑(t0.getD t3.toNat 0).toNat : Int) != (95 : Int) then
                (bif (↑(t0.getD t3.toNat 0).toNat : Int) != (47 : Int) then
                  (some (false, PUnit.unit))
                else
                  (gd [decide (inK IntKind.i64 (t3 + (1 : Int)))] (hrKey_0 n (t0) (t2) (t3 + (1 : Int)))))
              else
                (gd [decide (inK IntKind.i64 (t3 + (1 : Int)))] (hrKey_0 n (t0) (t2) (t3 + (1 : Int)))))
            else
              (gd [decide (inK IntKind.i64 (t3 + (1 : Int)))] (hrKey_0 n (t0) (t2) (t3 + (1 : Int)))))
          else
            (gd [decide (inK IntKind.i64 (t3 + (1 : Int)))] (hrKey_0 n (t0) (t2) (t3 + (1 : Int)))))
        else
          (bif decide ((↑(t0.getD t3.toNat 0).toNat : Int) > (57 : Int)) then
            (bif (↑(t0.getD t3.toNat 0).toNat : Int) != (46 : Int) then
              (bif (↑(t0.getD t3.toNat 0).toNat : Int) != (45 : Int) then
                (bif (↑(t0.getD t3.toNat 0).toNat : Int) != (95 : Int) then
                  (bif (↑(t0.getD t3.toNat 0).toNat : Int) != (47 : Int) then
                    (some (false, PUnit.unit))
                  else
                    (gd [decide (inK IntKind.i64 (t3 + (1 : Int)))] (hrKey_0 n (t0) (t2) (t3 + (1 : Int)))))
                else
                  (gd [decide (inK IntKind.i64 (t3 + (1 : Int)))] (hrKey_0 n (t0) (t2) (t3 + (1 : Int)))))
              else
                (gd [decide (inK IntKind.i64 (t3 + (1 : Int)))] (hrKey_0 n (t0) (t2) (t3 + (1 : Int)))))
            else
              (gd [decide (inK IntKind.i64 (t3 + (1 : Int)))] (hrKey_0 n (t0) (t2) (t3 + (1 : Int)))))
          else
            (gd [decide (inK IntKind.i64 (t3 + (1 : Int)))] (hrKey_0 n (t0) (t2) (t3 + (1 : Int))))))
      else
        (gd [decide (inK IntKind.i64 (t3 + (1 : Int)))] (hrKey_0 n (t0) (t2) (t3 + (1 : Int)))))))
  else
    (bif decide ((↑t0.length : Int) ≥ (1 : Int)) then
      (bif decide ((↑t0.length : Int) ≤ (40 : Int)) then
        (some (true, PUnit.unit))
      else
        (some (false, PUnit.unit)))
    else
      (some (false, PUnit.unit)))) := by kernel_rfl
theorem keyCh_iff {c : UInt8} : keyCh c = true ↔ (97 ≤ c.toNat ∧ c.toNat ≤ 122 ∨ 48 ≤ c.toNat ∧ c.toNat ≤ 57 ∨ c.toNat = 46 ∨ c.toNat = 45 ∨ c.toNat = 95 ∨ c.toNat = 47) := by
  unfold keyCh; rw [decide_eq_true_iff]
theorem keyCh_not {c : UInt8} : keyCh c = false ↔ ¬ (97 ≤ c.toNat ∧ c.toNat ≤ 122 ∨ 48 ≤ c.toNat ∧ c.toNat ≤ 57 ∨ c.toNat = 46 ∨ c.toNat = 45 ∨ c.toNat = 95 ∨ c.toNat = 47) := by
  unfold keyCh; rw [decide_eq_false_iff_not]
theorem beT {α : Type} {n m : Int} {a b : α} (h : n = m) : (bif n == m then a else b) = a := by subst h; rw [show (n == n) = true from beq_self_eq_true n]; rfl
theorem beF {α : Type} {n m : Int} {a b : α} (h : n ≠ m) : (bif n == m then a else b) = b := by rw [show (n == m) = false from beq_eq_false_iff_ne.2 h]; rfl
theorem bnT {α : Type} {n m : Int} {a b : α} (h : n ≠ m) : (bif n != m then a else b) = a := by rw [show (n != m) = true from bne_iff_ne.2 h]; rfl
theorem bnF {α : Type} {n m : Int} {a b : α} (h : n = m) : (bif n != m then a else b) = b := by rw [show (n != m) = false from by subst h; exact bne_self_eq_false n]; rfl
theorem key_cases (c : UInt8) : (c.toNat = 45 ∧ keyCh c = true) ∨ (c.toNat = 46 ∧ keyCh c = true) ∨ (c.toNat = 47 ∧ keyCh c = true) ∨ ((48 ≤ c.toNat ∧ c.toNat ≤ 57) ∧ keyCh c = true) ∨ (c.toNat = 95 ∧ keyCh c = true) ∨ ((97 ≤ c.toNat ∧ c.toNat ≤ 122) ∧ keyCh c = true) ∨
    (c.toNat < 45 ∧ keyCh c = false) ∨ ((57 < c.toNat ∧ c.toNat < 97 ∧ c.toNat ≠ 95) ∧ keyCh c = false) ∨ (122 < c.toNat ∧ keyCh c = false) := by
  by_cases h : keyCh c = true
  · have := keyCh_iff.1 h
    rw [h]
    simp only [and_true, reduceCtorEq, and_false, or_false]
    omega
  · have h : keyCh c = false := by simpa using h
    have := keyCh_not.1 h
    rw [h]
    simp only [and_true, reduceCtorEq, and_false, false_or]
    omega
theorem keyCh_n (c : UInt8) : okeyCh (c, ()) = some (keyCh c, ()) := by
  rw [ekeyCh]
  rcases key_cases c with ⟨h, e⟩ | ⟨h, e⟩ | ⟨h, e⟩ | ⟨h, e⟩ | ⟨h, e⟩ | ⟨h, e⟩ | ⟨h, e⟩ | ⟨h, e⟩ | ⟨h, e⟩ <;> rw [e] <;> simp (disch := omega) only [cdT, cdF, beT, beF]

theorem dKey_l (t2 : Bool) (s : List UInt8) (hl : s.length ≤ 140737488355328) : ∀ (rest done : List UInt8) (n : Nat), s = done ++ rest → rest.length < n → hdKey_0 n s t2 (s.length : Int) (done.length : Int) = some (rest.all keyCh && (decide (1 ≤ s.length) && decide (s.length ≤ 40)), ())
  | [], done, n, hs, hn => by
    obtain ⟨m, rfl⟩ : ∃ m, n = m + 1 := ⟨n - 1, by omega⟩
    have : s.length = done.length := by rw [hs]; simp
    rw [edKey_0, cdF (by omega)]
    simp only [List.all_nil, Bool.true_and]
    by_cases h1 : 1 ≤ s.length
    · rw [cdT (by omega)]
      by_cases h2 : s.length ≤ 40
      · rw [cdT (by omega)]; simp [h1, h2]
      · rw [cdF (by omega)]; simp [h1, h2]
    · rw [cdF (by omega)]; simp [h1]
  | c :: rest, done, n, hs, hn => by
    obtain ⟨m, rfl⟩ : ∃ m, n = m + 1 := ⟨n - 1, by omega⟩
    have hsl : s.length = done.length + (rest.length + 1) := by rw [hs]; simp
    simp only [List.length_cons] at hn
    have ih := dKey_l t2 s hl rest (done ++ [c]) m (by simp [hs]) (by omega)
    simp only [List.length_append, List.length_singleton, Int.natCast_add] at ih
    have hg : s.getD done.length 0 = c := by rw [hs, getD_mid]
    have hc := c.toNat_lt
    rw [edKey_0]
    simp only [Int.toNat_natCast, hg, UInt8.ofNat_toNat]
    rw [cdT (by omega)]
    cases hb : keyCh c
    · rw [cond_false]
      simp (disch := omega) only [gdT, gd_nil, inK_u8]
      simp [hb]
    · rw [cond_true]
      simp (disch := omega) only [gdT, gd_nil, inK_u8, inK_i64]
      simp only [List.all_cons, hb, Bool.true_and]
      exact ih
theorem dKey_n (s : List UInt8) (h : bndS s = true) : odKey (s, ()) = some (isKey s, ()) := by
  have h : s.length ≤ 140737488355328 := of_decide_eq_true h
  rw [edKey]
  exact dKey_l false s h s [] heads0 rfl (by unfold heads0; omega)
theorem rKey_l (t2 : Bool) (s : List UInt8) (hl : s.length ≤ 140737488355328) : ∀ (rest done : List UInt8) (n : Nat), s = done ++ rest → rest.length < n → hrKey_0 n s t2 (done.length : Int) = some (rest.all keyCh && (decide (1 ≤ s.length) && decide (s.length ≤ 40)), ())
  | [], done, n, hs, hn => by
    obtain ⟨m, rfl⟩ : ∃ m, n = m + 1 := ⟨n - 1, by omega⟩
    have : s.length = done.length := by rw [hs]; simp
    rw [erKey_0, cdF (by omega)]
    simp only [List.all_nil, Bool.true_and]
    by_cases h1 : 1 ≤ s.length
    · rw [cdT (by omega)]
      by_cases h2 : s.length ≤ 40
      · rw [cdT (by omega)]; simp [h1, h2]
      · rw [cdF (by omega)]; simp [h1, h2]
    · rw [cdF (by omega)]; simp [h1]
  | c :: rest, done, n, hs, hn => by
    obtain ⟨m, rfl⟩ : ∃ m, n = m + 1 := ⟨n - 1, by omega⟩
    have hsl : s.length = done.length + (rest.length + 1) := by rw [hs]; simp
    simp only [List.length_cons] at hn
    have ih := rKey_l t2 s hl rest (done ++ [c]) m (by simp [hs]) (by omega)
    simp only [List.length_append, List.length_singleton, Int.natCast_add] at ih
    have hg : s.getD done.length 0 = c := by rw [hs, getD_mid]
    have hc := c.toNat_lt
    rw [erKey_0]
    simp only [Int.toNat_natCast, hg]
    rcases key_cases c with ⟨h, e⟩ | ⟨h, e⟩ | ⟨h, e⟩ | ⟨h, e⟩ | ⟨h, e⟩ | ⟨h, e⟩ | ⟨h, e⟩ | ⟨h, e⟩ | ⟨h, e⟩ <;> simp (disch := omega) only [cdT, cdF, bnT, bnF, gdT, gd_nil, inK_i64] <;> simp only [List.all_cons, e, Bool.true_and, Bool.false_and] <;> first | rfl | exact ih
theorem rKey_n (s : List UInt8) (h : bndS s = true) : orKey (s, ()) = some (isKey s, ()) := by
  have h : s.length ≤ 140737488355328 := of_decide_eq_true h
  rw [erKey]
  exact rKey_l false s h s [] heads0 rfl (by unfold heads0; omega)
theorem keyCh_c : PC 74 keyChS := (pureO (envS_ok (l := []) trivial) gl_ne Tryz.func74 (by kernel_rfl) (by decide)).nice fun ⟨c, ()⟩ _ => keyCh_n c
theorem dKey_c : PC 48 isKeyS := (pureO (envS_ok (l := [(74, keyChS)]) ⟨keyCh_c, trivial⟩) gl_ne Tryz.func48 (by kernel_rfl) (by decide)).nice fun ⟨s, ()⟩ h => dKey_n s h
theorem rKey_c : PC 52 isKeyS := (pureO (envS_ok (l := []) trivial) gl_ne Tryz.func52 (by kernel_rfl) (by decide)).nice fun ⟨s, ()⟩ h => rKey_n s h
end Go.Proofs.YtnblkjapeiaedaaGreatDoor
namespace Nice
open Go Go.Eng
abbrev VerT : Ty := .pair (.int .i64) (.pair .bool (.pair .str .unit))
abbrev EntT : Ty := .pair .str (.pair (.slice VerT) .unit)
abbrev VerD : Type := Int × Bool × List UInt8 × Unit
abbrev EntD : Type := List UInt8 × List VerD × Unit
def verB (v : VerD) : Bool := decide (1 ≤ v.1) && (decide (v.1 ≤ 1099511627776) && (decide (v.2.2.1.length ≤ 300) && (!v.2.1 || v.2.2.1 == [])))
def riseV : Int → List VerD → Bool
  | _, [] => true
  | last, v :: r => verB v && (decide (last < v.1) && riseV v.1 r)
theorem riseV_cons (last : Int) (v : VerD) (r : List VerD) : riseV last (v :: r) = (verB v && (decide (last < v.1) && riseV v.1 r)) := rfl
def entB (e : EntD) : Bool := riseV 0 e.2.1 && (isKey e.1 && (decide (1 ≤ e.2.1.length) && decide (e.2.1.length ≤ 12)))
def entP (e : EntD) : Bool := bndS e.1 && decide (e.2.1.length ≤ 140737488355328)
noncomputable def verS : PSpec := ⟨[VerT], [.bool], fun _ => true, fun x => (verB x.1, ())⟩
noncomputable def entS : PSpec := ⟨[EntT], [.bool], fun x => entP x.1, fun x => (entB x.1, ())⟩
def cutV (v : VerD) : VerD := (v.1, v.2.1, cut v.2.2.1 302, ())
def lentN (e : EntD) : EntD := (cut e.1 42, (e.2.1.take 14).map cutV, ())
noncomputable def lentS : PSpec := ⟨[EntT], [EntT], fun x => decide (x.1.2.1.length ≤ 140737488355328), fun x => (lentN x.1, ())⟩
def verW (n : Int) (g : Bool) (b : List UInt8) : BO := bif decide (n ≥ 1) then (bif decide (n ≤ 1099511627776) then (bif decide ((b.length : Int) ≤ 300) then (bif g then (bif b == [] then bO true else bO false) else bO true) else bO false) else bO false) else bO false
theorem verW_n (n : Int) (g : Bool) (b : List UInt8) : verW n g b = some (verB (n, g, b, ()), ()) := by
  unfold verW verB
  dsimp only
  by_cases h1 : n ≥ 1
  · rw [cdT h1, decide_eq_true (show 1 ≤ n from h1), Bool.true_and]
    by_cases h2 : n ≤ 1099511627776
    · rw [cdT h2, decide_eq_true h2, Bool.true_and]
      by_cases h3 : b.length ≤ 300
      · rw [cdT (show (b.length : Int) ≤ 300 by omega), decide_eq_true h3, Bool.true_and]
        cases g
        · rfl
        · cases b == [] <;> rfl
      · rw [cdF (show ¬ (b.length : Int) ≤ 300 by omega), decide_eq_false h3]; rfl
    · rw [cdF h2, decide_eq_false h2]; rfl
  · rw [cdF h1, decide_eq_false (show ¬ 1 ≤ n from h1)]; rfl
/-- behind all versions -/
def entE (k : List UInt8) (l : List VerD) : BO := bif isKey k then (bif decide ((l.length : Int) ≥ 1) then (bif decide ((l.length : Int) ≤ 12) then gd [bndS k] (bO true) else gd [bndS k] (bO false)) else gd [bndS k] (bO false)) else gd [bndS k] (bO false)
theorem entE_n {k : List UInt8} {l : List VerD} (h : bndS k = true) : entE k l = some (isKey k && (decide (1 ≤ l.length) && decide (l.length ≤ 12)), ()) := by
  unfold entE
  cases isKey k
  · rw [xF, gdB h, xG]; rfl
  · rw [xT]
    by_cases h1 : 1 ≤ l.length
    · rw [cdT (by omega), decide_eq_true h1]
      by_cases h2 : l.length ≤ 12
      · rw [cdT (by omega), decide_eq_true h2, gdB h, xG]; rfl
      · rw [cdF (by omega), decide_eq_false h2, gdB h, xG]; rfl
    · rw [cdF (by omega), decide_eq_false h1, gdB h, xG]; rfl
noncomputable def stepTM (k : List UInt8) (l : List VerD) (last : Int) (l2 : List VerD) (m i : Int) (nx : BO) : BO :=
  bif decide (i < m) then gd [decide (i.toNat < l2.length), decide (0 ≤ i), decide (i < (l2.length : Int))] (bif verB (l2.getD i.toNat (VerT).dflt) then (bif decide ((l2.getD i.toNat (VerT).dflt).1 ≤ last) then bO false else gd [decide (inK .i64 (i + 1))] nx) else bO false) else entE k l
noncomputable abbrev gP (l : List VerD) (i : Int) : List Bool := [decide ((i - 1).toNat < l.length), decide (0 ≤ i - 1), decide (i - 1 < (l.length : Int)), decide (inK .i64 (i - 1))]
def tailR (v : VerD) (no yes : BO) : BO := bif decide ((v.2.2.1.length : Int) > 300) then no else bif v.2.1 then (bif !v.2.2.1 == [] then no else yes) else yes
noncomputable def stepRM (k : List UInt8) (l : List VerD) (i : Int) (nx : BO) : BO :=
  bif decide (i < (l.length : Int)) then gd [decide (i.toNat < l.length), decide (0 ≤ i), decide (i < (l.length : Int))] (bif decide ((l.getD i.toNat (VerT).dflt).1 < 1) then bO false else bif decide ((l.getD i.toNat (VerT).dflt).1 > 1099511627776) then bO false
    else bif decide (i > 0) then (bif decide ((l.getD i.toNat (VerT).dflt).1 ≤ (l.getD (i - 1).toNat (VerT).dflt).1) then gd (gP l i) (bO false) else tailR (l.getD i.toNat (VerT).dflt) (gd (gP l i) (bO false)) (gd (decide (inK .i64 (i + 1)) :: gP l i) nx))
    else tailR (l.getD i.toNat (VerT).dflt) (bO false) (gd [decide (inK .i64 (i + 1))] nx)) else entE k l
end Nice
namespace Go.Proofs.YtnblkjapeiaedaaGreatDoor
open Go Go.Eng Nice Go.RowKit
set_option maxRecDepth 1000000
noncomputable def over (x : DenL [VerT]) : BO := fO Tryz.prog (envS []) (shOf []) Tryz.f76 [VerT] [.bool] x
theorem ever (n : Int) (g : Bool) (b : List UInt8) : over ((n, g, b, ()), ()) = verW n g b := by kernel_rfl
theorem ver_c : PC 76 verS := (pureO (envS_ok (l := []) trivial) gl_ne Tryz.func76 (by kernel_rfl) (by decide)).nice fun ⟨⟨n, g, b, ()⟩, ()⟩ _ => by
  show over _ = _
  rw [ever]; exact verW_n n g b
abbrev shtmay : List (Nat × List (Nat × Sh)) := [(3, [(1, (.obj [.sym, (.dat VerT)])), (2, (.one .sym)), (3, (.one .sym)), (7, (.one (.dat VerT))), (8, (.one .sym)), (9, (.one .sym))])]
noncomputable def htmay (N : Nat) (k : List UInt8) (l : List VerD) (c : Bool) (last : Int) (l2 : List VerD) (m i : Int) : BO := rH Tryz.prog (envS [(48, isKeyS), (76, verS)]) (shOf shtmay) Tryz.f51 [.bool] N 0 [(1, .pointer (some ⟨11, 0, none⟩)), (2, .bool c), (3, sy (.int .i64 last)), (7, dt 12), (8, sy (.int .i64 m)), (9, sy (.int .i64 i))] [.dat VerT l, .row [sy (.string (bs k)), dt 10] 67 false, .dat VerT l2]
noncomputable def otmay (x : DenL [EntT]) : BO := fO Tryz.prog (envS [(48, isKeyS), (76, verS)]) (shOf shtmay) Tryz.f51 [EntT] [.bool] x
theorem otmay_g (x : DenL [EntT]) : otmay x = fON Tryz.prog (envS [(48, isKeyS), (76, verS)]) (shOf shtmay) Tryz.f51 [EntT] [.bool] heads0 x := rfl
theorem etmay_g (N : Nat) (k : List UInt8) (l : List VerD) : fON Tryz.prog (envS [(48, isKeyS), (76, verS)]) (shOf shtmay) Tryz.f51 [EntT] [.bool] N ((k, l, ()), ()) = htmay N k l false 0 l (l.length : Int) 0 := by kernel_rfl
theorem etmay_0 (N : Nat) (k : List UInt8) (l : List VerD) (c : Bool) (last : Int) (l2 : List VerD) (m i : Int) : htmay (N + 1) k l c last l2 m i = stepTM k l last l2 m i (htmay N k l c (l2.getD i.toNat (VerT).dflt).1 l2 m (i + 1)) := by kernel_rfl
theorem tmay_l (k : List UInt8) (l : List VerD) (hk : bndS k = true) (hl : l.length ≤ 140737488355328) : ∀ (r i N : Nat) (last : Int), l.length = i + r → r < N → htmay N k l false last l (l.length : Int) (i : Int) = some (riseV last (l.drop i) && (isKey k && (decide (1 ≤ l.length) && decide (l.length ≤ 12))), ()) := by
  intro r
  induction r with
  | zero =>
    intro i N last hi hN
    obtain ⟨N, rfl⟩ : ∃ m, N = m + 1 := ⟨N - 1, by omega⟩
    rw [etmay_0]
    unfold stepTM
    rw [cdF (by omega), entE_n hk, List.drop_eq_nil_of_le (by omega)]; rfl
  | succ r ih =>
    intro i N last hi hN
    obtain ⟨N, rfl⟩ : ∃ m, N = m + 1 := ⟨N - 1, by omega⟩
    have hlt : i < l.length := by omega
    have hd : l.drop i = l.getD i (VerT).dflt :: l.drop (i + 1) := by
      rw [List.drop_eq_getElem_cons hlt, List.getD_eq_getElem?_getD, List.getElem?_eq_getElem hlt]; rfl
    have this := ih (i + 1) N (l.getD i (VerT).dflt).1 (by omega) (by omega)
    simp only [Int.natCast_add, Int.natCast_one] at this
    rw [etmay_0]
    unfold stepTM
    rw [cdT (by omega), show (i : Int).toNat = i from rfl, gdT hlt, gdT (by omega), gdT (by omega), xG, hd, this, riseV_cons]
    have hk1 : inK .i64 ((i : Int) + 1) := inK_i64.2 ⟨by omega, by omega⟩
    cases verB (l.getD i (VerT).dflt)
    · rfl
    · rw [xT, Bool.true_and]
      by_cases h : (l.getD i (VerT).dflt).1 ≤ last
      · rw [cdT h, decide_eq_false (show ¬ last < (l.getD i (VerT).dflt).1 by omega)]; rfl
      · rw [cdF h, decide_eq_true (show last < (l.getD i (VerT).dflt).1 by omega), gdT hk1, xG, Bool.true_and]
theorem tmay_c : PC 51 entS := (pureO (sh := shOf shtmay) (envS_ok (l := [(48, isKeyS), (76, verS)]) ⟨dKey_c, ver_c, trivial⟩) gl_ne Tryz.func51 (by kernel_rfl) (by decide)).nice fun ⟨⟨k, l, ()⟩, ()⟩ h => by
  have h : (bndS k && decide (l.length ≤ 140737488355328)) = true := h
  rw [Bool.and_eq_true, decide_eq_true_eq] at h
  show otmay _ = some (entB (k, l, ()), ())
  rw [otmay_g, etmay_g]
  exact tmay_l k l h.1 h.2 l.length 0 heads0 0 (by omega) (by unfold heads0; omega)
/-! ### the document's -/
abbrev shrme : List (Nat × List (Nat × Sh)) := [(2, [(1, (.obj [.sym, (.dat VerT)])), (2, (.one .sym)), (3, (.one .sym))])]
noncomputable def hrme (N : Nat) (k : List UInt8) (l : List VerD) (c : Bool) (i : Int) : BO := rH Tryz.prog (envS [(52, isKeyS)]) (shOf shrme) Tryz.f53 [.bool] N 0 [(1, .pointer (some ⟨11, 0, none⟩)), (2, .bool c), (3, sy (.int .i64 i))] [.dat VerT l, .row [sy (.string (bs k)), dt 10] 67 false]
noncomputable def orme (x : DenL [EntT]) : BO := fO Tryz.prog (envS [(52, isKeyS)]) (shOf shrme) Tryz.f53 [EntT] [.bool] x
theorem orme_g (x : DenL [EntT]) : orme x = fON Tryz.prog (envS [(52, isKeyS)]) (shOf shrme) Tryz.f53 [EntT] [.bool] heads0 x := rfl
theorem erme_g (N : Nat) (k : List UInt8) (l : List VerD) : fON Tryz.prog (envS [(52, isKeyS)]) (shOf shrme) Tryz.f53 [EntT] [.bool] N ((k, l, ()), ()) = hrme N k l false 0 := by kernel_rfl
theorem erme_0 (N : Nat) (k : List UInt8) (l : List VerD) (c : Bool) (i : Int) : hrme (N + 1) k l c i = stepRM k l i (hrme N k l c (i + 1)) := by kernel_rfl
theorem tailR_n {v : VerD} {last : Int} {no yes : BO} {b : Bool} (h1 : ¬ v.1 < 1) (h2 : ¬ v.1 > 1099511627776) (h3 : last < v.1) (hn : no = bO false) (hy : yes = bO b) : tailR v no yes = some (verB v && (decide (last < v.1) && b), ()) := by
  obtain ⟨n, g, t, ⟨⟩⟩ := v
  have h1 : ¬ n < 1 := h1
  have h2 : ¬ n > 1099511627776 := h2
  have h3 : last < n := h3
  unfold tailR verB
  dsimp only
  rw [decide_eq_true (show 1 ≤ n by omega), decide_eq_true (show n ≤ 1099511627776 by omega), decide_eq_true h3, hn, hy]
  by_cases h : t.length ≤ 300
  · rw [cdF (by omega), decide_eq_true h]
    cases g
    · rfl
    · cases t == [] <;> rfl
  · rw [cdT (by omega), decide_eq_false h]; rfl
theorem rme_l (k : List UInt8) (l : List VerD) (hk : bndS k = true) (hl : l.length ≤ 140737488355328) : ∀ (r i N : Nat) (last : Int), l.length = i + r → r < N → (i = 0 → last = 0) → (0 < i → last = (l.getD (i - 1) (VerT).dflt).1) → hrme N k l false (i : Int) = some (riseV last (l.drop i) && (isKey k && (decide (1 ≤ l.length) && decide (l.length ≤ 12))), ()) := by
  intro r
  induction r with
  | zero =>
    intro i N last hi hN _ _
    obtain ⟨N, rfl⟩ : ∃ m, N = m + 1 := ⟨N - 1, by omega⟩
    rw [erme_0]
    unfold stepRM
    rw [cdF (by omega), entE_n hk, List.drop_eq_nil_of_le (by omega)]; rfl
  | succ r ih =>
    intro i N last hi hN hz hp
    obtain ⟨N, rfl⟩ : ∃ m, N = m + 1 := ⟨N - 1, by omega⟩
    have hlt : i < l.length := by omega
    have hd : l.drop i = l.getD i (VerT).dflt :: l.drop (i + 1) := by
      rw [List.drop_eq_getElem_cons hlt, List.getD_eq_getElem?_getD, List.getElem?_eq_getElem hlt]; rfl
    have this := ih (i + 1) N (l.getD i (VerT).dflt).1 (by omega) (by omega) (fun h => by omega) (fun _ => rfl)
    simp only [Int.natCast_add, Int.natCast_one] at this
    have hk1 : inK .i64 ((i : Int) + 1) := inK_i64.2 ⟨by omega, by omega⟩
    have goal : (riseV last (l.getD i (VerT).dflt :: l.drop (i + 1)) && (isKey k && (decide (1 ≤ l.length) && decide (l.length ≤ 12)))) = (verB (l.getD i (VerT).dflt) && (decide (last < (l.getD i (VerT).dflt).1) && (riseV (l.getD i (VerT).dflt).1 (l.drop (i + 1)) && (isKey k && (decide (1 ≤ l.length) && decide (l.length ≤ 12)))))) := by
      show ((verB _ && (decide _ && riseV _ _)) && _) = _
      rw [Bool.and_assoc, Bool.and_assoc]
    rw [erme_0]
    unfold stepRM
    rw [cdT (by omega), show (i : Int).toNat = i from rfl, gdT hlt, gdT (by omega), gdT (by omega), xG, hd, goal, this]
    generalize hv : l.getD i (VerT).dflt = v
    have lo : v.1 < 1 → verB v = false := fun h => by unfold verB; rw [decide_eq_false (show ¬ 1 ≤ v.1 by omega)]; rfl
    have up : v.1 > 1099511627776 → verB v = false := fun h => by unfold verB; rw [decide_eq_false (show ¬ v.1 ≤ 1099511627776 by omega)]; exact Bool.and_false _
    by_cases h1 : v.1 < 1
    · rw [cdT h1, lo h1]; rfl
    rw [cdF h1]
    by_cases h2 : v.1 > 1099511627776
    · rw [cdT h2, up h2]; rfl
    rw [cdF h2]
    by_cases h0 : i = 0
    · have hl0 := hz h0
      rw [cdF (show ¬ (i : Int) > 0 by omega)]
      exact tailR_n h1 h2 (by omega) rfl (by rw [gdT hk1, xG]; rfl)
    · have hl1 := hp (by omega)
      have e : ((i : Int) - 1).toNat = i - 1 := by omega
      have hg : ∀ x : BO, gd (gP l (i : Int)) x = x := fun x => by
        unfold gP
        rw [e, gdT (by omega), gdT (by omega), gdT (by omega), gdT (inK_i64.2 ⟨by omega, by omega⟩), xG]
      rw [cdT (show (i : Int) > 0 by omega), e, ← hl1, hg]
      by_cases h3 : v.1 ≤ last
      · rw [cdT h3, decide_eq_false (show ¬ last < v.1 by omega), Bool.false_and, Bool.and_false]; rfl
      · rw [cdF h3]
        exact tailR_n h1 h2 (by omega) rfl (by rw [gdT hk1, hg]; rfl)
theorem rme_c : PC 53 entS := (pureO (sh := shOf shrme) (envS_ok (l := [(52, isKeyS)]) ⟨rKey_c, trivial⟩) gl_ne Tryz.func53 (by kernel_rfl) (by decide)).nice fun ⟨⟨k, l, ()⟩, ()⟩ h => by
  have h : (bndS k && decide (l.length ≤ 140737488355328)) = true := h
  rw [Bool.and_eq_true, decide_eq_true_eq] at h
  show orme _ = some (entB (k, l, ()), ())
  rw [orme_g, erme_g]
  exact rme_l k l h.1 h.2 l.length 0 heads0 0 (by omega) (by unfold heads0; omega) (fun _ => rfl) (fun h => absurd h (by decide))
/-! ### cut short -/
abbrev shlent : List (Nat × List (Nat × Sh)) := [(4, [(1, (.obj [.sym, (.vec VerT 71)])), (2, (.obj [.sym, .any])), (19, (.one .sym)), (20, (.one .sym))])]
noncomputable def hlent (N : Nat) (k : List UInt8) (l : List VerD) (k2 : List UInt8) (m i : Int) : Option (DenL [EntT]) := rH Tryz.prog (envS [(15, cutS)]) (shOf shlent) Tryz.f45 [EntT] N 0 [(1, .pointer (some ⟨11, 0, none⟩)), (2, .pointer (some ⟨12, 0, none⟩)), (19, sy (.int .i64 m)), (20, sy (.int .i64 i))] [.vec VerT l 71, .row [sy (.string (bs k)), dt 10] 67 false, .row [sy (.string (bs k2)), Value.slice none 0 0] 67 false]
noncomputable def olent (x : DenL [EntT]) : Option (DenL [EntT]) := fO Tryz.prog (envS [(15, cutS)]) (shOf shlent) Tryz.f45 [EntT] [EntT] x
theorem olent_g (x : DenL [EntT]) : olent x = fON Tryz.prog (envS [(15, cutS)]) (shOf shlent) Tryz.f45 [EntT] [EntT] heads0 x := rfl
theorem elent_g (N : Nat) (k : List UInt8) (l : List VerD) : fON Tryz.prog (envS [(15, cutS)]) (shOf shlent) Tryz.f45 [EntT] [EntT] N ((k, l, ()), ()) =
  (gd [decide ((2 * (0 + (cutL l none (some (min (l.length : Int) 14))).length) + 400) * 32 ≤ 281474976710656), decide (0 ≤ min (l.length : Int) 14), decide (min (l.length : Int) 14 ≤ (l.length : Int))] (hlent N (cut k 42) ([] ++ cutL l none (some (min (l.length : Int) 14))) [] (([] ++ cutL l none (some (min (l.length : Int) 14))).length : Int) 0)) := by kernel_rfl
theorem elent_0 (N : Nat) (k : List UInt8) (l : List VerD) (k2 : List UInt8) (m i : Int) : hlent (N + 1) k l k2 m i =
  (bif decide (i < m) then gd [decide (inK .i64 (i + 1)), decide (i.toNat < l.length), decide (0 ≤ i), decide (i < (l.length : Int)), decide (i.toNat < l.length), decide (0 ≤ i), decide (i < (l.length : Int))] (hlent N k (l.set i.toNat (cutV (l.getD i.toNat (VerT).dflt))) k2 m (i + 1)) else some ((k, l, ()), ())) := by kernel_rfl
theorem lent_l (k k2 : List UInt8) : ∀ (r a : List VerD) (N : Nat), a.length + r.length ≤ 14 → r.length < N → hlent N k (a ++ r) k2 ((a ++ r).length : Int) (a.length : Int) = some ((k, a ++ r.map cutV, ()), ())
  | [], a, N, hl, hN => by
    obtain ⟨N, rfl⟩ : ∃ m, N = m + 1 := ⟨N - 1, by omega⟩
    rw [elent_0, List.append_nil, cdF (by omega)]
    rw [List.map_nil, List.append_nil]
  | v :: r, a, N, hl, hN => by
    obtain ⟨N, rfl⟩ : ∃ m, N = m + 1 := ⟨N - 1, by omega⟩
    simp only [List.length_cons] at hl hN
    have hlt : a.length < (a ++ v :: r).length := by simp
    have hg : (a ++ v :: r).getD a.length (VerT).dflt = v := getD_mid a r v _
    have key := lent_l k k2 r (a ++ [cutV v]) N (by simp; omega) (by omega)
    have e1 : a ++ [cutV v] ++ r = a ++ cutV v :: r := by simp
    have e2 : a ++ [cutV v] ++ r.map cutV = a ++ (v :: r).map cutV := by simp
    have e3 : (a ++ cutV v :: r).length = (a ++ v :: r).length := by simp
    rw [e1, e2, e3] at key
    rw [List.length_append (bs := [cutV v]), List.length_singleton] at key
    simp only [Int.natCast_add, Int.natCast_one] at key
    rw [elent_0, cdT (by omega), show ((a.length : Int)).toNat = a.length from rfl, hg, set_mid, gdT (inK_i64.2 ⟨by omega, by omega⟩), gdT hlt, gdT (by omega), gdT (by omega), gdT hlt, gdT (by omega), gdT (by omega), xG]
    exact key
theorem lent_c : PC 45 lentS := (pureO (sh := shOf shlent) (envS_ok (l := [(15, cutS)]) ⟨cut_c, trivial⟩) gl_ne Tryz.func45 (by kernel_rfl) (by decide)).nice fun ⟨⟨k, l, ()⟩, ()⟩ h => by
  have h : l.length ≤ 140737488355328 := of_decide_eq_true h
  have hc : cutL l none (some (min (l.length : Int) 14)) = l.take 14 := by
    show l.take (min (l.length : Int) 14).toNat = l.take 14
    by_cases hl : l.length ≤ 14
    · rw [Int.min_eq_left (by omega), List.take_of_length_le (by omega), List.take_of_length_le hl]
    · rw [Int.min_eq_right (by omega)]; rfl
  have hl : (l.take 14).length ≤ 14 := by rw [List.length_take]; omega
  show olent _ = some (lentN (k, l, ()), ())
  rw [olent_g, elent_g, hc, gdT (by omega), gdT (by omega), gdT (by omega), xG, List.nil_append]
  exact lent_l (cut k 42) [] (l.take 14) [] heads0 (by simpa using hl) (by unfold heads0; omega)
end Go.Proofs.YtnblkjapeiaedaaGreatDoor
namespace Nice
open Go Go.Eng
theorem getD_set {α : Type} (l : List α) (i k : Nat) (a d : α) (h : i < l.length) : (l.set i a).getD k d = if k = i then a else l.getD k d := by
  rw [List.getD_eq_getElem?_getD, List.getElem?_set, List.getD_eq_getElem?_getD]
  by_cases e : k = i
  · subst e
    rw [if_pos rfl, if_pos h, if_pos rfl]; rfl
  · rw [if_neg (fun h => e h.symm), if_neg e]
theorem ext_getD {α : Type} (d : α) {a b : List α} (h : a.length = b.length) (hk : ∀ k, k < a.length → a.getD k d = b.getD k d) : a = b := by
  apply List.ext_getElem h
  intro k h1 h2
  have := hk k h1
  rw [List.getD_eq_getElem?_getD, List.getElem?_eq_getElem h1, List.getD_eq_getElem?_getD, List.getElem?_eq_getElem h2] at this
  exact this
theorem rev_getD {α : Type} (d : α) (l : List α) (k : Nat) (h : k < l.length) : l.reverse.getD k d = l.getD (l.length - 1 - k) d := by
  rw [List.getD_eq_getElem?_getD, List.getElem?_reverse h, List.getD_eq_getElem?_getD]
noncomputable def revVS : VSpec := ⟨VerT, 71, fun l => decide (l.length ≤ 140737488355328), fun l => l.reverse⟩
def swapV (l : List VerD) (i j : Nat) : List VerD := (l.set i (l.getD j (VerT).dflt)).set j (l.getD i (VerT).dflt)
end Nice
namespace Go.Proofs.YtnblkjapeiaedaaGreatDoor
open Go Go.Eng Nice Go.RowKit
set_option maxRecDepth 1000000
abbrev shrev : List (Nat × List (Nat × Sh)) := [(1, [(0, (.one (.vec VerT 71))), (2, (.one .sym)), (3, (.one .sym))])]
noncomputable def hrev (N : Nat) (l : List VerD) (i j : Int) : Option (List VerD) := rHV Tryz.prog (envS []) (shOf shrev) Tryz.f81 VerT 71 N 0 [(0, dt 10), (2, sy (.int .i64 i)), (3, sy (.int .i64 j))] [.vec VerT l 71]
noncomputable def orev (l : List VerD) : Option (List VerD) := fV Tryz.prog (envS []) (shOf shrev) Tryz.f81 VerT 71 l
theorem orev_g (l : List VerD) : orev l = fVN Tryz.prog (envS []) (shOf shrev) Tryz.f81 VerT 71 heads0 l := rfl
theorem erev_g (N : Nat) (l : List VerD) : fVN Tryz.prog (envS []) (shOf shrev) Tryz.f81 VerT 71 N l = gd [decide (inK .i64 ((l.length : Int) - 1))] (hrev N l 0 ((l.length : Int) - 1)) := by kernel_rfl
theorem erev_0 (N : Nat) (l : List VerD) (i j : Int) : hrev (N + 1) l i j =
  (bif decide (i < j) then gd [decide (inK .i64 (j - 1)), decide (inK .i64 (i + 1)), decide (j.toNat < (l.set i.toNat (l.getD j.toNat (VerT).dflt)).length), decide (0 ≤ j), decide (j < ((l.set i.toNat (l.getD j.toNat (VerT).dflt)).length : Int)), decide (i.toNat < l.length), decide (0 ≤ i), decide (i < (l.length : Int)), decide (i.toNat < l.length), decide (0 ≤ i), decide (i < (l.length : Int)), decide (j.toNat < l.length), decide (0 ≤ j), decide (j < (l.length : Int))] (hrev N (swapV l i.toNat j.toNat) (i + 1) (j - 1))
   else some l) := by kernel_rfl
theorem rev_l (xs : List VerD) (hx : xs.length ≤ 140737488355328) : ∀ (m i N : Nat) (l : List VerD), l.length = xs.length → (∀ k, k < xs.length → l.getD k (VerT).dflt = if k < i ∨ xs.length < k + 1 + i then xs.getD (xs.length - 1 - k) (VerT).dflt else xs.getD k (VerT).dflt) → i ≤ xs.length → xs.length ≤ 2 * i + m → m < N →
    hrev N l (i : Int) ((xs.length : Int) - 1 - i) = some xs.reverse := by
  intro m
  induction m with
  | zero =>
    intro i N l hl hk hi hm hN
    obtain ⟨N, rfl⟩ : ∃ q, N = q + 1 := ⟨N - 1, by omega⟩
    rw [erev_0, cdF (by omega)]
    congr 1
    refine ext_getD (VerT).dflt (by rw [hl, List.length_reverse]) fun k h => ?_
    rw [rev_getD _ _ _ (by omega), hk k (by omega)]
    by_cases c : k < i ∨ xs.length < k + 1 + i
    · rw [if_pos c]
    · rw [if_neg c]; congr 1; omega
  | succ m ih =>
    intro i N l hl hk hi hm hN
    obtain ⟨N, rfl⟩ : ∃ q, N = q + 1 := ⟨N - 1, by omega⟩
    by_cases hij : 2 * i + 1 < xs.length
    · have ej : ((xs.length : Int) - 1 - i).toNat = xs.length - 1 - i := by omega
      have ei : (i : Int).toNat = i := rfl
      have key := ih (i + 1) N (swapV l i (xs.length - 1 - i)) (by unfold swapV; rw [List.length_set, List.length_set, hl]) (fun k h => by
        unfold swapV
        rw [getD_set _ _ _ _ _ (by rw [List.length_set, hl]; omega), getD_set _ _ _ _ _ (by omega), hk i (by omega), hk (xs.length - 1 - i) (by omega), hk k h]
        by_cases c1 : k = xs.length - 1 - i
        · rw [if_pos c1, if_neg (by omega), if_pos (by omega)]; congr 1; omega
        · rw [if_neg c1]
          by_cases c2 : k = i
          · rw [if_pos c2, if_neg (by omega), if_pos (by omega)]; congr 1; omega
          · rw [if_neg c2]
            by_cases c3 : k < i ∨ xs.length < k + 1 + i
            · rw [if_pos c3, if_pos (by omega)]
            · rw [if_neg c3, if_neg (by omega)]) (by omega) (by omega) (by omega)
      have e1 : (xs.length : Int) - 1 - ((i + 1 : Nat) : Int) = (xs.length : Int) - 1 - i - 1 := by omega
      rw [e1] at key
      simp only [Int.natCast_add, Int.natCast_one] at key
      rw [erev_0, cdT (by omega), ej, ei, gdT (inK_i64.2 ⟨by omega, by omega⟩), gdT (inK_i64.2 ⟨by omega, by omega⟩), gdT (by rw [List.length_set]; omega), gdT (by omega), gdT (by rw [List.length_set]; omega), gdT (by omega), gdT (by omega), gdT (by omega), gdT (by omega), gdT (by omega), gdT (by omega), gdT (by omega), gdT (by omega), gdT (by omega), gd_nil]
      exact key
    · rw [erev_0, cdF (by omega)]
      congr 1
      refine ext_getD (VerT).dflt (by rw [hl, List.length_reverse]) fun k h => ?_
      rw [rev_getD _ _ _ (by omega), hk k (by omega)]
      by_cases c : k < i ∨ xs.length < k + 1 + i
      · rw [if_pos c]
      · rw [if_neg c]; congr 1; omega
theorem rev_c : VC 81 revVS := (vecO (sh := shOf shrev) (envS_ok (l := []) trivial) gl_ne Tryz.func81 (by kernel_rfl) (by decide)).nice fun l h => by
  have h : l.length ≤ 140737488355328 := of_decide_eq_true h
  show orev l = some l.reverse
  rw [orev_g, erev_g, gdT (inK_i64.2 ⟨by omega, by omega⟩), gd_nil]
  have := rev_l l h l.length 0 heads0 l rfl (fun k hk => by rw [if_neg (by omega)]) (Nat.zero_le _) (by omega) (by unfold heads0; omega)
  rw [Int.ofNat_zero, Int.sub_zero] at this
  exact this
end Go.Proofs.YtnblkjapeiaedaaGreatDoor
