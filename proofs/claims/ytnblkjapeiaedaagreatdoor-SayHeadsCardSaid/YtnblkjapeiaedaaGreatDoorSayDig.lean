/-
  Digits of a number: equations, plain words, contracts. No condition.
-/
import Derived.Test.YtnblkjapeiaedaaGreatDoorSayO
namespace Go.Proofs.YtnblkjapeiaedaaGreatDoor
open Go Go.Eng Nice
set_option maxRecDepth 1000000
abbrev shrdigits : List (Nat × List (Nat × Sh)) := [(2, [(0, (.one .sym)), (2, (.one .sym)), (3, (.one .sym))])]
noncomputable def hrdigits_0 (n : Nat) (t0 : Int) (t2 : List UInt8) (t3 : List UInt8) : Option (DenL [.str]) := rH Tryz.prog (envS []) (shOf shrdigits) Tryz.f57 [.str] n 0 [(0, sy (.int .u64 t0)), (2, sy (.string (bs t2))), (3, sy (.string (bs t3)))] []
noncomputable def ordigits (x : DenL [.int .u64]) : Option (DenL [.str]) := fO Tryz.prog (envS []) (shOf shrdigits) Tryz.f57 [.int .u64] [.str] x
theorem erdigits_g (N : Nat) (x0 : Int) : fON Tryz.prog (envS []) (shOf shrdigits) Tryz.f57 [.int .u64] [.str] N (x0, ()) =
  (hrdigits_0 N (x0) ([]) ([])) := by kernel_rfl
theorem erdigits (x0 : Int) : ordigits (x0, ()) =
  (hrdigits_0 heads0 (x0) ([]) ([])) := erdigits_g heads0 x0
theorem erdigits_0 (n : Nat) (t0 : Int) (t2 : List UInt8) (t3 : List UInt8) : hrdigits_0 (n + 1) t0 t2 t3 =
  (gd [decide ([UInt8.ofNat (IntKind.u8.wrap (IntKind.u64.wrap ((48 : Int) + t0.tmod ((10 : Int))))).toNat].length + t3.length ≤ 1099511627776)] (bif IntKind.u64.wrap (t0.tdiv ((10 : Int))) == (0 : Int) then
    (some ([UInt8.ofNat (IntKind.u8.wrap (IntKind.u64.wrap ((48 : Int) + t0.tmod ((10 : Int))))).toNat] ++ t3, PUnit.unit))
  else
    (hrdigits_0 n (IntKind.u64.wrap (t0.tdiv ((10 : Int)))) (t2) ([UInt8.ofNat (IntKind.u8.wrap (IntKind.u64.wrap ((48 : Int) + t0.tmod ((10 : Int))))).toNat] ++ t3)))) := by kernel_rfl
abbrev shrDigits : List (Nat × List (Nat × Sh)) := []
noncomputable def orDigits (x : DenL [.int .i64]) : Option (DenL [.str]) := fO Tryz.prog (envS [(57, digsS)]) (shOf shrDigits) Tryz.f34 [.int .i64] [.str] x
theorem erDigits_g (N : Nat) (x0 : Int) : fON Tryz.prog (envS [(57, digsS)]) (shOf shrDigits) Tryz.f34 [.int .i64] [.str] N (x0, ()) =
  (bif decide (x0 < (0 : Int)) then
    (gd [decide (1 + (digs (IntKind.u64.wrap (IntKind.u64.wrap ((0 : Int) - (x0 + (1 : Int))) + (1 : Int)))).length ≤ 1099511627776), decide ((0 : Int) ≤ IntKind.u64.wrap (IntKind.u64.wrap ((0 : Int) - (x0 + (1 : Int))) + (1 : Int))) && decide (IntKind.u64.wrap (IntKind.u64.wrap ((0 : Int) - (x0 + (1 : Int))) + (1 : Int)) < (18446744073709551616 : Int)), decide (inK IntKind.i64 ((0 : Int) - (x0 + (1 : Int)))), decide (inK IntKind.i64 (x0 + (1 : Int)))] (some ([45] ++ digs (IntKind.u64.wrap (IntKind.u64.wrap ((0 : Int) - (x0 + (1 : Int))) + (1 : Int))), PUnit.unit)))
  else
    (gd [decide ((0 : Int) ≤ IntKind.u64.wrap x0) && decide (IntKind.u64.wrap x0 < (18446744073709551616 : Int))] (some (digs (IntKind.u64.wrap x0), PUnit.unit)))) := by kernel_rfl
theorem erDigits (x0 : Int) : orDigits (x0, ()) =
  (bif decide (x0 < (0 : Int)) then
    (gd [decide (1 + (digs (IntKind.u64.wrap (IntKind.u64.wrap ((0 : Int) - (x0 + (1 : Int))) + (1 : Int)))).length ≤ 1099511627776), decide ((0 : Int) ≤ IntKind.u64.wrap (IntKind.u64.wrap ((0 : Int) - (x0 + (1 : Int))) + (1 : Int))) && decide (IntKind.u64.wrap (IntKind.u64.wrap ((0 : Int) - (x0 + (1 : Int))) + (1 : Int)) < (18446744073709551616 : Int)), decide (inK IntKind.i64 ((0 : Int) - (x0 + (1 : Int)))), decide (inK IntKind.i64 (x0 + (1 : Int)))] (some ([45] ++ digs (IntKind.u64.wrap (IntKind.u64.wrap ((0 : Int) - (x0 + (1 : Int))) + (1 : Int))), PUnit.unit)))
  else
    (gd [decide ((0 : Int) ≤ IntKind.u64.wrap x0) && decide (IntKind.u64.wrap x0 < (18446744073709551616 : Int))] (some (digs (IntKind.u64.wrap x0), PUnit.unit)))) := erDigits_g heads0 x0
theorem beT {α : Type} {n m : Int} {a b : α} (h : n = m) : (bif n == m then a else b) = a := by subst h; rw [show (n == n) = true from beq_self_eq_true n]; rfl
theorem beF {α : Type} {n m : Int} {a b : α} (h : n ≠ m) : (bif n == m then a else b) = b := by rw [show (n == m) = false from beq_eq_false_iff_ne.2 h]; rfl
theorem digsF_len : ∀ (f n : Nat) (acc : List UInt8), (digsF f n acc).length ≤ f + acc.length
  | 0, n, acc => by simp [digsF]
  | f + 1, n, acc => by
    simp only [digsF]
    split
    · simp; omega
    · have := digsF_len f (n / 10) (UInt8.ofNat (48 + n % 10) :: acc)
      simp only [List.length_cons] at this
      omega
theorem u64w {n : Int} (h0 : 0 ≤ n) (h1 : n < 18446744073709551616) : IntKind.u64.wrap n = n := by
  show n % 18446744073709551616 = n
  exact Int.emod_eq_of_lt h0 h1
theorem rdigits_l (t2 : List UInt8) : ∀ (f n : Nat) (u : Nat) (acc : List UInt8), u < 18446744073709551616 → u < 10 ^ f → acc.length ≤ 100 - f → f ≤ 20 → 0 < f → f < n → hrdigits_0 n (u : Int) t2 acc = some (digsF f u acc, ())
  | 0, n, u, acc, _, _, _, _, h0, _ => absurd h0 (Nat.lt_irrefl 0)
  | f + 1, n, u, acc, hu, h10, hl, hf, _, hn => by
    obtain ⟨m, rfl⟩ : ∃ m, n = m + 1 := ⟨n - 1, by omega⟩
    have e1 : (u : Int).tmod 10 = ((u % 10 : Nat) : Int) := rfl
    have e2 : (u : Int).tdiv 10 = ((u / 10 : Nat) : Int) := rfl
    have e3 : UInt8.ofNat (IntKind.u8.wrap (IntKind.u64.wrap ((48 : Int) + ((u % 10 : Nat) : Int)))).toNat = UInt8.ofNat (48 + u % 10) := by
      rw [u64w (by omega) (by omega), wrap_u8]
      congr 1
      omega
    rw [erdigits_0]
    simp only [e1, e2, e3, List.length_singleton]
    rw [gdT (by omega), gd_nil, u64w (by omega) (by omega)]
    simp only [digsF]
    by_cases h : u / 10 = 0
    · rw [if_pos h, beT (by omega)]; rfl
    · rw [if_neg h, beF (by omega)]
      have hf0 : 0 < f := by
        rcases Nat.eq_zero_or_pos f with h' | h'
        · subst h'; simp at h10; omega
        · exact h'
      exact rdigits_l t2 f m (u / 10) (UInt8.ofNat (48 + u % 10) :: acc) (by omega) (by rw [Nat.pow_succ] at h10; omega) (by simp; omega) (by omega) hf0 (by omega)
theorem rdigits_n (u : Int) (h : (decide (0 ≤ u) && decide (u < 18446744073709551616)) = true) : ordigits (u, ()) = some (digs u, ()) := by
  rw [Bool.and_eq_true, decide_eq_true_eq, decide_eq_true_eq] at h
  obtain ⟨n, rfl⟩ : ∃ n : Nat, u = (n : Int) := ⟨u.toNat, by omega⟩
  rw [erdigits]
  have := rdigits_l [] 20 heads0 n [] (by omega) (by omega) (by simp) (by omega) (by omega) (by unfold heads0; omega)
  simpa [digs] using this
theorem digs_len (u : Int) : (digs u).length ≤ 20 := by
  have := digsF_len 20 u.toNat []
  simpa [digs] using this
theorem rDigits_n (n : Int) (h : (decide (-9223372036854775808 ≤ n) && decide (n ≤ 9223372036854775807)) = true) : orDigits (n, ()) = some (digits n, ()) := by
  rw [Bool.and_eq_true, decide_eq_true_eq, decide_eq_true_eq] at h
  rw [erDigits]
  unfold digits
  by_cases h0 : n < 0
  · rw [cdT h0, if_pos h0]
    have i1 : IntKind.u64.wrap ((0 : Int) - (n + 1)) = 0 - (n + 1) := u64w (by omega) (by omega)
    have e : IntKind.u64.wrap (IntKind.u64.wrap ((0 : Int) - (n + 1)) + 1) = -n := by
      rw [i1, u64w (by omega) (by omega)]; omega
    rw [e]
    have hl := digs_len (-n)
    rw [gdT (by omega), gdB (by rw [decide_eq_true (by omega), decide_eq_true (by omega)]; rfl), gdT (by rw [inK_i64]; omega), gdT (by rw [inK_i64]; omega), gd_nil]
    rfl
  · rw [cdF h0, if_neg h0, u64w (by omega) (by omega), gdB (by rw [decide_eq_true (by omega), decide_eq_true (by omega)]; rfl), gd_nil]
theorem digs_c : PC 57 digsS := (pureO (envS_ok (l := []) trivial) gl_ne Tryz.func57 (by kernel_rfl) (by decide)).nice fun ⟨u, ()⟩ h => rdigits_n u h
theorem digits_c : PC 34 digitsS := (pureO (envS_ok (l := [(57, digsS)]) ⟨digs_c, trivial⟩) gl_ne Tryz.func34 (by kernel_rfl) (by decide)).nice fun ⟨n, ()⟩ h => rDigits_n n h
end Go.Proofs.YtnblkjapeiaedaaGreatDoor
