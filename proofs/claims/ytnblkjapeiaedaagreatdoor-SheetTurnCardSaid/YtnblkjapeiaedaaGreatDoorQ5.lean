/-
  Part of the proof: SayDig ShN ShP ShQ ShR. No condition.
-/
import Derived.Test.YtnblkjapeiaedaaGreatDoorX0
import Derived.Test.YtnblkjapeiaedaaGreatDoorItoaW
import Derived.Test.YtnblkjapeiaedaaGreatDoorNiceW
import Derived.Test.YtnblkjapeiaedaaGreatDoorNiceK
import Derived.Lib.ParseIntBCases
import Derived.Test.YtnblkjapeiaedaaGreatDoorQ4
import Derived.Test.YtnblkjapeiaedaaGreatDoorQ3
namespace Go.Proofs.YtnblkjapeiaedaaGreatDoor
open Go Go.Eng Nice
set_option maxRecDepth 1000000
abbrev shrdigits : List (Nat × List (Nat × Sh)) := [(2, [(0, (.one .sym)), (2, (.one .sym)), (3, (.one .sym))])]
noncomputable def hrdigits_0 (n : Nat) (t0 : Int) (t2 : List UInt8) (t3 : List UInt8) : Option (DenL [.str]) := rH Tryz.prog (envS []) (shOf shrdigits) Tryz.f57 [.str] n 0 [(0, sy (.int .u64 t0)), (2, sy (.string (bs t2))), (3, sy (.string (bs t3)))] []
noncomputable def ordigits (x : DenL [.int .u64]) : Option (DenL [.str]) := fO Tryz.prog (envS []) (shOf shrdigits) Tryz.f57 [.int .u64] [.str] x
theorem erdigits_g (N : Nat) (x0 : Int) : fON Tryz.prog (envS []) (shOf shrdigits) Tryz.f57 [.int .u64] [.str] N (x0, ()) =
  (hrdigits_0 N (x0) ([]) ([])) := by kernel_rfl
theorem erdigits (x0 : Int) : ordigits (x0, ()) =
  (hrdigits_0 heads0 (x0) ([]) ([])) := erdigits_g heads0 x0
theorem erdigits_0 (n : Nat) (t0 : Int) (t2 : List UInt8) (t3 : List UInt8) : hrdigits_0 (n + 1) t0 t2 t3 =
  (gd [decide ([UInt8.ofNat (IntKind.u8.wrap (IntKind.u64.wrap ((48 : Int) + t0.tmod ((10 : Int))))).toNat].length + t3.length ≤ 1099511627776)] (bif IntKind.u64.wrap (t0.tdiv ((10 : Int))) == (0 : Int) then
    (some ([UInt8.ofNat (IntKind.u8.wrap (IntKind.u64.wrap ((48 : Int) + t0.tmod ((10 : Int))))).toNat] ++ t3, PUnit.unit))
  else
    (hrdigits_0 n (IntKind.u64.wrap (t0.tdiv ((10 : Int)))) (t2) ([UInt8.ofNat (IntKind.u8.wrap (IntKind.u64.wrap ((48 : Int) + t0.tmod ((10 : Int))))).toNat] ++ t3)))) := by kernel_rfl
abbrev shrDigits : List (Nat × List (Nat × Sh)) := []
noncomputable def orDigits (x : DenL [.int .i64]) : Option (DenL [.str]) := fO Tryz.prog (envS [(57, digsS)]) (shOf shrDigits) Tryz.f34 [.int .i64] [.str] x
theorem erDigits_g (N : Nat) (x0 : Int) : fON Tryz.prog (envS [(57, digsS)]) (shOf shrDigits) Tryz.f34 [.int .i64] [.str] N (x0, ()) =
  (bif decide (x0 < (0 : Int)) then
    (gd [decide (1 + (digs (IntKind.u64.wrap (IntKind.u64.wrap ((0 : Int) - (x0 + (1 : Int))) + (1 : Int)))).length ≤ 1099511627776), decide ((0 : Int) ≤ IntKind.u64.wrap (IntKind.u64.wrap ((0 : Int) - (x0 + (1 : Int))) + (1 : Int))) && decide (IntKind.u64.wrap (IntKind.u64.wrap ((0 : Int) - (x0 + (1 : Int))) + (1 : Int)) < (18446744073709551616 : Int)), decide (inK IntKind.i64 ((0 : Int) - (x0 + (1 : Int)))), decide (inK IntKind.i64 (x0 + (1 : Int)))] (some ([45] ++ digs (IntKind.u64.wrap (IntKind.u64.wrap ((0 : Int) - (x0 + (1 : Int))) + (1 : Int))), PUnit.unit)))
  else
    (gd [decide ((0 : Int) ≤ IntKind.u64.wrap x0) && decide (IntKind.u64.wrap x0 < (18446744073709551616 : Int))] (some (digs (IntKind.u64.wrap x0), PUnit.unit)))) := by kernel_rfl
theorem erDigits (x0 : Int) : orDigits (x0, ()) =
  (bif decide (x0 < (0 : Int)) then
    (gd [decide (1 + (digs (IntKind.u64.wrap (IntKind.u64.wrap ((0 : Int) - (x0 + (1 : Int))) + (1 : Int)))).length ≤ 1099511627776), decide ((0 : Int) ≤ IntKind.u64.wrap (IntKind.u64.wrap ((0 : Int) - (x0 + (1 : Int))) + (1 : Int))) && decide (IntKind.u64.wrap (IntKind.u64.wrap ((0 : Int) - (x0 + (1 : Int))) + (1 : Int)) < (18446744073709551616 : Int)), decide (inK IntKind.i64 ((0 : Int) - (x0 + (1 : Int)))), decide (inK IntKind.i64 (x0 + (1 : Int)))] (some ([45] ++ digs (IntKind.u64.wrap (IntKind.u64.wrap ((0 : Int) - (x0 + (1 : Int))) + (1 : Int))), PUnit.unit)))
  else
    (gd [decide ((0 : Int) ≤ IntKind.u64.wrap x0) && decide (IntKind.u64.wrap x0 < (18446744073709551616 : Int))] (some (digs (IntKind.u64.wrap x0), PUnit.unit)))) := erDigits_g heads0 x0
theorem beTd {α : Type} {n m : Int} {a b : α} (h : n = m) : (bif n == m then a else b) = a := by subst h; rw [show (n == n) = true from beq_self_eq_true n]; rfl
theorem beFd {α : Type} {n m : Int} {a b : α} (h : n ≠ m) : (bif n == m then a else b) = b := by rw [show (n == m) = false from beq_eq_false_iff_ne.2 h]; rfl
theorem digsF_len : ∀ (f n : Nat) (acc : List UInt8), (digsF f n acc).length ≤ f + acc.length
  | 0, n, acc => by simp [digsF]
  | f + 1, n, acc => by
    simp only [digsF]
    split
    · simp; omega
    · have := digsF_len f (n / 10) (UInt8.ofNat (48 + n % 10) :: acc)
      simp only [List.length_cons] at this
      omega
theorem u64w {n : Int} (h0 : 0 ≤ n) (h1 : n < 18446744073709551616) : IntKind.u64.wrap n = n := by
  show n % 18446744073709551616 = n
  exact Int.emod_eq_of_lt h0 h1
theorem rdigits_l (t2 : List UInt8) : ∀ (f n : Nat) (u : Nat) (acc : List UInt8), u < 18446744073709551616 → u < 10 ^ f → acc.length ≤ 100 - f → f ≤ 20 → 0 < f → f < n → hrdigits_0 n (u : Int) t2 acc = some (digsF f u acc, ())
  | 0, n, u, acc, _, _, _, _, h0, _ => absurd h0 (Nat.lt_irrefl 0)
  | f + 1, n, u, acc, hu, h10, hl, hf, _, hn => by
    obtain ⟨m, rfl⟩ : ∃ m, n = m + 1 := ⟨n - 1, by omega⟩
    have e1 : (u : Int).tmod 10 = ((u % 10 : Nat) : Int) := rfl
    have e2 : (u : Int).tdiv 10 = ((u / 10 : Nat) : Int) := rfl
    have e3 : UInt8.ofNat (IntKind.u8.wrap (IntKind.u64.wrap ((48 : Int) + ((u % 10 : Nat) : Int)))).toNat = UInt8.ofNat (48 + u % 10) := by
      rw [u64w (by omega) (by omega), wrap_u8]
      congr 1
      omega
    rw [erdigits_0]
    simp only [e1, e2, e3, List.length_singleton]
    rw [gdT (by omega), gd_nil, u64w (by omega) (by omega)]
    simp only [digsF]
    by_cases h : u / 10 = 0
    · rw [if_pos h, beTd (by omega)]; rfl
    · rw [if_neg h, beFd (by omega)]
      have hf0 : 0 < f := by
        rcases Nat.eq_zero_or_pos f with h' | h'
        · subst h'; simp at h10; omega
        · exact h'
      exact rdigits_l t2 f m (u / 10) (UInt8.ofNat (48 + u % 10) :: acc) (by omega) (by rw [Nat.pow_succ] at h10; omega) (by simp; omega) (by omega) hf0 (by omega)
theorem rdigits_n (u : Int) (h : (decide (0 ≤ u) && decide (u < 18446744073709551616)) = true) : ordigits (u, ()) = some (digs u, ()) := by
  rw [Bool.and_eq_true, decide_eq_true_eq, decide_eq_true_eq] at h
  obtain ⟨n, rfl⟩ : ∃ n : Nat, u = (n : Int) := ⟨u.toNat, by omega⟩
  rw [erdigits]
  have := rdigits_l [] 20 heads0 n [] (by omega) (by omega) (by simp) (by omega) (by omega) (by unfold heads0; omega)
  simpa [digs] using this
theorem digs_len (u : Int) : (digs u).length ≤ 20 := by
  have := digsF_len 20 u.toNat []
  simpa [digs] using this
theorem rDigits_n (n : Int) (h : (decide (-9223372036854775808 ≤ n) && decide (n ≤ 9223372036854775807)) = true) : orDigits (n, ()) = some (digits n, ()) := by
  rw [Bool.and_eq_true, decide_eq_true_eq, decide_eq_true_eq] at h
  rw [erDigits]
  unfold digits
  by_cases h0 : n < 0
  · rw [cdT h0, if_pos h0]
    have i1 : IntKind.u64.wrap ((0 : Int) - (n + 1)) = 0 - (n + 1) := u64w (by omega) (by omega)
    have e : IntKind.u64.wrap (IntKind.u64.wrap ((0 : Int) - (n + 1)) + 1) = -n := by
      rw [i1, u64w (by omega) (by omega)]; omega
    rw [e]
    have hl := digs_len (-n)
    rw [gdT (by omega), gdB (by rw [decide_eq_true (by omega), decide_eq_true (by omega)]; rfl), gdT (by rw [inK_i64]; omega), gdT (by rw [inK_i64]; omega), gd_nil]
    rfl
  · rw [cdF h0, if_neg h0, u64w (by omega) (by omega), gdB (by rw [decide_eq_true (by omega), decide_eq_true (by omega)]; rfl), gd_nil]
theorem digs_c : PC 57 digsS := (pureO (envS_ok (l := []) trivial) gl_ne Tryz.func57 (by kernel_rfl) (by decide)).nice fun ⟨u, ()⟩ h => rdigits_n u h
theorem digits_c : PC 34 digitsS := (pureO (envS_ok (l := [(57, digsS)]) ⟨digs_c, trivial⟩) gl_ne Tryz.func34 (by kernel_rfl) (by decide)).nice fun ⟨n, ()⟩ h => rDigits_n n h
end Go.Proofs.YtnblkjapeiaedaaGreatDoor
namespace Nice
open Go Go.Eng
def valF (a : Nat) (s : List UInt8) : Nat := s.foldl (fun n c => n * 10 + (c.toNat - 48)) a
theorem valF_ge : ∀ (s : List UInt8) (a : Nat), a ≤ valF a s
  | [], a => Nat.le_refl _
  | c :: r, a => by
    have := valF_ge r (a * 10 + (c.toNat - 48))
    show a ≤ valF (a * 10 + (c.toNat - 48)) r
    omega
theorem parse_dig64 : ∀ (s : List UInt8) (a : Nat), allDig s = true → a ≤ 18446744073709551615 →
    (valF a s ≤ 18446744073709551615 → Lib.parseUintM 18446744073709551615 a s = .ok (valF a s)) ∧ (18446744073709551615 < valF a s → Lib.parseUintM 18446744073709551615 a s = .range)
  | [], a, _, ha => ⟨fun _ => rfl, fun h => by simp only [valF, List.foldl_nil] at h; omega⟩
  | c :: r, a, h, ha => by
    simp only [allDig, List.all_cons, Bool.and_eq_true] at h
    have hd := isDig_iff.1 h.1
    have hv : valF a (c :: r) = valF (a * 10 + (c.toNat - 48)) r := rfl
    have hg := valF_ge r (a * 10 + (c.toNat - 48))
    rw [hv]
    simp only [Lib.parseUintM, if_pos hd]
    by_cases h1 : 1844674407370955162 ≤ a
    · rw [if_pos h1]
      exact ⟨fun h => by omega, fun _ => rfl⟩
    · rw [if_neg h1]
      by_cases h2 : 18446744073709551615 < a * 10 + (c.toNat - 48)
      · rw [if_pos h2]
        exact ⟨fun h => by omega, fun _ => rfl⟩
      · rw [if_neg h2]
        exact parse_dig64 r _ h.2 (by omega)
theorem intN_dig {s : List UInt8} (h : allDig s = true) (h1 : s ≠ []) : (numV s < 9223372036854775808 → intN s = ((numV s : Int), true)) ∧ (9223372036854775808 ≤ numV s → (intN s).2 = false) := by
  cases s with
  | nil => exact absurd rfl h1
  | cons c r =>
    have hd : 48 ≤ c.toNat ∧ c.toNat ≤ 57 := by
      simp only [allDig, List.all_cons, Bool.and_eq_true] at h
      exact isDig_iff.1 h.1
    obtain ⟨p1, p2⟩ := parse_dig64 (c :: r) 0 h (by omega)
    have hv : valF 0 (c :: r) = numV (c :: r) := rfl
    rw [hv] at p1 p2
    have e43 : ¬ (c.toNat = 43 ∨ c.toNat = 45) := by omega
    have eB : Lib.parseUintB 64 (c :: r) = Lib.parseUintM 18446744073709551615 0 (c :: r) := by
      unfold Lib.parseUintB; rw [if_neg (by simp)]
    have e45 : ¬ c.toNat = 45 := by omega
    by_cases hr : numV (c :: r) ≤ 18446744073709551615
    · have e : Lib.parseIntB 64 (c :: r) = if 9223372036854775808 ≤ numV (c :: r) then .range else .ok (numV (c :: r) : Int) := by
        rw [Lib.parseIntB_plain 64 c r (by omega) (by omega), eB, p1 hr]
        rfl
      constructor
      · intro hlt
        unfold intN
        rw [e, if_neg (by omega)]
      · intro hge
        unfold intN
        rw [e, if_pos hge]
    · have e : Lib.parseIntB 64 (c :: r) = .range := by
        rw [Lib.parseIntB_plain 64 c r (by omega) (by omega), eB, p2 (by omega)]
        rfl
      constructor
      · intro hlt; omega
      · intro _; unfold intN; rw [e]
theorem numV_snoc (s : List UInt8) (c : UInt8) : numV (s ++ [c]) = numV s * 10 + (c.toNat - 48) := by
  unfold numV; rw [List.foldl_append]; rfl
theorem allDig_snoc (s : List UInt8) (c : UInt8) : allDig (s ++ [c]) = (allDig s && isDig c) := by
  unfold allDig; rw [List.all_append]; simp
theorem digOf {k : Nat} (h : k < 10) : (UInt8.ofNat (48 + k)).toNat = 48 + k := by
  rw [UInt8.toNat_ofNat']; omega
theorem isDig_of {k : Nat} (h : k < 10) : isDig (UInt8.ofNat (48 + k)) = true := by
  rw [isDig_iff, digOf h]; omega
theorem dec_ok (u : Nat) : allDig (Lib.decDigits u) = true ∧ numV (Lib.decDigits u) = u ∧ Lib.decDigits u ≠ [] ∧ (1 ≤ u → (Lib.decDigits u).getD 0 0 ≠ 48) := by
  induction u using Nat.strongRecOn with
  | _ u ih =>
    by_cases h : u < 10
    · rw [Lib.decDigits_one h]
      refine ⟨?_, ?_, by simp, fun h1 e => ?_⟩
      · show (isDig (UInt8.ofNat (48 + u)) && true) = true
        rw [isDig_of h]; rfl
      · show 0 * 10 + ((UInt8.ofNat (48 + u)).toNat - 48) = u
        rw [digOf h]; omega
      · have := congrArg UInt8.toNat (show UInt8.ofNat (48 + u) = 48 from e)
        rw [digOf h] at this
        have e2 : (48 : UInt8).toNat = 48 := rfl
        omega
    · obtain ⟨i1, i2, i3, i4⟩ := ih (u / 10) (by omega)
      rw [Lib.decDigits, dif_neg h]
      refine ⟨?_, ?_, by simp, fun _ => ?_⟩
      · rw [allDig_snoc, i1, isDig_of (by omega)]; rfl
      · rw [numV_snoc, i2, digOf (by omega)]; omega
      · have := i4 (by omega)
        revert this i3
        generalize Lib.decDigits (u / 10) = d
        intro i3 this
        cases d with
        | nil => exact absurd rfl i3
        | cons c r => exact this
theorem fmtN_nat (u : Nat) : fmtN (u : Int) = Lib.decDigits u := by
  show Lib.itoa (u : Int) = _
  unfold Lib.itoa; rw [if_neg (by omega)]; rfl
theorem intN_fmt {u : Nat} (h : u < 9223372036854775808) : intN (fmtN (u : Int)) = ((u : Int), true) := by
  obtain ⟨d1, d2, d3, _⟩ := dec_ok u
  rw [fmtN_nat, (intN_dig d1 d3).1 (by rw [d2]; exact h), d2]
theorem digsF_dec : ∀ (f u : Nat) (acc : List UInt8), u < 10 ^ f → 0 < f → digsF f u acc = Lib.decDigits u ++ acc
  | 0, _, _, _, h => absurd h (Nat.lt_irrefl 0)
  | f + 1, u, acc, hu, _ => by
    unfold digsF
    by_cases h : u < 10
    · rw [if_pos (by omega), Lib.decDigits_one h, Nat.mod_eq_of_lt h]; rfl
    · have hf : 0 < f := by
        rcases Nat.eq_zero_or_pos f with h' | h'
        · subst h'; simp at hu; omega
        · exact h'
      rw [if_neg (by omega), digsF_dec f (u / 10) _ (by rw [Nat.pow_succ] at hu; omega) hf]
      conv => rhs; rw [Lib.decDigits, dif_neg h]
      rw [List.append_assoc]; rfl
theorem digits_fmt {n : Int} (h0 : 0 ≤ n) (h1 : n ≤ 1099511627776) : digits n = fmtN n := by
  obtain ⟨u, rfl⟩ : ∃ u : Nat, n = (u : Int) := ⟨n.toNat, by omega⟩
  unfold digits digs
  rw [if_neg (by omega), fmtN_nat, show ((u : Int)).toNat = u from rfl, digsF_dec 20 u [] (by omega) (by decide), List.append_nil]
end Nice
namespace Go.Proofs.YtnblkjapeiaedaaGreatDoor
open Go Go.Eng Nice Go.RowKit
theorem fmt_len {n : Int} (h0 : 0 ≤ n) (h1 : n ≤ 1099511627776) : (fmtN n).length ≤ 20 := by
  rw [← digits_fmt h0 h1]
  unfold digits
  rw [if_neg (by omega)]
  exact digs_len n
end Go.Proofs.YtnblkjapeiaedaaGreatDoor
namespace Nice
open Go Go.Eng
abbrev BS : Type := Option (DenL [.str])
def sO (s : List UInt8) : BS := some (s, ())
def verL : List UInt8 := [60, 118, 101, 114, 115, 105, 111, 110, 32, 105, 100, 61, 34]
def tagL : List UInt8 := [34, 32, 116, 97, 103, 61, 34]
def cloL : List UInt8 := [34, 47, 62]
def goneL : List UInt8 := [103, 111, 110, 101]
def nameL : List UInt8 := [60, 110, 97, 109, 101, 62]
def nameE : List UInt8 := [60, 47, 110, 97, 109, 101, 62]
def keyL : List UInt8 := [60, 107, 101, 121, 62]
def keyE : List UInt8 := [60, 47, 107, 101, 121, 62]
def kenL : List UInt8 := [60, 107, 101, 121, 62, 60, 110, 97, 109, 101, 62]
def begL : List UInt8 := [60, 108, 105, 115, 116, 62]
def endL : List UInt8 := [60, 47, 108, 105, 115, 116, 62]
def nextL : List UInt8 := [60, 110, 101, 120, 116, 62]
def nextE : List UInt8 := [60, 47, 110, 101, 120, 116, 62]
def verY (d m : List UInt8) : List UInt8 := verL ++ d ++ tagL ++ m ++ cloL
def mkV (v : VerD) : List UInt8 := bif v.2.1 then goneL else tagN v.2.2.1
def verX (v : VerD) : List UInt8 := verY (fmtN v.1) (mkV v)
def versX (l : List VerD) : List UInt8 := l.reverse.flatMap verX
def entX (e : EntD) : List UInt8 := kenL ++ e.1 ++ nameE ++ versX e.2.1 ++ keyE
def nameX (k : List UInt8) : List UInt8 := nameL ++ k ++ nameE
def nextX (m : Bool) (x : List UInt8) : List UInt8 := bif m then nextL ++ x ++ nextE else []
def bodyX (s : ShD) : List UInt8 := begL ++ s.1.flatMap nameX ++ s.2.1.flatMap entX ++ nextX s.2.2.1 s.2.2.2.1 ++ endL
def sputN (s : ShD) : List UInt8 := bif smayN s then bodyX s else []
noncomputable def entXS : PSpec := ⟨[EntT], [.str], fun x => entB x.1, fun x => (entX x.1, ())⟩
noncomputable def sputS : PSpec := ⟨[ShT], [.str], fun x => smayP x.1, fun x => (sputN x.1, ())⟩
theorem mkV_len (v : VerD) : (mkV v).length ≤ 8 := by
  unfold mkV
  cases v.2.1
  · rw [xF, tagN_len]; exact Nat.le_refl _
  · exact (by decide : goneL.length ≤ 8)
theorem verY_len (d m : List UInt8) : (verY d m).length = 23 + d.length + m.length := by
  unfold verY
  simp only [List.length_append, show verL.length = 13 from rfl, show tagL.length = 7 from rfl, show cloL.length = 3 from rfl]
  omega
theorem verX_len {v : VerD} (h : verB v = true) : (verX v).length ≤ 51 := by
  have h1 := mkV_len v
  unfold verB at h
  rw [Bool.and_eq_true, Bool.and_eq_true, decide_eq_true_eq, decide_eq_true_eq] at h
  have := Go.Proofs.YtnblkjapeiaedaaGreatDoor.fmt_len (n := v.1) (by omega) h.2.1
  unfold verX
  rw [verY_len]; omega
theorem riseV_mem : ∀ (l : List VerD) (last : Int), riseV last l = true → ∀ v, v ∈ l → verB v = true
  | [], _, _, v, h => by cases h
  | a :: l, last, h, v, hv => by
    rw [riseV_cons, Bool.and_eq_true, Bool.and_eq_true] at h
    rcases List.mem_cons.1 hv with rfl | hv
    · exact h.1
    · exact riseV_mem l a.1 h.2.2 v hv
theorem entB_iff {e : EntD} : entB e = true ↔ riseV 0 e.2.1 = true ∧ isKey e.1 = true ∧ 1 ≤ e.2.1.length ∧ e.2.1.length ≤ 12 := by
  unfold entB; rw [Bool.and_eq_true, Bool.and_eq_true, Bool.and_eq_true, decide_eq_true_eq, decide_eq_true_eq]
theorem versX_snoc (l : List VerD) (v : VerD) : versX (l ++ [v]) = verX v ++ versX l := by
  unfold versX; rw [List.reverse_append]; rfl
theorem versX_len : ∀ (l : List VerD), (∀ v, v ∈ l → verB v = true) → (versX l).length ≤ 51 * l.length
  | [], _ => Nat.le_refl _
  | v :: l, h => by
    have h1 := versX_len l fun u hu => h u (List.mem_cons_of_mem _ hu)
    have h2 := verX_len (h v List.mem_cons_self)
    have e : versX (v :: l) = versX l ++ verX v := by
      unfold versX; rw [List.reverse_cons, List.flatMap_append]; simp
    rw [e, List.length_append, List.length_cons]; omega
theorem entX_len {e : EntD} (h : entB e = true) : (entX e).length ≤ 700 := by
  obtain ⟨h1, h2, _, h3⟩ := entB_iff.1 h
  have := versX_len e.2.1 (riseV_mem _ _ h1)
  have := isKey_bnd h2
  unfold entX
  simp only [List.length_append, show kenL.length = 11 from rfl, show nameE.length = 7 from rfl, show keyE.length = 6 from rfl]
  omega
noncomputable abbrev gV (t : List UInt8) (i : Int) (d m : List UInt8) : List Bool := [decide (inK .i64 (i - 1)), decide (t.length + (verY d m).length ≤ 1099511627776), decide ((verL ++ d ++ tagL ++ m).length + 3 ≤ 1099511627776), decide ((verL ++ d ++ tagL).length + m.length ≤ 1099511627776), decide ((verL ++ d).length + 7 ≤ 1099511627776), decide (13 + d.length ≤ 1099511627776)]
theorem gV_ok {t d m : List UInt8} {i : Int} (h1 : 0 ≤ i) (h2 : i ≤ 1099511627776) (ht : t.length ≤ 549755813888) (hd : d.length ≤ 20) (hm : m.length ≤ 8) {α : Type} (q : List Bool) (y : Option α) : gd (gV t i d m ++ q) y = gd q y := by
  have e1 := verY_len d m
  have e2 : (verL ++ d ++ tagL ++ m).length = 20 + d.length + m.length := by
    simp only [List.length_append, show verL.length = 13 from rfl, show tagL.length = 7 from rfl]; omega
  have e3 : (verL ++ d ++ tagL).length = 20 + d.length := by
    simp only [List.length_append, show verL.length = 13 from rfl, show tagL.length = 7 from rfl]; omega
  have e4 : (verL ++ d).length = 13 + d.length := by
    simp only [List.length_append, show verL.length = 13 from rfl]
  unfold gV
  simp only [List.cons_append, List.nil_append]
  rw [gdT (inK_i64.2 ⟨by omega, by omega⟩), gdT (by omega), gdT (by omega), gdT (by omega), gdT (by omega), gdT (by omega)]
noncomputable def stepSE (l : List VerD) (t : List UInt8) (i : Int) (nx : List UInt8 → BS) : BS :=
  bif decide (i ≥ 0) then gd [bndS (l.getD i.toNat (VerT).dflt).2.2.1, decide (i.toNat < l.length), decide (0 ≤ i), decide (i < (l.length : Int))] (bif (l.getD i.toNat (VerT).dflt).2.1 then
      gd (gV t i (fmtN (l.getD i.toNat (VerT).dflt).1) goneL ++ [fmtIS.pre ((l.getD i.toNat (VerT).dflt).1, 10, ())]) (nx (t ++ verY (fmtN (l.getD i.toNat (VerT).dflt).1) goneL))
    else gd (gV t i (fmtN (l.getD i.toNat (VerT).dflt).1) (tagN (l.getD i.toNat (VerT).dflt).2.2.1) ++ [fmtIS.pre ((l.getD i.toNat (VerT).dflt).1, 10, ())]) (nx (t ++ verY (fmtN (l.getD i.toNat (VerT).dflt).1) (tagN (l.getD i.toNat (VerT).dflt).2.2.1))))
  else gd [decide (t.length + 6 ≤ 1099511627776)] (sO (t ++ keyE))
end Nice
namespace Go.Proofs.YtnblkjapeiaedaaGreatDoor
open Go Go.Eng Nice Go.RowKit
set_option maxRecDepth 1000000
abbrev shse : List (Nat × List (Nat × Sh)) := [(3, [(1, (.obj [.sym, (.dat VerT)])), (2, (.one .sym)), (3, (.one .sym)), (4, (.one .sym))])]
noncomputable def hse (N : Nat) (k : List UInt8) (l : List VerD) (t : List UInt8) (i : Int) : BS := rH Tryz.prog (envS [(71, gtagS), (72, fmtIS)]) (shOf shse) Tryz.f46 [.str] N 0 [(1, .pointer (some ⟨11, 0, none⟩)), (2, sy (.string (bs []))), (3, sy (.string (bs t))), (4, sy (.int .i64 i))] [.dat VerT l, .row [sy (.string (bs k)), dt 10] 67 false]
noncomputable def ose (x : DenL [EntT]) : BS := fO Tryz.prog (envS [(71, gtagS), (72, fmtIS)]) (shOf shse) Tryz.f46 [EntT] [.str] x
theorem ose_g (x : DenL [EntT]) : ose x = fON Tryz.prog (envS [(71, gtagS), (72, fmtIS)]) (shOf shse) Tryz.f46 [EntT] [.str] heads0 x := rfl
theorem ese_g (N : Nat) (k : List UInt8) (l : List VerD) : fON Tryz.prog (envS [(71, gtagS), (72, fmtIS)]) (shOf shse) Tryz.f46 [EntT] [.str] N ((k, l, ()), ()) = gd [decide (inK .i64 ((l.length : Int) - 1)), decide ((kenL ++ k).length + 7 ≤ 1099511627776), decide (11 + k.length ≤ 1099511627776)] (hse N k l (kenL ++ k ++ nameE) ((l.length : Int) - 1)) := by kernel_rfl
theorem ese_0 (N : Nat) (k : List UInt8) (l : List VerD) (t : List UInt8) (i : Int) : hse (N + 1) k l t i = stepSE l t i (fun t' => hse N k l t' (i - 1)) := by kernel_rfl
theorem se_l (k : List UInt8) (l : List VerD) (hl : l.length ≤ 12) (hv : ∀ v, v ∈ l → verB v = true) : ∀ (j N : Nat) (t : List UInt8), j ≤ l.length → j < N → t.length + 100 * j ≤ 549755813888 → hse N k l t ((j : Int) - 1) = some (t ++ versX (l.take j) ++ keyE, ()) := by
  intro j
  induction j with
  | zero =>
    intro N t _ hN ht
    obtain ⟨N, rfl⟩ : ∃ m, N = m + 1 := ⟨N - 1, by omega⟩
    rw [ese_0]
    unfold stepSE
    rw [cdF (by omega), gdT (by omega), xG, List.take_zero]
    show sO _ = sO (t ++ [] ++ keyE)
    rw [List.append_nil]
  | succ j ih =>
    intro N t hj hN ht
    obtain ⟨N, rfl⟩ : ∃ m, N = m + 1 := ⟨N - 1, by omega⟩
    have hlt : j < l.length := by omega
    have hm : l.getD j (VerT).dflt ∈ l := by
      rw [List.getD_eq_getElem?_getD, List.getElem?_eq_getElem hlt]; exact List.getElem_mem hlt
    have hb := hv _ hm
    have htk : l.take (j + 1) = l.take j ++ [l.getD j (VerT).dflt] := by
      rw [List.take_succ_eq_append_getElem hlt, List.getD_eq_getElem?_getD, List.getElem?_eq_getElem hlt]; rfl
    have hvl := verX_len hb
    have this := ih N (t ++ verX (l.getD j (VerT).dflt)) (by omega) (by omega) (by rw [List.length_append]; omega)
    have hb' := hb
    unfold verB at hb'
    rw [Bool.and_eq_true, Bool.and_eq_true, Bool.and_eq_true, decide_eq_true_eq, decide_eq_true_eq, decide_eq_true_eq] at hb'
    obtain ⟨b1, b2, b3, _⟩ := hb'
    have hf := fmt_len (n := (l.getD j (VerT).dflt).1) (by omega) b2
    have hmk := mkV_len (l.getD j (VerT).dflt)
    have hbd : bndS (l.getD j (VerT).dflt).2.2.1 = true := by unfold bndS; exact decide_eq_true (by omega)
    have hpre : fmtIS.pre ((l.getD j (VerT).dflt).1, 10, ()) = true := by
      show (i64P (l.getD j (VerT).dflt).1 && (10 : Int) == 10) = true
      rw [i64P_iff.2 ⟨by omega, by omega⟩]; rfl
    rw [ese_0]
    unfold stepSE
    rw [cdT (by omega), show (((j + 1 : Nat) : Int) - 1) = (j : Int) by omega, show (j : Int).toNat = j from rfl, gdB hbd, gdT hlt, gdT (by omega), gdT (by omega), xG, htk, versX_snoc, ← List.append_assoc t, ← this]
    unfold verX mkV at hmk ⊢
    cases hg : (l.getD j (VerT).dflt).2.1
    · rw [hg] at hmk
      rw [xF, gV_ok (by omega) (by omega) (by omega) hf (by exact hmk), gdB hpre, xG]; rfl
    · rw [xT, gV_ok (by omega) (by omega) (by omega) hf (by decide), gdB hpre, xG]; rfl
theorem se_c : PC 46 entXS := (pureO (sh := shOf shse) (envS_ok (l := [(71, gtagS), (72, fmtIS)]) ⟨gtag_c, fmtI_c, trivial⟩) gl_ne Tryz.func46 (by kernel_rfl) (by decide)).nice fun ⟨⟨k, l, ()⟩, ()⟩ h => by
  obtain ⟨h1, h2, h3, h4⟩ := entB_iff.1 h
  have h2 := isKey_bnd h2
  have h2 : k.length ≤ 40 := h2
  have h4 : l.length ≤ 12 := h4
  show ose _ = some (entX (k, l, ()), ())
  have e1 : (kenL ++ k).length = 11 + k.length := by rw [List.length_append]; rfl
  have e2 : (kenL ++ k ++ nameE).length = 18 + k.length := by rw [List.length_append, e1, show nameE.length = 7 from rfl]; omega
  rw [ose_g, ese_g, gdT (inK_i64.2 ⟨by omega, by omega⟩), gdT (by omega), gdT (by omega), xG, se_l k l h4 (riseV_mem _ _ h1) l.length heads0 _ (Nat.le_refl _) (by unfold heads0; omega) (by omega), List.take_length]
  rfl
end Go.Proofs.YtnblkjapeiaedaaGreatDoor
namespace Nice
open Go Go.Eng
noncomputable def begSP (s : ShD) (nx : List UInt8 → BS) : BS := bif smayN s then gd [smayP s] (nx begL) else gd [smayP s] (sO [])
noncomputable abbrev gN (t k : List UInt8) (i : Int) : List Bool := [decide (inK .i64 (i + 1)), decide (t.length + (nameX k).length ≤ 1099511627776), decide ((nameL ++ k).length + 7 ≤ 1099511627776), decide (6 + k.length ≤ 1099511627776)]
theorem gN_ok {t k : List UInt8} {i : Int} (h1 : 0 ≤ i) (h2 : i ≤ 1099511627776) (ht : t.length ≤ 549755813888) (hk : k.length ≤ 40) {α : Type} (q : List Bool) (y : Option α) : gd (gN t k i ++ q) y = gd q y := by
  have e1 : (nameX k).length = 13 + k.length := by
    unfold nameX; rw [List.length_append, List.length_append, show nameL.length = 6 from rfl, show nameE.length = 7 from rfl]; omega
  have e2 : (nameL ++ k).length = 6 + k.length := by rw [List.length_append, show nameL.length = 6 from rfl]
  unfold gN
  simp only [List.cons_append, List.nil_append]
  rw [gdT (inK_i64.2 ⟨by omega, by omega⟩), gdT (by omega), gdT (by omega), gdT (by omega)]
noncomputable def stepP0 (k : List (List UInt8)) (t : List UInt8) (m i : Int) (nx : List UInt8 → BS) (ex : BS) : BS :=
  bif decide (i < m) then gd (gN t (k.getD i.toNat Ty.str.dflt) i ++ gI k i) (nx (t ++ nameX (k.getD i.toNat Ty.str.dflt))) else ex
noncomputable def stepP1 (l : List EntD) (t : List UInt8) (m i : Int) (nx : List UInt8 → BS) (ex : BS) : BS :=
  bif decide (i < m) then gd ([decide (inK .i64 (i + 1)), decide (t.length + (entX ((l.getD i.toNat (EntT).dflt).1, (l.getD i.toNat (EntT).dflt).2.1, ())).length ≤ 1099511627776), entB ((l.getD i.toNat (EntT).dflt).1, (l.getD i.toNat (EntT).dflt).2.1, ())] ++ gI l i) (nx (t ++ entX ((l.getD i.toNat (EntT).dflt).1, (l.getD i.toNat (EntT).dflt).2.1, ()))) else ex
noncomputable def exP (b : Bool) (x t : List UInt8) : BS :=
  bif b then gd [decide ((t ++ (nextL ++ x ++ nextE)).length + 7 ≤ 1099511627776), decide (t.length + (nextL ++ x ++ nextE).length ≤ 1099511627776), decide ((nextL ++ x).length + 7 ≤ 1099511627776), decide (6 + x.length ≤ 1099511627776)] (sO (t ++ (nextL ++ x ++ nextE) ++ endL))
  else gd [decide (t.length + 7 ≤ 1099511627776)] (sO (t ++ endL))
theorem exP_n (b : Bool) {x t : List UInt8} (hx : x.length ≤ 40) (ht : t.length ≤ 549755813888) : exP b x t = some (t ++ nextX b x ++ endL, ()) := by
  have e1 : (nextL ++ x ++ nextE).length = 13 + x.length := by
    rw [List.length_append, List.length_append, show nextL.length = 6 from rfl, show nextE.length = 7 from rfl]; omega
  have e2 : (nextL ++ x).length = 6 + x.length := by rw [List.length_append, show nextL.length = 6 from rfl]
  have e3 : (t ++ (nextL ++ x ++ nextE)).length = t.length + (13 + x.length) := by rw [List.length_append, e1]
  unfold exP
  cases b
  · rw [xF, gdT (by omega), xG]
    show sO _ = sO (t ++ [] ++ endL)
    rw [List.append_nil]
  · rw [xT, gdT (by omega), gdT (by omega), gdT (by omega), gdT (by omega), xG]; rfl
/-- what a list that may be has -/
theorem smayN_iff {s : ShD} (h : smayN s = true) : (∀ k, k ∈ s.1 → isKey k = true) ∧ (∀ e, e ∈ s.2.1 → entB e = true) ∧ s.1.length ≤ 20 ∧ s.2.1.length ≤ 20 ∧ s.2.2.2.1.length ≤ 40 := by
  unfold smayN at h
  rw [Bool.and_eq_true, Bool.and_eq_true, Bool.and_eq_true, Bool.and_eq_true, decide_eq_true_eq, List.all_eq_true] at h
  obtain ⟨_, h1, h2, h3, h4⟩ := h
  have hkl : (keysN s.1 s.2.1).length = s.1.length + s.2.1.length := by unfold keysN; rw [List.length_append, List.length_map]
  have hall : ∀ (l : List (List UInt8)) (t : List UInt8), riseK t l = true → ∀ k, k ∈ l → isKey k = true := fun l => by
    induction l with
    | nil => intro t _ k hk; cases hk
    | cons a l ih =>
      intro t ht k hk
      rw [riseK_cons, Bool.and_eq_true, Bool.and_eq_true] at ht
      rcases List.mem_cons.1 hk with rfl | hk
      · exact ht.1
      · exact ih a ht.2.2 k hk
  have hlast : ∀ (l : List (List UInt8)) (t : List UInt8), t.length ≤ 40 → riseK t l = true → (lastK t l).length ≤ 40 := fun l => by
    induction l with
    | nil => intro t ht _; exact ht
    | cons a l ih =>
      intro t _ ht
      rw [riseK_cons, Bool.and_eq_true, Bool.and_eq_true] at ht
      exact ih a (isKey_bnd ht.1) ht.2.2
  refine ⟨fun k hk => hall _ [] h1 k (List.mem_append_left _ hk), h2, by omega, by omega, ?_⟩
  cases hb : s.2.2.1
  · rw [hb, xF, beq_iff_eq] at h4
    rw [h4]; exact Nat.zero_le _
  · rw [hb, xT, Bool.and_eq_true, beq_iff_eq] at h4
    rw [h4.2]; exact hlast _ [] (Nat.zero_le _) h1
end Nice
namespace Go.Proofs.YtnblkjapeiaedaaGreatDoor
open Go Go.Eng Nice Go.RowKit
set_option maxRecDepth 1000000
abbrev shsp : List (Nat × List (Nat × Sh)) := [(5, [(1, (.obj [(.dat .str), (.dat EntT), .sym, .sym])), (2, (.one .sym)), (3, (.one .sym)), (12, (.one (.dat .str))), (13, (.one .sym)), (14, (.one .sym))]), (10, [(1, (.obj [(.dat .str), (.dat EntT), .sym, .sym])), (2, (.one .sym)), (3, (.one .sym)), (25, (.one (.dat EntT))), (26, (.one .sym)), (27, (.one .sym))])]
noncomputable def hsp0 (N : Nat) (n : List (List UInt8)) (l : List EntD) (b : Bool) (x t : List UInt8) (k : List (List UInt8)) (m i : Int) : BS := rH Tryz.prog (envS [(28, smayS), (46, entXS)]) (shOf shsp) Tryz.f27 [.str] N 0 [(1, .pointer (some ⟨12, 0, none⟩)), (2, sy (.string (bs []))), (3, sy (.string (bs t))), (12, dt 13), (13, sy (.int .i64 m)), (14, sy (.int .i64 i))] [.dat .str n, .dat EntT l, .row [dt 10, dt 11, .bool b, sy (.string (bs x))] 46 false, .dat .str k]
noncomputable def hsp1 (N : Nat) (n : List (List UInt8)) (l : List EntD) (b : Bool) (x t : List UInt8) (k : List EntD) (m i : Int) : BS := rH Tryz.prog (envS [(28, smayS), (46, entXS)]) (shOf shsp) Tryz.f27 [.str] N 1 [(1, .pointer (some ⟨12, 0, none⟩)), (2, sy (.string (bs []))), (3, sy (.string (bs t))), (25, dt 13), (26, sy (.int .i64 m)), (27, sy (.int .i64 i))] [.dat .str n, .dat EntT l, .row [dt 10, dt 11, .bool b, sy (.string (bs x))] 46 false, .dat EntT k]
noncomputable def osp (x : DenL [ShT]) : BS := fO Tryz.prog (envS [(28, smayS), (46, entXS)]) (shOf shsp) Tryz.f27 [ShT] [.str] x
theorem osp_g (x : DenL [ShT]) : osp x = fON Tryz.prog (envS [(28, smayS), (46, entXS)]) (shOf shsp) Tryz.f27 [ShT] [.str] heads0 x := rfl
theorem espT_g (N : Nat) (n : List (List UInt8)) (l : List EntD) (x : List UInt8) : fON Tryz.prog (envS [(28, smayS), (46, entXS)]) (shOf shsp) Tryz.f27 [ShT] [.str] N ((n, l, true, x, ()), ()) = begSP (n, l, true, x, ()) (fun t => hsp0 N n l true x t n (n.length : Int) 0) := by kernel_rfl
theorem espF_g (N : Nat) (n : List (List UInt8)) (l : List EntD) (x : List UInt8) : fON Tryz.prog (envS [(28, smayS), (46, entXS)]) (shOf shsp) Tryz.f27 [ShT] [.str] N ((n, l, false, x, ()), ()) = begSP (n, l, false, x, ()) (fun t => hsp0 N n l false x t n (n.length : Int) 0) := by kernel_rfl
theorem esp0 (N : Nat) (n : List (List UInt8)) (l : List EntD) (b : Bool) (x t : List UInt8) (k : List (List UInt8)) (m i : Int) : hsp0 (N + 1) n l b x t k m i = stepP0 k t m i (fun t' => hsp0 N n l b x t' k m (i + 1)) (hsp1 N n l b x t l (l.length : Int) 0) := by kernel_rfl
theorem esp1 (N : Nat) (n : List (List UInt8)) (l : List EntD) (b : Bool) (x t : List UInt8) (k : List EntD) (m i : Int) : hsp1 (N + 1) n l b x t k m i = stepP1 k t m i (fun t' => hsp1 N n l b x t' k m (i + 1)) (exP b x t) := by kernel_rfl
theorem sp1_l (n : List (List UInt8)) (l : List EntD) (b : Bool) (x : List UInt8) (hx : x.length ≤ 40) (hl : l.length ≤ 20) (hp : ∀ e, e ∈ l → entB e = true) : ∀ (r i N : Nat) (t : List UInt8), l.length = i + r → r < N → t.length + 1000 * r ≤ 549755813888 → hsp1 N n l b x t l (l.length : Int) (i : Int) = some (t ++ (l.drop i).flatMap entX ++ nextX b x ++ endL, ()) := by
  intro r
  induction r with
  | zero =>
    intro i N t hi hN ht
    obtain ⟨N, rfl⟩ : ∃ m, N = m + 1 := ⟨N - 1, by omega⟩
    rw [esp1]
    unfold stepP1
    rw [cdF (by omega), List.drop_eq_nil_of_le (by omega), exP_n b hx (by omega)]
    simp
  | succ r ih =>
    intro i N t hi hN ht
    obtain ⟨N, rfl⟩ : ∃ m, N = m + 1 := ⟨N - 1, by omega⟩
    have hlt : i < l.length := by omega
    have hd : l.drop i = l.getD i (EntT).dflt :: l.drop (i + 1) := by
      rw [List.drop_eq_getElem_cons hlt, List.getD_eq_getElem?_getD, List.getElem?_eq_getElem hlt]; rfl
    have hh : entB (l.getD i (EntT).dflt) = true := hp _ (by
      rw [List.getD_eq_getElem?_getD, List.getElem?_eq_getElem hlt]; exact List.getElem_mem hlt)
    have hel := entX_len hh
    have this := ih (i + 1) N (t ++ entX (l.getD i (EntT).dflt)) (by omega) (by omega) (by rw [List.length_append]; omega)
    simp only [Int.natCast_add, Int.natCast_one] at this
    rw [esp1]
    unfold stepP1
    simp only [List.cons_append, List.nil_append]
    unfold gI
    rw [cdT (by omega), show (i : Int).toNat = i from rfl, show ((l.getD i (EntT).dflt).1, (l.getD i (EntT).dflt).2.1, ()) = l.getD i (EntT).dflt from rfl, gdT (inK_i64.2 ⟨by omega, by omega⟩), gdT (by omega), gdB hh, gdT hlt, gdT (by omega), gdT (by omega), xG, this, hd, List.flatMap_cons, List.append_assoc t]
theorem sp0_l (n : List (List UInt8)) (l : List EntD) (b : Bool) (x : List UInt8) (hx : x.length ≤ 40) (hl : l.length ≤ 20) (hp : ∀ e, e ∈ l → entB e = true) (hn : n.length ≤ 20) (hk : ∀ k, k ∈ n → isKey k = true) : ∀ (r i N : Nat) (t : List UInt8), n.length = i + r → r + l.length + 2 < N → t.length + 100 * r ≤ 274877906944 → hsp0 N n l b x t n (n.length : Int) (i : Int) = some (t ++ (n.drop i).flatMap nameX ++ l.flatMap entX ++ nextX b x ++ endL, ()) := by
  intro r
  induction r with
  | zero =>
    intro i N t hi hN ht
    obtain ⟨N, rfl⟩ : ∃ m, N = m + 1 := ⟨N - 1, by omega⟩
    have := sp1_l n l b x hx hl hp l.length 0 N t (by omega) (by omega) (by omega)
    rw [esp0]
    unfold stepP0
    rw [cdF (by omega), List.drop_eq_nil_of_le (by omega)]
    refine Eq.trans this ?_
    simp
  | succ r ih =>
    intro i N t hi hN ht
    obtain ⟨N, rfl⟩ : ∃ m, N = m + 1 := ⟨N - 1, by omega⟩
    have hlt : i < n.length := by omega
    have hd : n.drop i = n.getD i [] :: n.drop (i + 1) := by
      rw [List.drop_eq_getElem_cons hlt, List.getD_eq_getElem?_getD, List.getElem?_eq_getElem hlt]; rfl
    have hh := isKey_bnd (hk (n.getD i []) (by
      rw [List.getD_eq_getElem?_getD, List.getElem?_eq_getElem hlt]; exact List.getElem_mem hlt))
    have e1 : (nameX (n.getD i [])).length = 13 + (n.getD i []).length := by
      unfold nameX; rw [List.length_append, List.length_append, show nameL.length = 6 from rfl, show nameE.length = 7 from rfl]; omega
    have this := ih (i + 1) N (t ++ nameX (n.getD i [])) (by omega) (by omega) (by rw [List.length_append]; omega)
    simp only [Int.natCast_add, Int.natCast_one] at this
    rw [esp0]
    unfold stepP0
    rw [cdT (by omega), show (i : Int).toNat = i from rfl, show n.getD i Ty.str.dflt = n.getD i [] from rfl, gN_ok (by omega) (by omega) (by omega) hh]
    unfold gI
    rw [show (i : Int).toNat = i from rfl, gdT hlt, gdT (by omega), gdT (by omega), xG]
    refine Eq.trans this ?_
    rw [hd, List.flatMap_cons, List.append_assoc t]
theorem sp_n {n : List (List UInt8)} {l : List EntD} {b : Bool} {x : List UInt8} (h : smayP (n, l, b, x, ()) = true) : begSP (n, l, b, x, ()) (fun t => hsp0 heads0 n l b x t n (n.length : Int) 0) = some (sputN (n, l, b, x, ()), ()) := by
  unfold begSP sputN
  rw [gdB h, gdB h, xG, xG]
  cases hm : smayN (n, l, b, x, ())
  · rfl
  · obtain ⟨h1, h2, h3, h4, h5⟩ := smayN_iff hm
    have h3 : n.length ≤ 20 := h3
    have h4 : l.length ≤ 20 := h4
    have := sp0_l n l b x h5 h4 h2 h3 h1 n.length 0 heads0 begL (by omega) (by unfold heads0; omega) (by rw [show begL.length = 6 from rfl]; omega)
    rw [List.drop_zero] at this
    exact this
theorem sput_c : PC 27 sputS := (pureO (sh := shOf shsp) (envS_ok (l := [(28, smayS), (46, entXS)]) ⟨smay_c, se_c, trivial⟩) gl_ne Tryz.func27 (by kernel_rfl) (by decide)).nice fun ⟨⟨n, l, b, x, ()⟩, ()⟩ h => by
  show osp _ = some (sputN (n, l, b, x, ()), ())
  rw [osp_g]
  cases b
  · rw [espF_g]; exact sp_n h
  · rw [espT_g]; exact sp_n h
end Go.Proofs.YtnblkjapeiaedaaGreatDoor
namespace Nice
open Go Go.Eng
noncomputable def stepR2a (l : List EntD) (t : List UInt8) (i : Int) (nx : List UInt8 → List UInt8 → List VerD → BS) (ex : BS) : BS :=
  bif decide (i < (l.length : Int)) then gd ([decide (inK .i64 (((l.getD i.toNat (EntT).dflt).2.1.length : Int) - 1)), decide (t.length + (kenL ++ (l.getD i.toNat (EntT).dflt).1 ++ nameE).length ≤ 1099511627776), decide ((kenL ++ (l.getD i.toNat (EntT).dflt).1).length + 7 ≤ 1099511627776), decide (11 + (l.getD i.toNat (EntT).dflt).1.length ≤ 1099511627776)] ++ gI l i) (nx (t ++ (kenL ++ (l.getD i.toNat (EntT).dflt).1 ++ nameE)) (l.getD i.toNat (EntT).dflt).1 (l.getD i.toNat (EntT).dflt).2.1) else ex
noncomputable def stepR2b (l : List VerD) (t : List UInt8) (i j : Int) (nx : List UInt8 → BS) (ex : List UInt8 → BS) : BS :=
  bif decide (j ≥ 0) then gd [bndS (l.getD j.toNat (VerT).dflt).2.2.1, decide (j.toNat < l.length), decide (0 ≤ j), decide (j < (l.length : Int))] (bif (l.getD j.toNat (VerT).dflt).2.1 then
      gd (gV t j (digits (l.getD j.toNat (VerT).dflt).1) goneL ++ (digitsS.pre ((l.getD j.toNat (VerT).dflt).1, ()) :: (gI l j ++ gI l j))) (nx (t ++ verY (digits (l.getD j.toNat (VerT).dflt).1) goneL))
    else gd (gV t j (digits (l.getD j.toNat (VerT).dflt).1) (tagN (l.getD j.toNat (VerT).dflt).2.2.1) ++ (digitsS.pre ((l.getD j.toNat (VerT).dflt).1, ()) :: (gI l j ++ gI l j))) (nx (t ++ verY (digits (l.getD j.toNat (VerT).dflt).1) (tagN (l.getD j.toNat (VerT).dflt).2.2.1))))
  else gd [decide (inK .i64 (i + 1)), decide (t.length + 6 ≤ 1099511627776)] (ex (t ++ keyE))
theorem gI_ok {α β : Type} {l : List α} {i : Nat} (h : i < l.length) (q : List Bool) (y : Option β) : gd (gI l (i : Int) ++ q) y = gd q y := by
  unfold gI
  simp only [List.cons_append, List.nil_append]
  rw [show (i : Int).toNat = i from rfl, gdT h, gdT (by omega), gdT (by omega)]
theorem gI_ok0 {α β : Type} {l : List α} {i : Nat} (h : i < l.length) (y : Option β) : gd (gI l (i : Int)) y = y := by
  have := gI_ok h [] y
  rw [List.append_nil, xG] at this
  exact this
end Nice
namespace Go.Proofs.YtnblkjapeiaedaaGreatDoor
open Go Go.Eng Nice Go.RowKit
set_option maxRecDepth 1000000
abbrev shrp : List (Nat × List (Nat × Sh)) := [(5, [(1, (.obj [(.dat .str), (.dat EntT), .sym, .sym])), (2, (.one .sym)), (3, (.one .sym)), (4, (.one .sym))]), (9, [(1, (.obj [(.dat .str), (.dat EntT), .sym, .sym])), (2, (.one .sym)), (3, (.one .sym)), (5, (.one .sym))]), (14, [(1, (.obj [(.dat .str), (.dat EntT), .sym, .sym])), (2, (.one .sym)), (3, (.one .sym)), (5, (.one .sym)), (6, (.obj [.sym, (.dat VerT)])), (7, (.one .sym))])]
noncomputable abbrev enrp : Eng.Env := envS [(29, smayS), (34, digitsS), (35, tagS)]
noncomputable def hrp0 (N : Nat) (n : List (List UInt8)) (l : List EntD) (b : Bool) (x t : List UInt8) (i : Int) : BS := rH Tryz.prog enrp (shOf shrp) Tryz.f30 [.str] N 0 [(1, .pointer (some ⟨12, 0, none⟩)), (2, sy (.string (bs []))), (3, sy (.string (bs t))), (4, sy (.int .i64 i))] [.dat .str n, .dat EntT l, .row [dt 10, dt 11, .bool b, sy (.string (bs x))] 44 false]
noncomputable def hrp1 (N : Nat) (n : List (List UInt8)) (l : List EntD) (b : Bool) (x t : List UInt8) (i : Int) : BS := rH Tryz.prog enrp (shOf shrp) Tryz.f30 [.str] N 1 [(1, .pointer (some ⟨12, 0, none⟩)), (2, sy (.string (bs []))), (3, sy (.string (bs t))), (5, sy (.int .i64 i))] [.dat .str n, .dat EntT l, .row [dt 10, dt 11, .bool b, sy (.string (bs x))] 44 false]
noncomputable def hrp2 (N : Nat) (n : List (List UInt8)) (l : List EntD) (b : Bool) (x t : List UInt8) (i : Int) (k : List UInt8) (v : List VerD) (j : Int) : BS := rH Tryz.prog enrp (shOf shrp) Tryz.f30 [.str] N 2 [(1, .pointer (some ⟨12, 0, none⟩)), (2, sy (.string (bs []))), (3, sy (.string (bs t))), (5, sy (.int .i64 i)), (6, .pointer (some ⟨14, 0, none⟩)), (7, sy (.int .i64 j))] [.dat .str n, .dat EntT l, .row [dt 10, dt 11, .bool b, sy (.string (bs x))] 44 false, .dat VerT v, .row [sy (.string (bs k)), dt 13] 67 false]
noncomputable def orp (x : DenL [ShT]) : BS := fO Tryz.prog enrp (shOf shrp) Tryz.f30 [ShT] [.str] x
theorem orp_g (x : DenL [ShT]) : orp x = fON Tryz.prog enrp (shOf shrp) Tryz.f30 [ShT] [.str] heads0 x := rfl
theorem erpT_g (N : Nat) (n : List (List UInt8)) (l : List EntD) (x : List UInt8) : fON Tryz.prog enrp (shOf shrp) Tryz.f30 [ShT] [.str] N ((n, l, true, x, ()), ()) = begSP (n, l, true, x, ()) (fun t => hrp0 N n l true x t 0) := by kernel_rfl
theorem erpF_g (N : Nat) (n : List (List UInt8)) (l : List EntD) (x : List UInt8) : fON Tryz.prog enrp (shOf shrp) Tryz.f30 [ShT] [.str] N ((n, l, false, x, ()), ()) = begSP (n, l, false, x, ()) (fun t => hrp0 N n l false x t 0) := by kernel_rfl
theorem erp0 (N : Nat) (n : List (List UInt8)) (l : List EntD) (b : Bool) (x t : List UInt8) (i : Int) : hrp0 (N + 1) n l b x t i = stepP0 n t (n.length : Int) i (fun t' => hrp0 N n l b x t' (i + 1)) (hrp1 N n l b x t 0) := by kernel_rfl
theorem erp1 (N : Nat) (n : List (List UInt8)) (l : List EntD) (b : Bool) (x t : List UInt8) (i : Int) : hrp1 (N + 1) n l b x t i = stepR2a l t i (fun t' k v => hrp2 N n l b x t' i k v ((v.length : Int) - 1)) (exP b x t) := by kernel_rfl
theorem erp2 (N : Nat) (n : List (List UInt8)) (l : List EntD) (b : Bool) (x t : List UInt8) (i : Int) (k : List UInt8) (v : List VerD) (j : Int) : hrp2 (N + 1) n l b x t i k v j = stepR2b v t i j (fun t' => hrp2 N n l b x t' i k v (j - 1)) (fun t' => hrp1 N n l b x t' (i + 1)) := by kernel_rfl
theorem rp2_l (n : List (List UInt8)) (l : List EntD) (b : Bool) (x : List UInt8) (i : Nat) (hi : i ≤ 20) (k : List UInt8) (v : List VerD) (hl : v.length ≤ 12) (hv : ∀ u, u ∈ v → verB u = true) : ∀ (j N : Nat) (t : List UInt8), j ≤ v.length → j < N → t.length + 100 * j ≤ 549755813888 → hrp2 N n l b x t (i : Int) k v ((j : Int) - 1) = hrp1 (N - j - 1) n l b x (t ++ versX (v.take j) ++ keyE) ((i : Int) + 1) := by
  intro j
  induction j with
  | zero =>
    intro N t _ hN ht
    obtain ⟨N, rfl⟩ : ∃ m, N = m + 1 := ⟨N - 1, by omega⟩
    rw [erp2]
    unfold stepR2b
    rw [cdF (by omega), gdT (inK_i64.2 ⟨by omega, by omega⟩), gdT (by omega), xG, List.take_zero, show N + 1 - 0 - 1 = N by omega]
    show hrp1 N n l b x (t ++ keyE) _ = hrp1 N n l b x (t ++ [] ++ keyE) _
    rw [List.append_nil]
  | succ j ih =>
    intro N t hj hN ht
    obtain ⟨N, rfl⟩ : ∃ m, N = m + 1 := ⟨N - 1, by omega⟩
    have hlt : j < v.length := by omega
    have hm : v.getD j (VerT).dflt ∈ v := by
      rw [List.getD_eq_getElem?_getD, List.getElem?_eq_getElem hlt]; exact List.getElem_mem hlt
    have hb := hv _ hm
    have htk : v.take (j + 1) = v.take j ++ [v.getD j (VerT).dflt] := by
      rw [List.take_succ_eq_append_getElem hlt, List.getD_eq_getElem?_getD, List.getElem?_eq_getElem hlt]; rfl
    have hvl := verX_len hb
    have this := ih N (t ++ verX (v.getD j (VerT).dflt)) (by omega) (by omega) (by rw [List.length_append]; omega)
    have hb' := hb
    unfold verB at hb'
    rw [Bool.and_eq_true, Bool.and_eq_true, Bool.and_eq_true, decide_eq_true_eq, decide_eq_true_eq, decide_eq_true_eq] at hb'
    obtain ⟨b1, b2, b3, _⟩ := hb'
    have hf := fmt_len (n := (v.getD j (VerT).dflt).1) (by omega) b2
    have hdg := digits_fmt (n := (v.getD j (VerT).dflt).1) (by omega) b2
    have hmk := mkV_len (v.getD j (VerT).dflt)
    have hbd : bndS (v.getD j (VerT).dflt).2.2.1 = true := by unfold bndS; exact decide_eq_true (by omega)
    have hpre : digitsS.pre ((v.getD j (VerT).dflt).1, ()) = true := by
      show (decide (-9223372036854775808 ≤ (v.getD j (VerT).dflt).1) && decide ((v.getD j (VerT).dflt).1 ≤ 9223372036854775807)) = true
      rw [Bool.and_eq_true, decide_eq_true_eq, decide_eq_true_eq]; omega
    rw [erp2]
    unfold stepR2b
    rw [cdT (by omega), show (((j + 1 : Nat) : Int) - 1) = (j : Int) by omega, show (j : Int).toNat = j from rfl, gdB hbd, gdT hlt, gdT (by omega), gdT (by omega), xG, htk, versX_snoc, ← List.append_assoc t, show N + 1 - (j + 1) - 1 = N - j - 1 by omega, ← this, hdg]
    unfold verX mkV at hmk ⊢
    cases hg : (v.getD j (VerT).dflt).2.1
    · rw [hg] at hmk
      rw [xF, gV_ok (by omega) (by omega) (by omega) hf (by exact hmk), gdB hpre, gI_ok hlt, gI_ok0 hlt]; rfl
    · rw [xT, gV_ok (by omega) (by omega) (by omega) hf (by decide), gdB hpre, gI_ok hlt, gI_ok0 hlt]; rfl
theorem rp1_l (n : List (List UInt8)) (l : List EntD) (b : Bool) (x : List UInt8) (hx : x.length ≤ 40) (hl : l.length ≤ 20) (hp : ∀ e, e ∈ l → entB e = true) : ∀ (r i N : Nat) (t : List UInt8), l.length = i + r → 15 * r < N → t.length + 2000 * r ≤ 274877906944 → hrp1 N n l b x t (i : Int) = some (t ++ (l.drop i).flatMap entX ++ nextX b x ++ endL, ()) := by
  intro r
  induction r with
  | zero =>
    intro i N t hi hN ht
    obtain ⟨N, rfl⟩ : ∃ m, N = m + 1 := ⟨N - 1, by omega⟩
    rw [erp1]
    unfold stepR2a
    rw [cdF (by omega), List.drop_eq_nil_of_le (by omega), exP_n b hx (by omega)]
    simp
  | succ r ih =>
    intro i N t hi hN ht
    obtain ⟨N, rfl⟩ : ∃ m, N = m + 1 := ⟨N - 1, by omega⟩
    have hlt : i < l.length := by omega
    have hd : l.drop i = l.getD i (EntT).dflt :: l.drop (i + 1) := by
      rw [List.drop_eq_getElem_cons hlt, List.getD_eq_getElem?_getD, List.getElem?_eq_getElem hlt]; rfl
    have hh : entB (l.getD i (EntT).dflt) = true := hp _ (by
      rw [List.getD_eq_getElem?_getD, List.getElem?_eq_getElem hlt]; exact List.getElem_mem hlt)
    have hel := entX_len hh
    obtain ⟨q1, q2, q3, q4⟩ := entB_iff.1 hh
    have q2 := isKey_bnd q2
    have hvm := riseV_mem _ _ q1
    have e1 : (kenL ++ (l.getD i (EntT).dflt).1).length = 11 + (l.getD i (EntT).dflt).1.length := by rw [List.length_append]; rfl
    have e2 : (kenL ++ (l.getD i (EntT).dflt).1 ++ nameE).length = 18 + (l.getD i (EntT).dflt).1.length := by rw [List.length_append, e1, show nameE.length = 7 from rfl]; omega
    have h2 := rp2_l n l b x i (by omega) (l.getD i (EntT).dflt).1 (l.getD i (EntT).dflt).2.1 q4 hvm (l.getD i (EntT).dflt).2.1.length N (t ++ (kenL ++ (l.getD i (EntT).dflt).1 ++ nameE)) (Nat.le_refl _) (by omega) (by rw [List.length_append, e2]; omega)
    rw [List.take_length, show t ++ (kenL ++ (l.getD i (EntT).dflt).1 ++ nameE) ++ versX (l.getD i (EntT).dflt).2.1 ++ keyE = t ++ entX (l.getD i (EntT).dflt) by unfold entX; simp only [List.append_assoc]] at h2
    have this := ih (i + 1) (N - (l.getD i (EntT).dflt).2.1.length - 1) (t ++ entX (l.getD i (EntT).dflt)) (by omega) (by omega) (by rw [List.length_append]; omega)
    simp only [Int.natCast_add, Int.natCast_one] at this
    rw [erp1]
    unfold stepR2a
    simp only [List.cons_append, List.nil_append]
    rw [cdT (by omega), show (i : Int).toNat = i from rfl, gdT (inK_i64.2 ⟨by omega, by omega⟩), gdT (by omega), gdT (by omega), gdT (by omega)]
    unfold gI
    rw [show (i : Int).toNat = i from rfl, gdT hlt, gdT (by omega), gdT (by omega), xG]
    refine Eq.trans h2 (Eq.trans this ?_)
    rw [hd, List.flatMap_cons, List.append_assoc t]
theorem rp0_l (n : List (List UInt8)) (l : List EntD) (b : Bool) (x : List UInt8) (hx : x.length ≤ 40) (hl : l.length ≤ 20) (hp : ∀ e, e ∈ l → entB e = true) (hn : n.length ≤ 20) (hk : ∀ k, k ∈ n → isKey k = true) : ∀ (r i N : Nat) (t : List UInt8), n.length = i + r → r + 15 * l.length + 2 < N → t.length + 100 * r ≤ 137438953472 → hrp0 N n l b x t (i : Int) = some (t ++ (n.drop i).flatMap nameX ++ l.flatMap entX ++ nextX b x ++ endL, ()) := by
  intro r
  induction r with
  | zero =>
    intro i N t hi hN ht
    obtain ⟨N, rfl⟩ : ∃ m, N = m + 1 := ⟨N - 1, by omega⟩
    have := rp1_l n l b x hx hl hp l.length 0 N t (by omega) (by omega) (by omega)
    rw [erp0]
    unfold stepP0
    rw [cdF (by omega), List.drop_eq_nil_of_le (by omega)]
    refine Eq.trans this ?_
    simp
  | succ r ih =>
    intro i N t hi hN ht
    obtain ⟨N, rfl⟩ : ∃ m, N = m + 1 := ⟨N - 1, by omega⟩
    have hlt : i < n.length := by omega
    have hd : n.drop i = n.getD i [] :: n.drop (i + 1) := by
      rw [List.drop_eq_getElem_cons hlt, List.getD_eq_getElem?_getD, List.getElem?_eq_getElem hlt]; rfl
    have hh := isKey_bnd (hk (n.getD i []) (by
      rw [List.getD_eq_getElem?_getD, List.getElem?_eq_getElem hlt]; exact List.getElem_mem hlt))
    have e1 : (nameX (n.getD i [])).length = 13 + (n.getD i []).length := by
      unfold nameX; rw [List.length_append, List.length_append, show nameL.length = 6 from rfl, show nameE.length = 7 from rfl]; omega
    have this := ih (i + 1) N (t ++ nameX (n.getD i [])) (by omega) (by omega) (by rw [List.length_append]; omega)
    simp only [Int.natCast_add, Int.natCast_one] at this
    rw [erp0]
    unfold stepP0
    rw [cdT (by omega), show (i : Int).toNat = i from rfl, show n.getD i Ty.str.dflt = n.getD i [] from rfl, gN_ok (by omega) (by omega) (by omega) hh, gI_ok0 hlt]
    refine Eq.trans this ?_
    rw [hd, List.flatMap_cons, List.append_assoc t]
theorem rp_n {n : List (List UInt8)} {l : List EntD} {b : Bool} {x : List UInt8} (h : smayP (n, l, b, x, ()) = true) : begSP (n, l, b, x, ()) (fun t => hrp0 heads0 n l b x t 0) = some (sputN (n, l, b, x, ()), ()) := by
  unfold begSP sputN
  rw [gdB h, gdB h, xG, xG]
  cases hm : smayN (n, l, b, x, ())
  · rfl
  · obtain ⟨h1, h2, h3, h4, h5⟩ := smayN_iff hm
    have h3 : n.length ≤ 20 := h3
    have h4 : l.length ≤ 20 := h4
    have := rp0_l n l b x h5 h4 h2 h3 h1 n.length 0 heads0 begL (by omega) (by unfold heads0; omega) (by rw [show begL.length = 6 from rfl]; omega)
    rw [List.drop_zero] at this
    exact this
theorem rsput_c : PC 30 sputS := (pureO (sh := shOf shrp) (envS_ok (l := [(29, smayS), (34, digitsS), (35, tagS)]) ⟨rsmay_c, digits_c, tag_c, trivial⟩) gl_ne Tryz.func30 (by kernel_rfl) (by decide)).nice fun ⟨⟨n, l, b, x, ()⟩, ()⟩ h => by
  show orp _ = some (sputN (n, l, b, x, ()), ())
  rw [orp_g]
  cases b
  · rw [erpF_g]; exact rp_n h
  · rw [erpT_g]; exact rp_n h
end Go.Proofs.YtnblkjapeiaedaaGreatDoor
