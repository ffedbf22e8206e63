/-
  Part of the proof: NiceK PFl PSplit NiceT NiceC PAsk PQ NiceG. No condition.
-/
import Derived.Test.YtpdbgpkedehpgaaGreatDoorNice
import Derived.Shelf.GgClosure.StringsIndexFuncTop
import Derived.Shelf.Strconv.ParseIntPublic10
import Derived.Test.YtpdbgpkedehpgaaGreatDoorEng11
import Derived.Lib.SplitLaws
import Derived.Lib.ParseIntBCases
namespace Nice
open Go Go.Eng
def keyCh (c : UInt8) : Bool := decide (97 ≤ c.toNat ∧ c.toNat ≤ 122 ∨ 48 ≤ c.toNat ∧ c.toNat ≤ 57 ∨ c.toNat = 46 ∨ c.toNat = 45 ∨ c.toNat = 95 ∨ c.toNat = 47)
def isKey (s : List UInt8) : Bool := s.all keyCh && (decide (1 ≤ s.length) && decide (s.length ≤ 40))
def bndS (s : List UInt8) : Bool := decide (s.length ≤ 140737488355328)
def notDig (r : Nat) : Bool := decide (r < 48) || decide (57 < r)
def idxF (s : List UInt8) : Int := Lib.idxFunc notDig true (bs s)
def intN (s : List UInt8) : Int × Bool := match Lib.parseIntB 64 s with
  | .ok v => (v, true)
  | Lib.NumEnd.syntax => (0, false)
  | .range => (Lib.intSat 64 s, false)
def numN (s : List UInt8) (most lo hi : Int) : Int × Bool := ((intN s).1, allDig s && ((intN s).2 && (decide ((s.length : Int) ≤ most) && (decide ((intN s).1 ≥ lo) && decide ((intN s).1 ≤ hi)))))
def hasPre (s p : List UInt8) : Bool := decide (p.length ≤ s.length) && s.take p.length == p
def hasSuf (s p : List UInt8) : Bool := decide (p.length ≤ s.length) && s.drop (s.length - p.length) == p
def cutPre (s p : List UInt8) : List UInt8 × Bool := bif hasPre s p then (s.drop p.length, true) else (s, false)
def cutSuf (s p : List UInt8) : List UInt8 × Bool := bif hasSuf s p then (s.take (s.length - p.length), true) else (s, false)
def digsF : Nat → Nat → List UInt8 → List UInt8
  | 0, _, acc => acc
  | f + 1, n, acc => if n / 10 = 0 then UInt8.ofNat (48 + n % 10) :: acc else digsF f (n / 10) (UInt8.ofNat (48 + n % 10) :: acc)
def digs (u : Int) : List UInt8 := digsF 20 u.toNat []
def digits (n : Int) : List UInt8 := if n < 0 then 45 :: digs (-n) else digs n
def vPre : List UInt8 := [118, 101, 114, 115, 105, 111, 110, 61]
def zAsk : Int × List UInt8 × Int × List UInt8 × Int × List UInt8 × List UInt8 × List UInt8 × Int × Bool × Unit := (0, [], 0, [], 0, [], [], [], 0, false, ())
theorem decode_ascii {s : ByteArray} {i : Nat} (h : (s.get! i).toNat < 128) : Utf8.decode s i = ((s.get! i).toNat, 1) := by
  unfold Utf8.decode
  simp only [Nat.add_zero]
  rw [if_pos (show (s.get! i).toNat < 0x80 from h)]
theorem decode_high {s : ByteArray} {i : Nat} (h : 128 ≤ (s.get! i).toNat) : 57 < (Utf8.decode s i).1 := by
  unfold Utf8.decode
  simp only [Nat.add_zero]
  rw [if_neg (show ¬ (s.get! i).toNat < 0x80 by omega)]
  have hr : 57 < Utf8.runeError := by decide
  have hge : ∀ (c : Nat) (b : Bool) (k : Nat), c ≥ k → 57 < k → 57 < c := fun c b k h1 h2 => by omega
  repeat' split
  all_goals first
    | exact hr
    | (rename_i h1; simp only [Bool.and_eq_true, decide_eq_true_eq] at h1; omega)
    | (rename_i h1; have h1 := of_decide_eq_true h1; omega)
    | (rename_i h1; omega)
theorem idx_l (s : ByteArray) : ∀ (f pos : Nat), s.size - pos ≤ f → decide (Lib.idxFuncFrom notDig true s f pos ≥ 0) = !((s.data.toList.drop pos).all isDig)
  | 0, pos, h => by
    have : s.data.toList.drop pos = [] := List.drop_eq_nil_of_le (by show s.data.toList.length ≤ pos; have : s.data.toList.length = s.size := rfl; omega)
    rw [this]; simp [Lib.idxFuncFrom]
  | f + 1, pos, h => by
    unfold Lib.idxFuncFrom
    by_cases hp : pos < s.size
    · rw [if_pos hp]
      have hp' : pos < s.data.toList.length := hp
      have hd : s.data.toList.drop pos = s.get! pos :: s.data.toList.drop (pos + 1) := by
        rw [List.drop_eq_getElem_cons hp']
        congr 1
        show _ = s.data[pos]!
        rw [getElem!_pos s.data pos hp]
        rfl
      rw [hd]
      simp only [List.all_cons]
      by_cases ha : (s.get! pos).toNat < 128
      · rw [decode_ascii ha]
        by_cases hdg : 48 ≤ (s.get! pos).toNat ∧ (s.get! pos).toNat ≤ 57
        · rw [if_neg (by simp only [notDig, Bool.or_eq_true, decide_eq_true_eq]; omega), isDig_iff.2 hdg, Bool.true_and]
          exact idx_l s f (pos + 1) (by omega)
        · have : isDig (s.get! pos) = false := by cases hb : isDig (s.get! pos); rfl; exact absurd (isDig_iff.1 hb) hdg
          rw [if_pos (by simp only [notDig, Bool.or_eq_true, decide_eq_true_eq]; omega), this]
          simp
      · have := decode_high (s := s) (i := pos) (by omega)
        have hd : isDig (s.get! pos) = false := by cases hb : isDig (s.get! pos); rfl; have := isDig_iff.1 hb; omega
        rw [if_pos (by simp only [notDig, Bool.or_eq_true, decide_eq_true_eq]; omega), hd]
        simp
    · rw [if_neg hp]
      have : s.data.toList.drop pos = [] := List.drop_eq_nil_of_le (by have : s.data.toList.length = s.size := rfl; omega)
      rw [this]; rfl
theorem idxF_ge (s : List UInt8) : decide (idxF s ≥ 0) = !allDig s := by
  have := idx_l (bs s) (bs s).size 0 (by omega)
  simpa [idxF, Lib.idxFunc, allDig, bs] using this
/-! ### contracts -/
abbrev AskT : Ty := .pair (.int .i64) (.pair .str (.pair (.int .i64) (.pair .str (.pair (.int .i64) (.pair .str (.pair .str (.pair .str (.pair (.int .i64) (.pair .bool .unit)))))))))
noncomputable def noS (ts rs : List Ty) : PSpec := ⟨ts, rs, fun _ => false, fun _ => dfltL rs⟩
noncomputable def keyChS : PSpec := ⟨[.byte], [.bool], fun _ => true, fun x => (keyCh x.1, ())⟩
noncomputable def isKeyS : PSpec := ⟨[.str], [.bool], fun x => bndS x.1, fun x => (isKey x.1, ())⟩
noncomputable def idxFS (f : Nat) : PSpec := ⟨[.str, .fn f], [.int .i64], fun _ => true, fun x => (idxF x.1, ())⟩
noncomputable def parseS : PSpec := ⟨[.str, .int .i64, .int .i64], [.int .i64, .err], fun x => bndS x.1 && (decide (x.2.1 = 10) && decide (x.2.2.1 = 64)), fun x => ((intN x.1).1, (intN x.1).2, ())⟩
noncomputable def numS : PSpec := ⟨[.str, .int .i64, .int .i64, .int .i64], [.int .i64, .bool], fun x => bndS x.1, fun x => ((numN x.1 x.2.1 x.2.2.1 x.2.2.2.1).1, (numN x.1 x.2.1 x.2.2.1 x.2.2.2.1).2, ())⟩
noncomputable def hasPreS : PSpec := ⟨[.str, .str], [.bool], fun _ => true, fun x => (hasPre x.1 x.2.1, ())⟩
noncomputable def cutPreS : PSpec := ⟨[.str, .str], [.str, .bool], fun _ => true, fun x => ((cutPre x.1 x.2.1).1, (cutPre x.1 x.2.1).2, ())⟩
noncomputable def digsS : PSpec := ⟨[.int .u64], [.str], fun x => decide (0 ≤ x.1) && decide (x.1 < 18446744073709551616), fun x => (digs x.1, ())⟩
noncomputable def digitsS : PSpec := ⟨[.int .i64], [.str], fun x => decide (-9223372036854775808 ≤ x.1) && decide (x.1 ≤ 9223372036854775807), fun x => (digits x.1, ())⟩
/-! ### paths: no query, no heads, no body -/
end Nice
namespace Nice
open Go Go.Eng
/-- no NaN -/
def finW (x : Nat) : Bool := match FloatKind.f64.decode x with
  | .nan _ _ => false
  | _ => true
def truncW (x : Nat) : Nat := FloatKind.f64.encode ((FloatKind.f64.decode x).integral .zero)
def wholeW (x a b : Nat) : Bool := fRel .geq .f64 x a && (fRel .leq .f64 x b && fRel .eql .f64 x (truncW x))
theorem log_le {n k : Nat} (h1 : 1 ≤ n) (h2 : n < 2 ^ (k + 1)) : n.log2 ≤ k := by
  have := (Nat.log2_lt (by omega : n ≠ 0)).2 h2
  omega
theorem cut_zero (way : Ieee.Toward) (n : Nat) : way.cut false n 0 = n := by
  unfold Ieee.Toward.cut
  have e : (1 <<< min 0 (n.log2 + 2) : Nat) = 1 := by rw [Nat.zero_min]; rfl
  simp only [e, Nat.div_one, Nat.mod_one, Nat.mul_zero]
  cases way <;> simp
theorem word_false (f : Ieee.Format) (x : Nat) : f.word false x = x := rfl
theorem nearest_pos {n : Nat} (h1 : 1 ≤ n) (h2 : n < 2 ^ 53) : FloatKind.f64.nearest (n : Int) = (n.log2 + 1022) * 2 ^ 52 + n * 2 ^ (52 - n.log2) := by
  have hL := log_le h1 h2
  have hlo := Nat.log2_self_le (by omega : n ≠ 0)
  have hhi := (Nat.log2_lt (by omega : n ≠ 0)).1 (Nat.lt_succ_self n.log2)
  have e0 : decide ((n : Int) < 0) = false := by rw [decide_eq_false_iff_not]; omega
  show Ieee.Format.nearest Ieee.double (decide ((n : Int) < 0)) (n : Int).natAbs 0 = _
  rw [e0, Int.natAbs_natCast]
  unfold Ieee.Format.nearest
  rw [if_neg (by omega)]
  have hlp : Ieee.double.leastPlace = -1074 := by decide
  have hmax : max ((0 : Int) + n.log2 - (Ieee.double.fractionBits : Nat)) Ieee.double.leastPlace = (n.log2 : Int) - 52 := by
    rw [hlp]
    show max ((0 : Int) + n.log2 - 52) (-1074) = _
    omega
  simp only [hmax]
  rw [hlp]
  have e1 : ((n.log2 : Int) - 52 - 0).toNat = 0 := by omega
  have e2 : ((0 : Int) - ((n.log2 : Int) - 52)).toNat = 52 - n.log2 := by omega
  have e3 : ((n.log2 : Int) - 52 - -1074).toNat = n.log2 + 1022 := by omega
  rw [e1, e2, e3, cut_zero, Nat.shiftLeft_eq]
  have hb : Ieee.double.binade = 2 ^ 52 := rfl
  have hi : Ieee.double.infRung = 2047 * 2 ^ 52 := by decide
  rw [hb, hi]
  have hk : n * 2 ^ (52 - n.log2) < 2 ^ 53 := by
    calc n * 2 ^ (52 - n.log2) < 2 ^ (n.log2 + 1) * 2 ^ (52 - n.log2) := Nat.mul_lt_mul_of_pos_right hhi (Nat.two_pow_pos _)
      _ = 2 ^ 53 := by rw [← Nat.pow_add]; congr 1; omega
  rw [word_false]
  apply Nat.min_eq_left
  omega
theorem decode_nearest {n : Nat} (h1 : 1 ≤ n) (h2 : n < 2 ^ 53) : FloatKind.f64.decode (FloatKind.f64.nearest (n : Int)) = .number false (n * 2 ^ (52 - n.log2)) ((n.log2 : Int) - 52) := by
  have hL := log_le h1 h2
  have hlo := Nat.log2_self_le (by omega : n ≠ 0)
  have hhi := (Nat.log2_lt (by omega : n ≠ 0)).1 (Nat.lt_succ_self n.log2)
  rw [nearest_pos h1 h2]
  have hk : n * 2 ^ (52 - n.log2) < 2 ^ 53 := by
    calc n * 2 ^ (52 - n.log2) < 2 ^ (n.log2 + 1) * 2 ^ (52 - n.log2) := Nat.mul_lt_mul_of_pos_right hhi (Nat.two_pow_pos _)
      _ = 2 ^ 53 := by rw [← Nat.pow_add]; congr 1; omega
  have hg : 2 ^ 52 ≤ n * 2 ^ (52 - n.log2) := by
    calc 2 ^ 52 = 2 ^ n.log2 * 2 ^ (52 - n.log2) := by rw [← Nat.pow_add]; congr 1; omega
      _ ≤ n * 2 ^ (52 - n.log2) := Nat.mul_le_mul_right _ hlo
  generalize n * 2 ^ (52 - n.log2) = m at hk hg ⊢
  have hs : Ieee.double.signWeight = 2 ^ 63 := rfl
  have hb : Ieee.double.binade = 2 ^ 52 := rfl
  have hi : Ieee.double.infRung = 2047 * 2 ^ 52 := by decide
  have hlp : Ieee.double.leastPlace = -1074 := by decide
  show Ieee.Format.read Ieee.double ((n.log2 + 1022) * 2 ^ 52 + m) = _
  unfold Ieee.Format.read
  simp only [hs, hb, hi, hlp]
  have q1 : ((n.log2 + 1022) * 2 ^ 52 + m) / 2 ^ 63 % 2 = 0 := by omega
  have q2 : ((n.log2 + 1022) * 2 ^ 52 + m) % 2 ^ 63 = (n.log2 + 1022) * 2 ^ 52 + m := by omega
  rw [q1, q2, if_neg (by omega), if_pos (by omega)]
  have q3 : 2 ^ 52 + ((n.log2 + 1022) * 2 ^ 52 + m) % 2 ^ 52 = m := by omega
  have q4 : ((n.log2 + 1022) * 2 ^ 52 + m) / 2 ^ 52 - 1 = n.log2 + 1022 := by omega
  rw [q3, q4]
  have q5 : (-1074 : Int) + ((n.log2 + 1022 : Nat) : Int) = (n.log2 : Int) - 52 := by omega
  rw [q5]
  rfl
theorem trunc_nearest {n : Nat} (h1 : 1 ≤ n) (h2 : n < 2 ^ 53) : truncW (FloatKind.f64.nearest (n : Int)) = FloatKind.f64.nearest (n : Int) := by
  have hL := log_le h1 h2
  unfold truncW
  rw [decode_nearest h1 h2]
  unfold Ieee.Datum.integral Ieee.Toward.cut
  have e1 : ((n.log2 : Int) - 52).toNat = 0 := by omega
  have e2 : (-((n.log2 : Int) - 52)).toNat = 52 - n.log2 := by omega
  simp only [e1, e2, Nat.shiftLeft_zero, Bool.toNat_false, Nat.add_zero]
  have hg : (1 <<< min (52 - n.log2) ((n * 2 ^ (52 - n.log2)).log2 + 2) : Nat) = 2 ^ (52 - n.log2) := by
    rw [Nat.shiftLeft_eq, Nat.one_mul, Nat.min_eq_left]
    have : 2 ^ (52 - n.log2) ≤ n * 2 ^ (52 - n.log2) := Nat.le_mul_of_pos_left _ h1
    have := (Nat.le_log2 (Nat.ne_of_gt (Nat.lt_of_lt_of_le (Nat.two_pow_pos _) this))).2 this
    omega
  rw [hg, Nat.mul_div_cancel _ (Nat.two_pow_pos _)]
  have e0 : decide ((n : Int) < 0) = false := by rw [decide_eq_false_iff_not]; omega
  show _ = Ieee.Format.nearest Ieee.double (decide ((n : Int) < 0)) (n : Int).natAbs 0
  rw [e0, Int.natAbs_natCast]
  rfl
theorem order_self (s : Bool) (m : Nat) (i : Int) : Ieee.Datum.order (.number s m i) (.number s m i) = some .eq := by
  unfold Ieee.Datum.order
  simp
/-- a part below 65536 is just what may be if it is below 65521 -/
theorem whole_n {n : Nat} (h : n < 65536) : finW (FloatKind.f64.nearest (n : Int)) = true ∧ wholeW (FloatKind.f64.nearest (n : Int)) 0 4679237813814689792 = decide (n < 65521) := by
  rcases Nat.eq_zero_or_pos n with rfl | h1
  · decide
  have h2 : n < 2 ^ 53 := by omega
  have hd := decode_nearest h1 h2
  have hL : n.log2 ≤ 15 := log_le h1 (by omega)
  refine ⟨by unfold finW; rw [hd], ?_⟩
  have hz : FloatKind.f64.decode 0 = .number false 0 (-1074) := by decide
  have hw : FloatKind.f64.decode 4679237813814689792 = .number false (65520 * 2 ^ 37) (-37) := by decide
  have o1 : FloatKind.f64.format.order (FloatKind.f64.nearest (n : Int)) 0 = some .gt := by
    show Ieee.Datum.order (FloatKind.f64.decode (FloatKind.f64.nearest (n : Int))) (FloatKind.f64.decode 0) = _
    rw [hd, hz]
    unfold Ieee.Datum.order Ieee.signed
    have hm : min ((n.log2 : Int) - 52) (-1074) = -1074 := by omega
    simp only [hm, Bool.false_eq_true, if_false, Nat.shiftLeft_eq, Nat.zero_mul]
    congr 1
    rw [Int.compare_eq_gt]
    have : 0 < n * 2 ^ (52 - n.log2) * 2 ^ ((n.log2 : Int) - 52 - -1074).toNat := Nat.mul_pos (Nat.mul_pos h1 (Nat.two_pow_pos _)) (Nat.two_pow_pos _)
    omega
  have o2 : FloatKind.f64.format.order (FloatKind.f64.nearest (n : Int)) 4679237813814689792 = some (compare n 65520) := by
    show Ieee.Datum.order (FloatKind.f64.decode (FloatKind.f64.nearest (n : Int))) (FloatKind.f64.decode 4679237813814689792) = _
    rw [hd, hw]
    unfold Ieee.Datum.order Ieee.signed
    have hm : min ((n.log2 : Int) - 52) (-37) = (n.log2 : Int) - 52 := by omega
    have e1 : ((n.log2 : Int) - 52 - ((n.log2 : Int) - 52)).toNat = 0 := by omega
    have e2 : ((-37 : Int) - ((n.log2 : Int) - 52)).toNat = 15 - n.log2 := by omega
    simp only [hm, e1, e2, Bool.false_eq_true, if_false, Nat.shiftLeft_eq, Nat.pow_zero, Nat.mul_one]
    have e3 : 65520 * 2 ^ 37 * 2 ^ (15 - n.log2) = 65520 * 2 ^ (52 - n.log2) := by
      rw [Nat.mul_assoc, ← Nat.pow_add]; congr 2; omega
    rw [e3]
    congr 1
    have hp := Nat.two_pow_pos (52 - n.log2)
    generalize 2 ^ (52 - n.log2) = q at hp
    rcases Nat.lt_trichotomy n 65520 with hlt | heq | hgt
    · rw [Nat.compare_eq_lt.2 hlt, Int.compare_eq_lt]
      exact Int.ofNat_lt.2 (Nat.mul_lt_mul_of_pos_right hlt hp)
    · rw [Nat.compare_eq_eq.2 heq, Int.compare_eq_eq, heq]
    · rw [Nat.compare_eq_gt.2 hgt, Int.compare_eq_gt]
      exact Int.ofNat_lt.2 (Nat.mul_lt_mul_of_pos_right hgt hp)
  have o3 : FloatKind.f64.format.order (FloatKind.f64.nearest (n : Int)) (FloatKind.f64.nearest (n : Int)) = some .eq := by
    show Ieee.Datum.order (FloatKind.f64.decode (FloatKind.f64.nearest (n : Int))) (FloatKind.f64.decode (FloatKind.f64.nearest (n : Int))) = _
    rw [hd, order_self]
  unfold wholeW fRel
  simp only [trunc_nearest h1 h2, o1, o2, o3]
  rcases Nat.lt_trichotomy n 65520 with hlt | heq | hgt
  · rw [Nat.compare_eq_lt.2 hlt, decide_eq_true (by omega : n < 65521)]; rfl
  · rw [Nat.compare_eq_eq.2 heq, decide_eq_true (by omega : n < 65521)]; rfl
  · rw [Nat.compare_eq_gt.2 hgt, decide_eq_false (by omega : ¬ n < 65521)]; rfl
end Nice
namespace Nice
open Go Go.Eng
/-- what stands ahead of the first such byte -/
def upTo (c : UInt8) : List UInt8 → List UInt8
  | [] => []
  | b :: r => bif b == c then [] else b :: upTo c r
def hasB (c : UInt8) (s : List UInt8) : Bool := s.any (· == c)
theorem upTo_len (c : UInt8) : ∀ s, (upTo c s).length ≤ s.length
  | [] => Nat.le_refl _
  | b :: r => by
    unfold upTo
    cases b == c
    · simpa using upTo_len c r
    · simp
theorem upTo_lt (c : UInt8) : ∀ s, hasB c s = true → (upTo c s).length < s.length
  | [], h => by cases h
  | b :: r, h => by
    unfold upTo
    simp only [hasB, List.any_cons] at h
    cases hb : b == c
    · rw [hb, Bool.false_or] at h
      simpa using upTo_lt c r h
    · simp
theorem upTo_not (c : UInt8) : ∀ s, hasB c s = false → upTo c s = s
  | [], _ => rfl
  | b :: r, h => by
    simp only [hasB, List.any_cons, Bool.or_eq_false_iff] at h
    unfold upTo
    rw [h.1, cond_false, upTo_not c r h.2]
theorem upTo_all (c : UInt8) : ∀ s, (upTo c s).length = s.length → hasB c s = false
  | s, h => by
    cases hb : hasB c s
    · rfl
    · have := upTo_lt c s hb; omega
theorem upTo_take (c : UInt8) : ∀ s, s.take (upTo c s).length = upTo c s
  | [] => rfl
  | b :: r => by
    unfold upTo
    cases b == c
    · simp [upTo_take c r]
    · rfl
theorem index1 (c : UInt8) : ∀ s, Lib.index s [c] = bif hasB c s then ((upTo c s).length : Int) else -1
  | [] => rfl
  | b :: r => by
    have ih := index1 c r
    rw [Lib.index]
    simp only [hasB, List.any_cons] at ih ⊢
    unfold upTo
    by_cases hb : b = c
    · subst hb
      simp [List.isPrefixOf]
    · have h1 : (b == c) = false := by simpa using hb
      have h2 : ([c] : List UInt8).isPrefixOf (b :: r) = false := by simp [List.isPrefixOf, Ne.symm hb]
      rw [h1, h2, ih]
      cases r.any (· == c)
      · rfl
      · simp only [cond_true, Bool.or_true, cond_false, List.length_cons]
        have : (((upTo c r).length : Int) == -1) = false := by
          rw [beq_eq_false_iff_ne]; omega
        rw [this]
        simp
theorem cut1 (c : UInt8) (s : List UInt8) : Lib.cut s [c] = bif hasB c s then (upTo c s, s.drop ((upTo c s).length + 1), true) else (s, [], false) := by
  unfold Lib.cut
  rw [index1]
  cases hasB c s
  · rfl
  · simp only [cond_true]
    rw [if_pos (Int.natCast_nonneg _), Int.toNat_natCast, upTo_take]
    rfl
theorem split1_no (c : UInt8) (s : List UInt8) (h : hasB c s = false) : Lib.split s [c] = [s] := by
  have hi : Lib.index s [c] = -1 := by rw [index1, h]; rfl
  unfold Lib.split
  rw [Lib.count_miss hi]
  rfl
theorem split1_yes (c : UInt8) (s : List UInt8) (h : hasB c s = true) : Lib.split s [c] = upTo c s :: Lib.split (s.drop ((upTo c s).length + 1)) [c] := by
  have hi : Lib.index s [c] = ((upTo c s).length : Nat) := by rw [index1, h]; rfl
  have hc : Lib.count s [c] = 1 + Lib.count (s.drop ((upTo c s).length + 1)) [c] := by
    rw [Lib.count_hit (by simp) hi]
    rfl
  unfold Lib.split
  rw [hc, Nat.add_comm, Lib.splitK]
  rw [hi]
  have : (((upTo c s).length : Int) == -1) = false := by rw [beq_eq_false_iff_ne]; omega
  rw [this]
  simp only [Bool.false_eq_true, if_false, Int.toNat_natCast, Nat.add_zero, List.length_singleton]
  rw [upTo_take]
/-! ### a list's query -/
abbrev AskD : Type := Int × List UInt8 × Int × List UInt8 × Int × List UInt8 × List UInt8 × List UInt8 × Int × Bool × Unit
def wPre : List UInt8 := [112, 114, 101, 102, 105, 120]
def wAft : List UInt8 := [97, 102, 116, 101, 114]
def wMax : List UInt8 := [109, 97, 120]
def wVer : List UInt8 := [118, 101, 114, 115, 105, 111, 110, 115]
def eqS (s : List UInt8) : List UInt8 := s ++ [61]
def keyB (v : List UInt8) : Bool := v == [] || isKey v
def setPre (a : AskD) (v : List UInt8) : AskD := (a.1, a.2.1, a.2.2.1, a.2.2.2.1, a.2.2.2.2.1, a.2.2.2.2.2.1, v, a.2.2.2.2.2.2.2)
def setAft (a : AskD) (v : List UInt8) : AskD := (a.1, a.2.1, a.2.2.1, a.2.2.2.1, a.2.2.2.2.1, a.2.2.2.2.2.1, a.2.2.2.2.2.2.1, v, a.2.2.2.2.2.2.2.2)
def setMax (a : AskD) (n : Int) : AskD := (a.1, a.2.1, a.2.2.1, a.2.2.2.1, a.2.2.2.2.1, a.2.2.2.2.2.1, a.2.2.2.2.2.2.1, a.2.2.2.2.2.2.2.1, n, a.2.2.2.2.2.2.2.2.2)
def setKind (a : AskD) (n : Int) : AskD := (n, a.2)
end Nice
namespace Nice
open Go Go.Eng
def isHx (c : UInt8) : Bool := decide (48 ≤ c.toNat ∧ c.toNat ≤ 57 ∨ 97 ≤ c.toNat ∧ c.toNat ≤ 102)
def hx (c : UInt8) : Int := bif decide (c.toNat ≤ 57) then (c.toNat : Int) - 48 else (c.toNat : Int) - 87
/-- eight digits of base 16: two numbers -/
def rdF : List UInt8 → Nat → Int → Int → Option (Int × Int)
  | [], _, a, b => some (a, b)
  | c :: r, i, a, b => bif isHx c then (bif decide (i < 4) then rdF r (i + 1) (a * 16 + hx c) b else rdF r (i + 1) a (b * 16 + hx c)) else none
def rdZ (s : List UInt8) : Option (Int × Int) := bif decide (s.length = 8) then (match rdF s 0 0 0 with
  | some z => bif decide (z.1 < 65521) && decide (z.2 < 65521) then some z else none
  | none => none) else none
def gRead (s : List UInt8) : (Nat × Nat) × Bool := match rdZ s with
  | some z => ((FloatKind.f64.nearest z.1, FloatKind.f64.nearest z.2), true)
  | none => ((0, 0), false)
def rRead (s : List UInt8) : (Int × Int × Unit) × Bool := match rdZ s with
  | some z => ((z.1, z.2, ()), true)
  | none => ((0, 0, ()), false)
def mayW (a b : Nat) : Bool := wholeW a 0 4679237813814689792 && wholeW b 0 4679237813814689792
abbrev ZT : Ty := .pair (.int .i64) (.pair (.int .i64) .unit)
noncomputable def archS : PSpec := ⟨[.f64], [.f64], fun x => finW x.1, fun x => (truncW x.1, ())⟩
noncomputable def wholeS : PSpec := ⟨[.f64, .f64, .f64], [.bool], fun x => finW x.1, fun x => (wholeW x.1 x.2.1 x.2.2.1, ())⟩
noncomputable def mayS : PSpec := ⟨[.cx], [.bool], fun x => finW x.1.1 && finW x.1.2, fun x => (mayW x.1.1 x.1.2, ())⟩
noncomputable def gReadS : PSpec := ⟨[.str], [.cx, .bool], fun _ => true, fun x => ((gRead x.1).1, (gRead x.1).2, ())⟩
noncomputable def rReadS : PSpec := ⟨[.str], [ZT, .bool], fun _ => true, fun x => ((rRead x.1).1, (rRead x.1).2, ())⟩
end Nice
namespace Nice
open Go Go.Eng
def inmW : List UInt8 := [73, 102, 45, 78, 111, 110, 101, 45, 77, 97, 116, 99, 104]
def imW : List UInt8 := [73, 102, 45, 77, 97, 116, 99, 104]
def putW : List UInt8 := [80, 85, 84]
def delW : List UInt8 := [68, 69, 76, 69, 84, 69]
abbrev HeadL : Type := List (List UInt8 × List UInt8 × Unit)
abbrev ReqW : Type := List UInt8 × List UInt8 × List UInt8 × HeadL × List UInt8 × Unit
def idxG (x : List UInt8) : List (List UInt8) → Int → Int
  | [], _ => -1
  | y :: r, k => bif x == y then k else idxG x r (k + 1)
def idxS (l : List (List UInt8)) (x : List UInt8) : Int := idxG x l 0
def hasS (l : List (List UInt8)) (x : List UInt8) : Bool := l.any fun y => x == y
def splitN (q : List UInt8) : List (List UInt8) := Lib.split q [38]
def cutE (p : List UInt8) : List UInt8 × List UInt8 × Bool := Lib.cut p [61]
/-- so long that the library's search is told -/
def shortS (s : List UInt8) : Bool := decide (s.length < 4294967281)
def condsP (l : HeadL) : Bool := (valueP l inmW && valueP l imW) && bndS (valueN l imW).1
def tagA (s : List UInt8) : List UInt8 × Bool := ((cutSuf (cutPre s [34]).1 [34]).1, (cutPre s [34]).2 && ((cutSuf (cutPre s [34]).1 [34]).2 && (gRead (cutSuf (cutPre s [34]).1 [34]).1).2))
/-- the condition of a put: its kind, its tag, is it right? -/
def condsN (l : HeadL) : Int × List UInt8 × Bool :=
  bif (valueN l inmW).2 then (bif (valueN l imW).2 then (0, [], false) else (1, [], (valueN l inmW).1 == [42]))
  else bif (valueN l imW).2 then (2, (tagA (valueN l imW).1).1, (tagA (valueN l imW).1).2) else (0, [], true)
def setPut (a : AskD) (b : List UInt8) (c : Int) (t : List UInt8) : AskD := (2, a.2.1, a.2.2.1, b, c, t, a.2.2.2.2.2.2)
def setKV (a : AskD) (k v : Int) : AskD := (k, a.2.1, v, a.2.2.2)
def setCT (a : AskD) (c : Int) (t : List UInt8) : AskD := (a.1, a.2.1, a.2.2.1, a.2.2.2.1, c, t, a.2.2.2.2.2.2)
def tagR (s : List UInt8) : List UInt8 := (s.take 9).drop 1
def tagRB (s : List UInt8) : Bool := decide (s.length = 10) && (s.getD 0 0 == 34 && (s.getD 9 0 == 34 && (rRead (tagR s)).2))
def rcondsN (l : HeadL) (a : AskD) : AskD × Int :=
  bif (valueN l inmW).2 then (bif (valueN l imW).2 then (zAsk, 400) else bif (valueN l inmW).1 == [42] then (setCT a 1 a.2.2.2.2.2.1, 0) else (zAsk, 400))
  else bif (valueN l imW).2 then (bif tagRB (valueN l imW).1 then (setCT a 2 (tagR (valueN l imW).1), 0) else (zAsk, 400)) else (a, 0)
def verN (q : List UInt8) : Int × Bool := ((numN (cutPre q vPre).1 (cutPre q vPre).1.length 1 1099511627776).1, (numN (cutPre q vPre).1 (cutPre q vPre).1.length 1 1099511627776).2 && ((cutPre q vPre).2 && !((cutPre q vPre).1.getD 0 0 == 48)))
def keyedG (a : AskD) (m q : List UInt8) (hs : HeadL) (b : List UInt8) : AskD × Bool :=
  bif isKey a.2.1 then
    bif m == putW then (setPut a b (condsN hs).1 (condsN hs).2.1, (condsN hs).2.2 && q == [])
    else bif q == [] then (setKV a (bif m == delW then 3 else 1) a.2.2.1, true)
    else (setKV a (bif m == delW then 3 else 1) (verN q).1, (verN q).2)
  else (a, false)
def lset (n v : List UInt8) (a : AskD) : AskD × Bool :=
  bif n == wPre then (setPre a v, keyB v)
  else bif n == wAft then (setAft a v, keyB v)
  else bif n == wMax then (setMax a (numN v 2 1 20).1, (numN v 2 1 20).2)
  else bif n == wVer then (setKind a 5, v == [49])
  else (a, false)
def listedGo : List (List UInt8) → List (List UInt8) → AskD → AskD × Bool
  | [], _, a => (a, true)
  | p :: r, seen, a =>
    bif (cutE p).2.2 then
      bif hasS seen (cutE p).1 then (a, false)
      else bif (lset (cutE p).1 (cutE p).2.1 a).2 then listedGo r (seen ++ [(cutE p).1]) (lset (cutE p).1 (cutE p).2.1 a).1
      else ((lset (cutE p).1 (cutE p).2.1 a).1, false)
    else (a, false)
def listedN (a : AskD) (q : List UInt8) : AskD × Bool := bif q == [] then (setMax (setKind a 4) 20, true) else listedGo (splitN q) [] (setMax (setKind a 4) 20)
noncomputable def hasSufT : PSpec := ⟨[.str, .str], [.bool], fun x => bndS x.1, fun x => (hasSuf x.1 x.2.1, ())⟩
noncomputable def cutSufT : PSpec := ⟨[.str, .str], [.str, .bool], fun x => bndS x.1, fun x => ((cutSuf x.1 x.2.1).1, (cutSuf x.1 x.2.1).2, ())⟩
noncomputable def splitS : PSpec := ⟨[.str, .str], [.slice .str], fun x => shortS x.1 && x.2.1 == [38], fun x => (splitN x.1, ())⟩
noncomputable def cutES : PSpec := ⟨[.str, .str], [.str, .str, .bool], fun x => shortS x.1 && x.2.1 == [61], fun x => ((cutE x.1).1, (cutE x.1).2.1, (cutE x.1).2.2, ())⟩
noncomputable def idxSS : PSpec := ⟨[.slice .str, .str], [.int .i64], fun x => decide (x.1.length ≤ 1000), fun x => (idxS x.1 x.2.1, ())⟩
noncomputable def hasSS : PSpec := ⟨[.slice .str, .str], [.bool], fun x => decide (x.1.length ≤ 1000), fun x => (hasS x.1 x.2.1, ())⟩
noncomputable def condsS : PSpec := ⟨[ReqT], [.int .i64, .str, .bool], fun x => condsP x.1.2.2.2.1, fun x => ((condsN x.1.2.2.2.1).1, (condsN x.1.2.2.2.1).2.1, (condsN x.1.2.2.2.1).2.2, ())⟩
noncomputable def rcondsS : PSpec := ⟨[ReqT, AskT], [AskT, .int .i64], fun x => condsP x.1.2.2.2.1, fun x => ((rcondsN x.1.2.2.2.1 x.2.1).1, (rcondsN x.1.2.2.2.1 x.2.1).2, ())⟩
noncomputable def keyedGS : PSpec := ⟨[AskT, ReqT], [AskT, .bool], fun x => condsP x.2.1.2.2.2.1 && (bndS x.2.1.2.2.1 && bndS x.1.2.1), fun x => ((keyedG x.1 x.2.1.1 x.2.1.2.2.1 x.2.1.2.2.2.1 x.2.1.2.2.2.2.1).1, (keyedG x.1 x.2.1.1 x.2.1.2.2.1 x.2.1.2.2.2.1 x.2.1.2.2.2.2.1).2, ())⟩
noncomputable def listedS : PSpec := ⟨[AskT, .str], [AskT, .bool], fun x => shortS x.2.1, fun x => ((listedN x.1 x.2.1).1, (listedN x.1 x.2.1).2, ())⟩
end Nice
namespace Nice
open Go Go.Eng
def ePre : List UInt8 := [112, 114, 101, 102, 105, 120, 61]
def eAft : List UInt8 := [97, 102, 116, 101, 114, 61]
def eMax : List UInt8 := [109, 97, 120, 61]
def eVer : List UInt8 := [118, 101, 114, 115, 105, 111, 110, 115, 61]
def getW : List UInt8 := [71, 69, 84]
def headW : List UInt8 := [72, 69, 65, 68]
def oW : List UInt8 := [47, 111]
def ooW : List UInt8 := [47, 111, 47]
noncomputable def keyBS : PSpec := ⟨[.str], [.bool], fun x => bndS x.1, fun x => (keyB x.1, ())⟩
/-- the part that a word begins: the last one of four -/
def whichN (p : List UInt8) : Int := bif hasPre p eVer then 3 else bif hasPre p eMax then 2 else bif hasPre p eAft then 1 else bif hasPre p ePre then 0 else -1
abbrev SeenD : Type := Bool × Bool × Bool × Bool
/-- one part: what is asked now; is it right? what was seen -/
def pset (p : List UInt8) (sn : SeenD) (a : AskD) : AskD × Bool × SeenD :=
  bif whichN p == 0 then (bif sn.1 then (a, false, sn) else (setPre a (p.drop 7), keyB (p.drop 7), (true, sn.2)))
  else bif whichN p == 1 then (bif sn.2.1 then (a, false, sn) else (setAft a (p.drop 6), keyB (p.drop 6), (sn.1, true, sn.2.2)))
  else bif whichN p == 2 then (bif sn.2.2.1 then (a, false, sn) else bif (refNum (p.drop 4) 2).2 && (!decide ((refNum (p.drop 4) 2).1 < 1) && !decide ((refNum (p.drop 4) 2).1 > 20)) then (setMax a (refNum (p.drop 4) 2).1, true, (sn.1, sn.2.1, true, sn.2.2.2)) else (a, false, sn))
  else bif whichN p == 3 then (bif sn.2.2.2 then (a, false, sn) else bif p.drop 9 == [49] then (setKind a 5, true, (sn.1, sn.2.1, sn.2.2.1, true)) else (a, false, sn))
  else (a, false, sn)
def partsGo : Nat → List UInt8 → SeenD → AskD → AskD × Bool
  | 0, _, _, a => (a, false)
  | f + 1, q, sn, a =>
    bif (pset (upTo 38 q) sn a).2.1 then
      bif decide ((upTo 38 q).length = q.length) then ((pset (upTo 38 q) sn a).1, true)
      else partsGo f (q.drop ((upTo 38 q).length + 1)) (pset (upTo 38 q) sn a).2.2 (pset (upTo 38 q) sn a).1
    else ((pset (upTo 38 q) sn a).1, false)
def partsN (q : List UInt8) (a : AskD) : AskD × Bool := bif q == [] then (a, true) else partsGo (q.length + 1) q (false, false, false, false) a
noncomputable def partsS : PSpec := ⟨[.str, AskT], [AskT, .bool], fun x => bndS x.1, fun x => ((partsN x.1 x.2.1).1, (partsN x.1 x.2.1).2, ())⟩
end Nice
namespace Nice
open Go Go.Eng
def valF (a : Nat) (s : List UInt8) : Nat := s.foldl (fun n c => n * 10 + (c.toNat - 48)) a
theorem valF_ge : ∀ (s : List UInt8) (a : Nat), a ≤ valF a s
  | [], a => Nat.le_refl _
  | c :: r, a => by
    have := valF_ge r (a * 10 + (c.toNat - 48))
    show a ≤ valF (a * 10 + (c.toNat - 48)) r
    omega
theorem parse_dig64 : ∀ (s : List UInt8) (a : Nat), allDig s = true → a ≤ 18446744073709551615 →
    (valF a s ≤ 18446744073709551615 → Lib.parseUintM 18446744073709551615 a s = .ok (valF a s)) ∧ (18446744073709551615 < valF a s → Lib.parseUintM 18446744073709551615 a s = .range)
  | [], a, _, ha => ⟨fun _ => rfl, fun h => by simp only [valF, List.foldl_nil] at h; omega⟩
  | c :: r, a, h, ha => by
    simp only [allDig, List.all_cons, Bool.and_eq_true] at h
    have hd := isDig_iff.1 h.1
    have hv : valF a (c :: r) = valF (a * 10 + (c.toNat - 48)) r := rfl
    have hg := valF_ge r (a * 10 + (c.toNat - 48))
    rw [hv]
    simp only [Lib.parseUintM, if_pos hd]
    by_cases h1 : 1844674407370955162 ≤ a
    · rw [if_pos h1]
      exact ⟨fun h => by omega, fun _ => rfl⟩
    · rw [if_neg h1]
      by_cases h2 : 18446744073709551615 < a * 10 + (c.toNat - 48)
      · rw [if_pos h2]
        exact ⟨fun h => by omega, fun _ => rfl⟩
      · rw [if_neg h2]
        exact parse_dig64 r _ h.2 (by omega)
theorem intN_dig {s : List UInt8} (h : allDig s = true) (h1 : s ≠ []) : (numV s < 9223372036854775808 → intN s = ((numV s : Int), true)) ∧ (9223372036854775808 ≤ numV s → (intN s).2 = false) := by
  cases s with
  | nil => exact absurd rfl h1
  | cons c r =>
    have hd : 48 ≤ c.toNat ∧ c.toNat ≤ 57 := by
      simp only [allDig, List.all_cons, Bool.and_eq_true] at h
      exact isDig_iff.1 h.1
    obtain ⟨p1, p2⟩ := parse_dig64 (c :: r) 0 h (by omega)
    have hv : valF 0 (c :: r) = numV (c :: r) := rfl
    rw [hv] at p1 p2
    have e43 : ¬ (c.toNat = 43 ∨ c.toNat = 45) := by omega
    have eB : Lib.parseUintB 64 (c :: r) = Lib.parseUintM 18446744073709551615 0 (c :: r) := by
      unfold Lib.parseUintB; rw [if_neg (by simp)]
    have e45 : ¬ c.toNat = 45 := by omega
    by_cases hr : numV (c :: r) ≤ 18446744073709551615
    · have e : Lib.parseIntB 64 (c :: r) = if 9223372036854775808 ≤ numV (c :: r) then .range else .ok (numV (c :: r) : Int) := by
        rw [Lib.parseIntB_plain 64 c r (by omega) (by omega), eB, p1 hr]
        rfl
      constructor
      · intro hlt
        unfold intN
        rw [e, if_neg (by omega)]
      · intro hge
        unfold intN
        rw [e, if_pos hge]
    · have e : Lib.parseIntB 64 (c :: r) = .range := by
        rw [Lib.parseIntB_plain 64 c r (by omega) (by omega), eB, p2 (by omega)]
        rfl
      constructor
      · intro hlt; omega
      · intro _; unfold intN; rw [e]
theorem numV_lt' (s : List UInt8) (h : allDig s = true) : ∀ a, valF a s < (a + 1) * 10 ^ s.length := by
  induction s with
  | nil => intro a; simp [valF]
  | cons c s ih =>
    intro a
    simp only [allDig, List.all_cons, Bool.and_eq_true] at h
    have hd := isDig_iff.1 h.1
    have := ih h.2 (a * 10 + (c.toNat - 48))
    refine Nat.lt_of_lt_of_le (show valF a (c :: s) < _ from this) ?_
    rw [List.length_cons, Nat.pow_succ, Nat.mul_comm (10 ^ s.length) 10, ← Nat.mul_assoc]
    exact Nat.mul_le_mul_right _ (by omega)
theorem valF_lo (s : List UInt8) : ∀ a, a * 10 ^ s.length ≤ valF a s := by
  induction s with
  | nil => intro a; simp [valF]
  | cons c s ih =>
    intro a
    have := ih (a * 10 + (c.toNat - 48))
    refine Nat.le_trans ?_ (show _ ≤ valF a (c :: s) from this)
    rw [List.length_cons, Nat.pow_succ, Nat.mul_comm (10 ^ s.length) 10, ← Nat.mul_assoc]
    exact Nat.mul_le_mul_right _ (by omega)
/-- thirteen digits are as many as a version's number has -/
theorem long_num {s : List UInt8} (h : allDig s = true) (h0 : s.getD 0 0 ≠ 48) (hl : 14 ≤ s.length) : 10000000000000 ≤ numV s := by
  cases s with
  | nil => simp at hl
  | cons c r =>
    simp only [allDig, List.all_cons, Bool.and_eq_true] at h
    have hd := isDig_iff.1 h.1
    have h0 : c ≠ 48 := h0
    have hc : c.toNat ≠ 48 := fun e => h0 (UInt8.toNat.inj e)
    have := valF_lo r (c.toNat - 48)
    have hp : (10 : Nat) ^ 13 ≤ 10 ^ r.length := Nat.pow_le_pow_right (by decide) (by simp at hl; omega)
    have e : numV (c :: r) = valF (c.toNat - 48) r := by
      show valF 0 (c :: r) = _
      show valF (0 * 10 + (c.toNat - 48)) r = _
      rw [Nat.zero_mul, Nat.zero_add]
    rw [e]
    have h1 : 1 * 10 ^ r.length ≤ (c.toNat - 48) * 10 ^ r.length := Nat.mul_le_mul_right _ (by omega)
    omega
/-- a version's number: told by the program, told by the document -/
theorem ver_eq (s : List UInt8) (h0 : s.getD 0 0 ≠ 48) :
    ((numN s s.length 1 1099511627776).2 = ((refNum s 13).2 && (!decide ((refNum s 13).1 < 1) && !decide ((refNum s 13).1 > 1099511627776)))) ∧ ((numN s s.length 1 1099511627776).2 = true → (numN s s.length 1 1099511627776).1 = (refNum s 13).1) := by
  unfold numN refNum
  cases hd : allDig s
  · simp
  by_cases hs : s = []
  · subst hs; simp [intN, Lib.parseIntB]
  have hl1 : 1 ≤ s.length := List.length_pos_iff.2 hs
  obtain ⟨i1, i2⟩ := intN_dig hd hs
  by_cases hl : s.length ≤ 13
  · have hlt := numV_lt' s hd 0
    have hp : (10 : Nat) ^ s.length ≤ 10 ^ 13 := Nat.pow_le_pow_right (by decide) hl
    have hv : valF 0 s = numV s := rfl
    have hn : numV s < 9223372036854775808 := by omega
    rw [i1 hn]
    simp only [Bool.true_and, decide_eq_true (show (s.length : Int) ≤ 13 by omega), cond_true, decide_eq_true hl1, decide_eq_true (Int.le_refl (s.length : Int))]
    refine ⟨?_, fun _ => trivial⟩
    by_cases a1 : (numV s : Int) ≥ 1
    · by_cases a2 : (numV s : Int) ≤ 1099511627776
      · rw [decide_eq_true a1, decide_eq_true a2, decide_eq_false (by omega), decide_eq_false (by omega)]; rfl
      · rw [decide_eq_true a1, decide_eq_false a2, decide_eq_false (by omega), decide_eq_true (by omega)]; rfl
    · rw [decide_eq_false a1, decide_eq_true (show (numV s : Int) < 1 by omega)]; rfl
  · have hlong := long_num hd h0 (by omega)
    simp only [Bool.true_and, decide_eq_false (show ¬ (s.length : Int) ≤ 13 by omega), cond_false, Bool.false_and, decide_eq_true (Int.le_refl (s.length : Int))]
    have key : ((intN s).2 && (decide ((intN s).1 ≥ 1) && decide ((intN s).1 ≤ 1099511627776))) = false := by
      by_cases hn : numV s < 9223372036854775808
      · rw [i1 hn, decide_eq_false (show ¬ (numV s : Int) ≤ 1099511627776 by omega), Bool.and_false, Bool.and_false]
      · rw [i2 (by omega)]; rfl
    rw [key]
    exact ⟨rfl, fun h => by cases h⟩
end Nice
namespace Nice
open Go Go.Eng
/-! ### a number of two digits -/
theorem num2_eq (v : List UInt8) : ((numN v 2 1 20).2 = ((refNum v 2).2 && (!decide ((refNum v 2).1 < 1) && !decide ((refNum v 2).1 > 20)))) ∧ ((numN v 2 1 20).2 = true → (numN v 2 1 20).1 = (refNum v 2).1) := by
  unfold numN refNum
  cases hd : allDig v
  · simp
  by_cases hs : v = []
  · subst hs; simp [intN, Lib.parseIntB]
  have hl1 : 1 ≤ v.length := List.length_pos_iff.2 hs
  obtain ⟨i1, i2⟩ := intN_dig hd hs
  by_cases hl : v.length ≤ 2
  · have hlt := numV_lt' v hd 0
    have hp : (10 : Nat) ^ v.length ≤ 10 ^ 2 := Nat.pow_le_pow_right (by decide) hl
    have hv : valF 0 v = numV v := rfl
    have hn : numV v < 9223372036854775808 := by omega
    rw [i1 hn]
    simp only [Bool.true_and, decide_eq_true (show (v.length : Int) ≤ 2 by omega), cond_true, decide_eq_true hl1]
    refine ⟨?_, fun _ => trivial⟩
    by_cases a1 : (numV v : Int) ≥ 1
    · by_cases a2 : (numV v : Int) ≤ 20
      · rw [decide_eq_true a1, decide_eq_true a2, decide_eq_false (by omega), decide_eq_false (by omega)]; rfl
      · rw [decide_eq_true a1, decide_eq_false a2, decide_eq_false (by omega), decide_eq_true (by omega)]; rfl
    · rw [decide_eq_false a1, decide_eq_true (show (numV v : Int) < 1 by omega)]; rfl
  · simp only [Bool.true_and, decide_eq_false (show ¬ (v.length : Int) ≤ 2 by omega), cond_false, Bool.false_and, Bool.and_false]
    exact ⟨trivial, fun h => by cases h⟩
/-! ### one part of a query -/
theorem hasPre_app (w r : List UInt8) : hasPre (w ++ r) w = true := by
  unfold hasPre
  rw [Bool.and_eq_true, decide_eq_true_eq, List.take_left]
  exact ⟨by simp, beq_self_eq_true w⟩
theorem hasPre_inv {p w : List UInt8} (h : hasPre p w = true) : p = w ++ p.drop w.length := by
  unfold hasPre at h
  rw [Bool.and_eq_true, decide_eq_true_eq, beq_iff_eq] at h
  have := List.take_append_drop w.length p
  rw [h.2] at this
  exact this.symm
theorem hasB_app (c : UInt8) (a b : List UInt8) : hasB c (a ++ b) = (hasB c a || hasB c b) := by unfold hasB; rw [List.any_append]
theorem upTo_app {c : UInt8} : ∀ {w r : List UInt8}, hasB c w = false → upTo c (w ++ c :: r) = w
  | [], r, _ => by simp [upTo]
  | b :: w, r, h => by
    simp only [hasB, List.any_cons, Bool.or_eq_false_iff] at h
    simp only [List.cons_append, upTo, h.1, cond_false]
    rw [upTo_app h.2]
theorem upTo_split {c : UInt8} {p : List UInt8} (h : hasB c p = true) : p = upTo c p ++ c :: p.drop ((upTo c p).length + 1) := by
  induction p with
  | nil => cases h
  | cons b r ih =>
    simp only [hasB, List.any_cons] at h
    unfold upTo
    cases hb : b == c
    · rw [hb, Bool.false_or] at h
      simp only [cond_false, List.cons_append, List.length_cons, List.drop_succ_cons]
      rw [← ih h]
    · have : b = c := beq_iff_eq.1 hb
      subst this
      simp
/-- a part begins with a name and '=' just if that is what stands ahead of its first '=' -/
theorem hasPre_name {p w : List UInt8} (hw : hasB 61 w = false) : hasPre p (w ++ [61]) = (hasB 61 p && upTo 61 p == w) := by
  cases hb : hasB 61 p
  · cases h : hasPre p (w ++ [61])
    · rfl
    · have := hasPre_inv h
      rw [this, hasB_app, hasB_app] at hb
      simp [hasB] at hb
  · rw [Bool.true_and]
    by_cases he : upTo 61 p = w
    · have hs := upTo_split hb
      rw [he] at hs
      have : hasPre p (w ++ [61]) = true := by
        rw [hs, show w ++ (61 : UInt8) :: p.drop (w.length + 1) = (w ++ [61]) ++ p.drop (w.length + 1) by simp]
        exact hasPre_app _ _
      rw [this, he, beq_self_eq_true]
    · rw [beq_eq_false_iff_ne.2 he]
      cases h : hasPre p (w ++ [61])
      · rfl
      · have hi := hasPre_inv h
        exfalso
        apply he
        generalize p.drop (w ++ [61]).length = r at hi
        rw [hi, show (w ++ [61]) ++ r = w ++ (61 : UInt8) :: r by simp]
        exact upTo_app hw
theorem cutE_eq (p : List UInt8) : cutE p = bif hasB 61 p then (upTo 61 p, p.drop ((upTo 61 p).length + 1), true) else (p, [], false) := cut1 61 p
theorem which_eq (p : List UInt8) : whichN p = bif hasB 61 p then (bif upTo 61 p == wVer then 3 else bif upTo 61 p == wMax then 2 else bif upTo 61 p == wAft then 1 else bif upTo 61 p == wPre then 0 else -1) else -1 := by
  have e1 : hasPre p eVer = _ := hasPre_name (p := p) (w := wVer) (by decide)
  have e2 : hasPre p eMax = _ := hasPre_name (p := p) (w := wMax) (by decide)
  have e3 : hasPre p eAft = _ := hasPre_name (p := p) (w := wAft) (by decide)
  have e4 : hasPre p ePre = _ := hasPre_name (p := p) (w := wPre) (by decide)
  unfold whichN
  rw [e1, e2, e3, e4]
  cases hasB 61 p <;> simp only [Bool.false_and, Bool.true_and, cond_true, cond_false]
def seenOf (s : List (List UInt8)) : SeenD := (hasS s wPre, hasS s wAft, hasS s wMax, hasS s wVer)
theorem seenOf_add (s : List (List UInt8)) (x : List UInt8) : seenOf (s ++ [x]) = (hasS s wPre || wPre == x, hasS s wAft || wAft == x, hasS s wMax || wMax == x, hasS s wVer || wVer == x) := by
  unfold seenOf hasS; simp
theorem d12 : (wPre == wAft) = false := by decide
theorem d13 : (wPre == wMax) = false := by decide
theorem d14 : (wPre == wVer) = false := by decide
theorem d21 : (wAft == wPre) = false := by decide
theorem d23 : (wAft == wMax) = false := by decide
theorem d24 : (wAft == wVer) = false := by decide
theorem d31 : (wMax == wPre) = false := by decide
theorem d32 : (wMax == wAft) = false := by decide
theorem d34 : (wMax == wVer) = false := by decide
theorem d41 : (wVer == wPre) = false := by decide
theorem d42 : (wVer == wAft) = false := by decide
theorem d43 : (wVer == wMax) = false := by decide
/-- one part: told by the program, told by the document -/
theorem part_eq (p : List UInt8) (s : List (List UInt8)) (a : AskD) :
    (pset p (seenOf s) a).2.1 = ((cutE p).2.2 && (!hasS s (cutE p).1 && (lset (cutE p).1 (cutE p).2.1 a).2)) ∧
    ((pset p (seenOf s) a).2.1 = true → (pset p (seenOf s) a).1 = (lset (cutE p).1 (cutE p).2.1 a).1 ∧ (pset p (seenOf s) a).2.2 = seenOf (s ++ [(cutE p).1])) := by
  unfold pset
  rw [which_eq, cutE_eq, seenOf_add]
  cases hb : hasB 61 p
  · exact ⟨rfl, fun h => by cases h⟩
  simp only [cond_true, Bool.true_and]
  unfold lset
  by_cases h0 : upTo 61 p = wPre
  · rw [h0]
    simp only [d14, d13, d12, beq_self_eq_true, cond_true, cond_false, show ((0 : Int) == 0) = true from rfl, seenOf, d21, d31, d41, Bool.or_true, Bool.or_false]
    rw [show p.drop (wPre.length + 1) = p.drop 7 from rfl]
    cases hasS s wPre
    · exact ⟨by simp, fun _ => ⟨rfl, rfl⟩⟩
    · exact ⟨rfl, fun h => by cases h⟩
  by_cases h1 : upTo 61 p = wAft
  · rw [h1]
    simp only [d24, d23, d21, beq_self_eq_true, cond_true, cond_false, show ((1 : Int) == 0) = false from rfl, show ((1 : Int) == 1) = true from rfl, seenOf, d12, d32, d42, Bool.or_true, Bool.or_false]
    rw [show p.drop (wAft.length + 1) = p.drop 6 from rfl]
    cases hasS s wAft
    · exact ⟨by simp, fun _ => ⟨rfl, rfl⟩⟩
    · exact ⟨rfl, fun h => by cases h⟩
  by_cases h2 : upTo 61 p = wMax
  · rw [h2]
    simp only [d34, d32, d31, beq_self_eq_true, cond_true, cond_false, show ((2 : Int) == 0) = false from rfl, show ((2 : Int) == 1) = false from rfl, show ((2 : Int) == 2) = true from rfl, seenOf, d13, d23, d43, Bool.or_true, Bool.or_false]
    rw [show p.drop (wMax.length + 1) = p.drop 4 from rfl]
    obtain ⟨n1, n2⟩ := num2_eq (p.drop 4)
    cases hasS s wMax
    · simp only [Bool.not_false, Bool.true_and, cond_false]
      rw [← n1]
      cases hn : (numN (p.drop 4) 2 1 20).2
      · exact ⟨rfl, fun h => by cases h⟩
      · rw [← n2 hn]
        exact ⟨rfl, fun _ => ⟨rfl, rfl⟩⟩
    · exact ⟨rfl, fun h => by cases h⟩
  by_cases h3 : upTo 61 p = wVer
  · rw [h3]
    simp only [d41, d42, d43, beq_self_eq_true, cond_true, cond_false, show ((3 : Int) == 0) = false from rfl, show ((3 : Int) == 1) = false from rfl, show ((3 : Int) == 2) = false from rfl, show ((3 : Int) == 3) = true from rfl, seenOf, d14, d24, d34, Bool.or_true, Bool.or_false]
    rw [show p.drop (wVer.length + 1) = p.drop 9 from rfl]
    cases hasS s wVer
    · cases p.drop 9 == [49]
      · exact ⟨rfl, fun h => by cases h⟩
      · exact ⟨rfl, fun _ => ⟨rfl, rfl⟩⟩
    · exact ⟨rfl, fun h => by cases h⟩
  have b0 : (upTo 61 p == wPre) = false := beq_eq_false_iff_ne.2 h0
  have b1 : (upTo 61 p == wAft) = false := beq_eq_false_iff_ne.2 h1
  have b2 : (upTo 61 p == wMax) = false := beq_eq_false_iff_ne.2 h2
  have b3 : (upTo 61 p == wVer) = false := beq_eq_false_iff_ne.2 h3
  simp only [b0, b1, b2, b3, cond_false, Bool.and_false]
  exact ⟨rfl, fun h => by cases h⟩
/-! ### the whole query -/
theorem go_eq : ∀ (f : Nat) (q : List UInt8) (s : List (List UInt8)) (a : AskD), q.length < f →
    (partsGo f q (seenOf s) a).2 = (listedGo (splitN q) s a).2 ∧ ((listedGo (splitN q) s a).2 = true → (partsGo f q (seenOf s) a).1 = (listedGo (splitN q) s a).1)
  | 0, q, s, a, h => absurd h (Nat.not_lt_zero _)
  | f + 1, q, s, a, h => by
    obtain ⟨p1, p2⟩ := part_eq (upTo 38 q) s a
    have hu := upTo_len 38 q
    unfold partsGo
    -- what the first part tells
    have key : ∀ (r : List (List UInt8)), listedGo (upTo 38 q :: r) s a = bif (pset (upTo 38 q) (seenOf s) a).2.1 then listedGo r (s ++ [(cutE (upTo 38 q)).1]) (lset (cutE (upTo 38 q)).1 (cutE (upTo 38 q)).2.1 a).1 else ((listedGo (upTo 38 q :: r) s a).1, false) := by
      intro r
      rw [p1]
      conv => lhs; unfold listedGo
      cases hc : (cutE (upTo 38 q)).2.2
      · simp [listedGo, hc]
      · cases hh : hasS s (cutE (upTo 38 q)).1
        · cases hl : (lset (cutE (upTo 38 q)).1 (cutE (upTo 38 q)).2.1 a).2
          · simp [listedGo, hc, hh, hl]
          · simp
        · simp [listedGo, hc, hh]
    by_cases he : (upTo 38 q).length = q.length
    · have hno := upTo_all 38 q he
      have hsp : splitN q = [upTo 38 q] := by
        show Lib.split q [38] = _
        rw [split1_no 38 q hno, upTo_not 38 q hno]
      rw [hsp, key, decide_eq_true he]
      cases hp : (pset (upTo 38 q) (seenOf s) a).2.1
      · exact ⟨rfl, fun h => by cases h⟩
      · simp only [cond_true, listedGo]
        exact ⟨trivial, fun _ => (p2 hp).1⟩
    · have hyes : hasB 38 q = true := by
        cases hb : hasB 38 q
        · rw [upTo_not 38 q hb] at he; exact absurd rfl he
        · rfl
      have hsp : splitN q = upTo 38 q :: splitN (q.drop ((upTo 38 q).length + 1)) := split1_yes 38 q hyes
      rw [hsp, key, decide_eq_false he]
      cases hp : (pset (upTo 38 q) (seenOf s) a).2.1
      · exact ⟨rfl, fun h => by cases h⟩
      · simp only [cond_true, cond_false]
        obtain ⟨e1, e2⟩ := p2 hp
        rw [e1, e2]
        exact go_eq f (q.drop ((upTo 38 q).length + 1)) (s ++ [(cutE (upTo 38 q)).1]) _ (by rw [List.length_drop]; omega)
/-- a list's query: told by the program, told by the document -/
theorem query_eq (q : List UInt8) (a : AskD) : (partsN q (setMax (setKind a 4) 20)).2 = (listedN a q).2 ∧ ((listedN a q).2 = true → (partsN q (setMax (setKind a 4) 20)).1 = (listedN a q).1) := by
  unfold partsN listedN
  cases q == []
  · exact go_eq (q.length + 1) q [] (setMax (setKind a 4) 20) (by omega)
  · exact ⟨rfl, fun _ => rfl⟩
/-! ### marks, conditions -/
theorem read_eq (s : List UInt8) : (gRead s).2 = (rRead s).2 := by
  unfold gRead rRead; cases rdZ s <;> rfl
theorem gRead_len {s : List UInt8} (h : (gRead s).2 = true) : s.length = 8 := by
  unfold gRead rdZ at h
  by_cases hl : s.length = 8
  · exact hl
  · rw [decide_eq_false hl] at h; cases h
theorem pre34 : ∀ s : List UInt8, hasPre s [34] = (decide (1 ≤ s.length) && s.getD 0 0 == 34)
  | [] => rfl
  | c :: r => by
    unfold hasPre
    have e : (List.take ([34] : List UInt8).length (c :: r) == [34]) = (c == 34) := by
      show ([c] == [34]) = _
      cases h : c == 34
      · rw [beq_eq_false_iff_ne] at h ⊢
        intro e; exact h (List.cons.inj e).1
      · rw [beq_iff_eq.1 h]; rfl
    rw [e]; rfl
theorem suf34 (s : List UInt8) : hasSuf s [34] = (decide (1 ≤ s.length) && s.getD (s.length - 1) 0 == 34) := by
  unfold hasSuf
  by_cases h : 1 ≤ s.length
  · have hl : s.length - 1 < s.length := by omega
    have e : s.drop (s.length - ([34] : List UInt8).length) = [s.getD (s.length - 1) 0] := by
      show s.drop (s.length - 1) = _
      rw [List.drop_eq_getElem_cons hl, List.getD_eq_getElem?_getD, List.getElem?_eq_getElem hl]
      rw [show s.length - 1 + 1 = s.length by omega, List.drop_length]; rfl
    rw [e]
    show (decide (1 ≤ s.length) && _) = _
    congr 1
    cases h : s.getD (s.length - 1) 0 == 34
    · rw [beq_eq_false_iff_ne] at h ⊢
      intro e; exact h (List.cons.inj e).1
    · rw [beq_iff_eq.1 h]; rfl
  · rw [show decide (([34] : List UInt8).length ≤ s.length) = false from decide_eq_false h, decide_eq_false h]; rfl
theorem tag_eq (s : List UInt8) : (tagA s).2 = tagRB s ∧ ((tagA s).2 = true → (tagA s).1 = tagR s) := by
  unfold tagA
  have hpre := pre34 s
  cases h0 : hasPre s [34]
  · have hc : cutPre s [34] = (s, false) := by unfold cutPre; rw [h0]; rfl
    rw [hc]
    refine ⟨?_, fun h => by cases h⟩
    rw [Bool.false_and]
    unfold tagRB
    by_cases hl : s.length = 10
    · rw [h0] at hpre
      rw [decide_eq_true (by omega), Bool.true_and] at hpre
      rw [← hpre, Bool.false_and, Bool.and_false]
    · rw [decide_eq_false hl]; rfl
  have hc : cutPre s [34] = (s.drop 1, true) := by unfold cutPre; rw [h0]; rfl
  rw [hc]
  dsimp only
  rw [Bool.true_and]
  rw [h0] at hpre
  have hp2 := hpre.symm
  rw [Bool.and_eq_true, decide_eq_true_eq] at hp2
  obtain ⟨hl1, hg0⟩ := hp2
  have hsuf := suf34 (s.drop 1)
  rw [List.length_drop] at hsuf
  cases h1 : hasSuf (s.drop 1) [34]
  · have hd : cutSuf (s.drop 1) [34] = (s.drop 1, false) := by unfold cutSuf; rw [h1]; rfl
    rw [hd]
    refine ⟨?_, fun h => by cases h⟩
    rw [Bool.false_and]
    unfold tagRB
    by_cases hl : s.length = 10
    · rw [h1, hl, decide_eq_true (by omega), Bool.true_and] at hsuf
      have e9 : (s.drop 1).getD (10 - 1 - 1) 0 = s.getD 9 0 := by
        rw [List.getD_eq_getElem?_getD, List.getD_eq_getElem?_getD, List.getElem?_drop]
      rw [e9] at hsuf
      rw [← hsuf, Bool.false_and, Bool.and_false, Bool.and_false]
    · rw [decide_eq_false hl]; rfl
  have hd : cutSuf (s.drop 1) [34] = ((s.drop 1).take (s.length - 2), true) := by
    unfold cutSuf; rw [h1, cond_true, List.length_drop]
    rfl
  rw [hd]
  dsimp only
  rw [Bool.true_and]
  unfold tagRB
  by_cases hl : s.length = 10
  · have et : (s.drop 1).take (s.length - 2) = tagR s := by
      unfold tagR; rw [hl, List.drop_take]
    rw [h1, hl, decide_eq_true (by omega), Bool.true_and] at hsuf
    have e9 : (s.drop 1).getD (10 - 1 - 1) 0 = s.getD 9 0 := by
      rw [List.getD_eq_getElem?_getD, List.getD_eq_getElem?_getD, List.getElem?_drop]
    rw [e9] at hsuf
    rw [et, decide_eq_true hl, hg0, ← hsuf, read_eq]
    exact ⟨rfl, fun _ => rfl⟩
  · rw [decide_eq_false hl, Bool.false_and]
    have : (gRead ((s.drop 1).take (s.length - 2))).2 = false := by
      cases hg : (gRead ((s.drop 1).take (s.length - 2))).2
      · rfl
      · have := gRead_len hg
        rw [List.length_take, List.length_drop] at this
        omega
    rw [this]
    exact ⟨rfl, fun h => by cases h⟩
/-- a condition: told by the program, told by the document -/
theorem conds_eq (l : HeadL) (a : AskD) (h1 : a.2.2.2.2.1 = 0) (h2 : a.2.2.2.2.2.1 = []) : rcondsN l a = bif (condsN l).2.2 then (setCT a (condsN l).1 (condsN l).2.1, 0) else (zAsk, 400) := by
  obtain ⟨a0, a1, a2, a3, a4, a5, a6, a7, a8, a9, ⟨⟩⟩ := a
  dsimp only at h1 h2
  subst h1 h2
  unfold rcondsN condsN
  cases (valueN l inmW).2
  · cases (valueN l imW).2
    · rfl
    · simp only [cond_true, cond_false]
      obtain ⟨t1, t2⟩ := tag_eq (valueN l imW).1
      rw [← t1]
      cases ht : (tagA (valueN l imW).1).2
      · rfl
      · rw [t2 ht]
  · cases (valueN l imW).2
    · cases (valueN l inmW).1 == [42] <;> rfl
    · rfl
end Nice
namespace Nice
open Go Go.Eng
def kAsk (k : List UInt8) (b : Bool) : AskD := (0, k, 0, [], 0, [], [], [], 0, b, ())
def bAsk (b : Bool) : AskD := (0, [], 0, [], 0, [], [], [], 0, b, ())
def listOut (h : Bool) (q b : List UInt8) : AskD × Int := bif (listedN (bAsk h) q).2 && b == [] then ((listedN (bAsk h) q).1, 0) else (zAsk, 400)
def keyOut (h : Bool) (m p q : List UInt8) (hs : HeadL) (b : List UInt8) : AskD × Int :=
  bif (keyedG (kAsk (p.drop 3) h) m q hs b).2 && (m == putW || b == []) then ((keyedG (kAsk (p.drop 3) h) m q hs b).1, 0) else (zAsk, 400)
def ofN (r : ReqW) : AskD × Int :=
  bif r.2.1 == oW || r.2.1 == ooW then (bif r.1 == getW || r.1 == headW then listOut (r.1 == headW) r.2.2.1 r.2.2.2.2.1 else (zAsk, 405))
  else bif hasPre r.2.1 ooW then (bif (r.1 == getW || r.1 == headW) || (r.1 == putW || r.1 == delW) then keyOut (r.1 == headW) r.1 r.2.1 r.2.2.1 r.2.2.2.1 r.2.2.2.2.1 else (zAsk, 405))
  else (zAsk, 404)
def ofP (r : ReqW) : Bool := condsP r.2.2.2.1 && (shortS r.2.2.1 && bndS r.2.1)
noncomputable def ofS : PSpec := ⟨[ReqT], [AskT, .int .i64], fun x => ofP x.1, fun x => ((ofN x.1).1, (ofN x.1).2, ())⟩
/-- a version: told by the document -/
def verRB (q : List UInt8) : Bool := !decide ((q.length : Int) ≤ 8) && (q.take 8 == vPre && (!(q.getD 8 0 == 48) && ((refNum (q.drop 8) 13).2 && (!decide ((refNum (q.drop 8) 13).1 < 1) && !decide ((refNum (q.drop 8) 13).1 > 1099511627776)))))
theorem numN_pos' {s : List UInt8} {most lo hi : Int} (h : (numN s most lo hi).2 = true) : 0 < s.length := by
  cases s with
  | nil => simp [numN, intN, Lib.parseIntB] at h
  | cons c r => simp
theorem ver_q (q : List UInt8) : (verN q).2 = verRB q ∧ ((verN q).2 = true → (verN q).1 = (refNum (q.drop 8) 13).1) := by
  unfold verN verRB
  have hp : hasPre q vPre = (decide (8 ≤ q.length) && q.take 8 == vPre) := rfl
  cases h : hasPre q vPre
  · have hc : cutPre q vPre = (q, false) := by unfold cutPre; rw [h]; rfl
    rw [hc]
    dsimp only
    rw [Bool.false_and, Bool.and_false]
    refine ⟨?_, fun h => by cases h⟩
    by_cases hl : 8 ≤ q.length
    · rw [h, decide_eq_true hl, Bool.true_and] at hp
      rw [← hp, Bool.false_and, Bool.and_false]
    · rw [decide_eq_true (by omega : (q.length : Int) ≤ 8)]; rfl
  · have hc : cutPre q vPre = (q.drop 8, true) := by unfold cutPre; rw [h]; rfl
    rw [hc]
    dsimp only
    rw [Bool.true_and]
    rw [h] at hp
    have hp2 := hp.symm
    rw [Bool.and_eq_true, decide_eq_true_eq] at hp2
    rw [hp2.2, Bool.true_and]
    have eg : (q.drop 8).getD 0 0 = q.getD 8 0 := by
      rw [List.getD_eq_getElem?_getD, List.getD_eq_getElem?_getD, List.getElem?_drop]
    rw [eg]
    by_cases hl : q.length = 8
    · have he : q.drop 8 = [] := List.drop_eq_nil_of_le (by omega)
      rw [decide_eq_true (by omega : (q.length : Int) ≤ 8), he]
      exact ⟨rfl, fun h => by
        rw [Bool.and_eq_true] at h
        have := numN_pos' h.1
        simp at this⟩
    · rw [decide_eq_false (by omega : ¬ (q.length : Int) ≤ 8), Bool.not_false, Bool.true_and]
      cases h48 : q.getD 8 0 == 48
      · have h0 : (q.drop 8).getD 0 0 ≠ 48 := by rw [eg]; exact beq_eq_false_iff_ne.1 h48
        obtain ⟨v1, v2⟩ := ver_eq (q.drop 8) h0
        rw [Bool.not_false, Bool.and_true, Bool.true_and]
        exact ⟨v1, v2⟩
      · rw [Bool.not_true, Bool.and_false, Bool.false_and]
        exact ⟨rfl, fun h => by cases h⟩
end Nice
