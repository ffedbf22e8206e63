/-
  Part of the proof: PFl PFlo NiceT NiceZ. No condition.
-/
import Derived.Test.YtnblkjapeiaedaaGreatDoorEng11
import Derived.Test.YtnblkjapeiaedaaGreatDoorNiceK
import Derived.Test.YtnblkjapeiaedaaGreatDoorX0
namespace Nice
open Go Go.Eng
/-- no NaN -/
def finW (x : Nat) : Bool := match FloatKind.f64.decode x with
  | .nan _ _ => false
  | _ => true
def truncW (x : Nat) : Nat := FloatKind.f64.encode ((FloatKind.f64.decode x).integral .zero)
def wholeW (x a b : Nat) : Bool := fRel .geq .f64 x a && (fRel .leq .f64 x b && fRel .eql .f64 x (truncW x))
theorem log_le {n k : Nat} (h1 : 1 ≤ n) (h2 : n < 2 ^ (k + 1)) : n.log2 ≤ k := by
  have := (Nat.log2_lt (by omega : n ≠ 0)).2 h2
  omega
theorem cut_zero (way : Ieee.Toward) (n : Nat) : way.cut false n 0 = n := by
  unfold Ieee.Toward.cut
  have e : (1 <<< min 0 (n.log2 + 2) : Nat) = 1 := by rw [Nat.zero_min]; rfl
  simp only [e, Nat.div_one, Nat.mod_one, Nat.mul_zero]
  cases way <;> simp
theorem word_false (f : Ieee.Format) (x : Nat) : f.word false x = x := rfl
theorem nearest_pos {n : Nat} (h1 : 1 ≤ n) (h2 : n < 2 ^ 53) : FloatKind.f64.nearest (n : Int) = (n.log2 + 1022) * 2 ^ 52 + n * 2 ^ (52 - n.log2) := by
  have hL := log_le h1 h2
  have hlo := Nat.log2_self_le (by omega : n ≠ 0)
  have hhi := (Nat.log2_lt (by omega : n ≠ 0)).1 (Nat.lt_succ_self n.log2)
  have e0 : decide ((n : Int) < 0) = false := by rw [decide_eq_false_iff_not]; omega
  show Ieee.Format.nearest Ieee.double (decide ((n : Int) < 0)) (n : Int).natAbs 0 = _
  rw [e0, Int.natAbs_natCast]
  unfold Ieee.Format.nearest
  rw [if_neg (by omega)]
  have hlp : Ieee.double.leastPlace = -1074 := by decide
  have hmax : max ((0 : Int) + n.log2 - (Ieee.double.fractionBits : Nat)) Ieee.double.leastPlace = (n.log2 : Int) - 52 := by
    rw [hlp]
    show max ((0 : Int) + n.log2 - 52) (-1074) = _
    omega
  simp only [hmax]
  rw [hlp]
  have e1 : ((n.log2 : Int) - 52 - 0).toNat = 0 := by omega
  have e2 : ((0 : Int) - ((n.log2 : Int) - 52)).toNat = 52 - n.log2 := by omega
  have e3 : ((n.log2 : Int) - 52 - -1074).toNat = n.log2 + 1022 := by omega
  rw [e1, e2, e3, cut_zero, Nat.shiftLeft_eq]
  have hb : Ieee.double.binade = 2 ^ 52 := rfl
  have hi : Ieee.double.infRung = 2047 * 2 ^ 52 := by decide
  rw [hb, hi]
  have hk : n * 2 ^ (52 - n.log2) < 2 ^ 53 := by
    calc n * 2 ^ (52 - n.log2) < 2 ^ (n.log2 + 1) * 2 ^ (52 - n.log2) := Nat.mul_lt_mul_of_pos_right hhi (Nat.two_pow_pos _)
      _ = 2 ^ 53 := by rw [← Nat.pow_add]; congr 1; omega
  rw [word_false]
  apply Nat.min_eq_left
  omega
theorem decode_nearest {n : Nat} (h1 : 1 ≤ n) (h2 : n < 2 ^ 53) : FloatKind.f64.decode (FloatKind.f64.nearest (n : Int)) = .number false (n * 2 ^ (52 - n.log2)) ((n.log2 : Int) - 52) := by
  have hL := log_le h1 h2
  have hlo := Nat.log2_self_le (by omega : n ≠ 0)
  have hhi := (Nat.log2_lt (by omega : n ≠ 0)).1 (Nat.lt_succ_self n.log2)
  rw [nearest_pos h1 h2]
  have hk : n * 2 ^ (52 - n.log2) < 2 ^ 53 := by
    calc n * 2 ^ (52 - n.log2) < 2 ^ (n.log2 + 1) * 2 ^ (52 - n.log2) := Nat.mul_lt_mul_of_pos_right hhi (Nat.two_pow_pos _)
      _ = 2 ^ 53 := by rw [← Nat.pow_add]; congr 1; omega
  have hg : 2 ^ 52 ≤ n * 2 ^ (52 - n.log2) := by
    calc 2 ^ 52 = 2 ^ n.log2 * 2 ^ (52 - n.log2) := by rw [← Nat.pow_add]; congr 1; omega
      _ ≤ n * 2 ^ (52 - n.log2) := Nat.mul_le_mul_right _ hlo
  generalize n * 2 ^ (52 - n.log2) = m at hk hg ⊢
  have hs : Ieee.double.signWeight = 2 ^ 63 := rfl
  have hb : Ieee.double.binade = 2 ^ 52 := rfl
  have hi : Ieee.double.infRung = 2047 * 2 ^ 52 := by decide
  have hlp : Ieee.double.leastPlace = -1074 := by decide
  show Ieee.Format.read Ieee.double ((n.log2 + 1022) * 2 ^ 52 + m) = _
  unfold Ieee.Format.read
  simp only [hs, hb, hi, hlp]
  have q1 : ((n.log2 + 1022) * 2 ^ 52 + m) / 2 ^ 63 % 2 = 0 := by omega
  have q2 : ((n.log2 + 1022) * 2 ^ 52 + m) % 2 ^ 63 = (n.log2 + 1022) * 2 ^ 52 + m := by omega
  rw [q1, q2, if_neg (by omega), if_pos (by omega)]
  have q3 : 2 ^ 52 + ((n.log2 + 1022) * 2 ^ 52 + m) % 2 ^ 52 = m := by omega
  have q4 : ((n.log2 + 1022) * 2 ^ 52 + m) / 2 ^ 52 - 1 = n.log2 + 1022 := by omega
  rw [q3, q4]
  have q5 : (-1074 : Int) + ((n.log2 + 1022 : Nat) : Int) = (n.log2 : Int) - 52 := by omega
  rw [q5]
  rfl
theorem trunc_nearest {n : Nat} (h1 : 1 ≤ n) (h2 : n < 2 ^ 53) : truncW (FloatKind.f64.nearest (n : Int)) = FloatKind.f64.nearest (n : Int) := by
  have hL := log_le h1 h2
  unfold truncW
  rw [decode_nearest h1 h2]
  unfold Ieee.Datum.integral Ieee.Toward.cut
  have e1 : ((n.log2 : Int) - 52).toNat = 0 := by omega
  have e2 : (-((n.log2 : Int) - 52)).toNat = 52 - n.log2 := by omega
  simp only [e1, e2, Nat.shiftLeft_zero, Bool.toNat_false, Nat.add_zero]
  have hg : (1 <<< min (52 - n.log2) ((n * 2 ^ (52 - n.log2)).log2 + 2) : Nat) = 2 ^ (52 - n.log2) := by
    rw [Nat.shiftLeft_eq, Nat.one_mul, Nat.min_eq_left]
    have : 2 ^ (52 - n.log2) ≤ n * 2 ^ (52 - n.log2) := Nat.le_mul_of_pos_left _ h1
    have := (Nat.le_log2 (Nat.ne_of_gt (Nat.lt_of_lt_of_le (Nat.two_pow_pos _) this))).2 this
    omega
  rw [hg, Nat.mul_div_cancel _ (Nat.two_pow_pos _)]
  have e0 : decide ((n : Int) < 0) = false := by rw [decide_eq_false_iff_not]; omega
  show _ = Ieee.Format.nearest Ieee.double (decide ((n : Int) < 0)) (n : Int).natAbs 0
  rw [e0, Int.natAbs_natCast]
  rfl
theorem order_self (s : Bool) (m : Nat) (i : Int) : Ieee.Datum.order (.number s m i) (.number s m i) = some .eq := by
  unfold Ieee.Datum.order
  simp
/-- a part below 65536 is just what may be if it is below 65521 -/
theorem whole_n {n : Nat} (h : n < 65536) : finW (FloatKind.f64.nearest (n : Int)) = true ∧ wholeW (FloatKind.f64.nearest (n : Int)) 0 4679237813814689792 = decide (n < 65521) := by
  rcases Nat.eq_zero_or_pos n with rfl | h1
  · decide
  have h2 : n < 2 ^ 53 := by omega
  have hd := decode_nearest h1 h2
  have hL : n.log2 ≤ 15 := log_le h1 (by omega)
  refine ⟨by unfold finW; rw [hd], ?_⟩
  have hz : FloatKind.f64.decode 0 = .number false 0 (-1074) := by decide
  have hw : FloatKind.f64.decode 4679237813814689792 = .number false (65520 * 2 ^ 37) (-37) := by decide
  have o1 : FloatKind.f64.format.order (FloatKind.f64.nearest (n : Int)) 0 = some .gt := by
    show Ieee.Datum.order (FloatKind.f64.decode (FloatKind.f64.nearest (n : Int))) (FloatKind.f64.decode 0) = _
    rw [hd, hz]
    unfold Ieee.Datum.order Ieee.signed
    have hm : min ((n.log2 : Int) - 52) (-1074) = -1074 := by omega
    simp only [hm, Bool.false_eq_true, if_false, Nat.shiftLeft_eq, Nat.zero_mul]
    congr 1
    rw [Int.compare_eq_gt]
    have : 0 < n * 2 ^ (52 - n.log2) * 2 ^ ((n.log2 : Int) - 52 - -1074).toNat := Nat.mul_pos (Nat.mul_pos h1 (Nat.two_pow_pos _)) (Nat.two_pow_pos _)
    omega
  have o2 : FloatKind.f64.format.order (FloatKind.f64.nearest (n : Int)) 4679237813814689792 = some (compare n 65520) := by
    show Ieee.Datum.order (FloatKind.f64.decode (FloatKind.f64.nearest (n : Int))) (FloatKind.f64.decode 4679237813814689792) = _
    rw [hd, hw]
    unfold Ieee.Datum.order Ieee.signed
    have hm : min ((n.log2 : Int) - 52) (-37) = (n.log2 : Int) - 52 := by omega
    have e1 : ((n.log2 : Int) - 52 - ((n.log2 : Int) - 52)).toNat = 0 := by omega
    have e2 : ((-37 : Int) - ((n.log2 : Int) - 52)).toNat = 15 - n.log2 := by omega
    simp only [hm, e1, e2, Bool.false_eq_true, if_false, Nat.shiftLeft_eq, Nat.pow_zero, Nat.mul_one]
    have e3 : 65520 * 2 ^ 37 * 2 ^ (15 - n.log2) = 65520 * 2 ^ (52 - n.log2) := by
      rw [Nat.mul_assoc, ← Nat.pow_add]; congr 2; omega
    rw [e3]
    congr 1
    have hp := Nat.two_pow_pos (52 - n.log2)
    generalize 2 ^ (52 - n.log2) = q at hp
    rcases Nat.lt_trichotomy n 65520 with hlt | heq | hgt
    · rw [Nat.compare_eq_lt.2 hlt, Int.compare_eq_lt]
      exact Int.ofNat_lt.2 (Nat.mul_lt_mul_of_pos_right hlt hp)
    · rw [Nat.compare_eq_eq.2 heq, Int.compare_eq_eq, heq]
    · rw [Nat.compare_eq_gt.2 hgt, Int.compare_eq_gt]
      exact Int.ofNat_lt.2 (Nat.mul_lt_mul_of_pos_right hgt hp)
  have o3 : FloatKind.f64.format.order (FloatKind.f64.nearest (n : Int)) (FloatKind.f64.nearest (n : Int)) = some .eq := by
    show Ieee.Datum.order (FloatKind.f64.decode (FloatKind.f64.nearest (n : Int))) (FloatKind.f64.decode (FloatKind.f64.nearest (n : Int))) = _
    rw [hd, order_self]
  unfold wholeW fRel
  simp only [trunc_nearest h1 h2, o1, o2, o3]
  rcases Nat.lt_trichotomy n 65520 with hlt | heq | hgt
  · rw [Nat.compare_eq_lt.2 hlt, decide_eq_true (by omega : n < 65521)]; rfl
  · rw [Nat.compare_eq_eq.2 heq, decide_eq_true (by omega : n < 65521)]; rfl
  · rw [Nat.compare_eq_gt.2 hgt, decide_eq_false (by omega : ¬ n < 65521)]; rfl
end Nice
namespace Nice
open Go Go.Eng
abbrev fN (n : Int) : Nat := FloatKind.f64.nearest n
theorem dbl_w : Ieee.double.signWeight = 2 ^ 63 := rfl
theorem dbl_b : Ieee.double.binade = 2 ^ 52 := rfl
theorem dbl_i : Ieee.double.infRung = 2047 * 2 ^ 52 := by decide
theorem dbl_l : Ieee.double.leastPlace = -1074 := by decide
theorem word_true (x : Nat) : Ieee.double.word true x = 2 ^ 63 + x := by
  unfold Ieee.Format.word
  rw [if_pos rfl, dbl_w]
theorem cut_sg (n d : Nat) : Ieee.Toward.even.cut true n d = Ieee.Toward.even.cut false n d := rfl
theorem nearest_sg (f : Ieee.Format) (m : Nat) (p : Int) : f.nearest true m p = f.word true (f.nearest false m p) := by
  unfold Ieee.Format.nearest
  by_cases h : m = 0
  · rw [if_pos h, if_pos h, word_false]
  · rw [if_neg h, if_neg h]
    simp only [word_false]
    rw [cut_sg]
theorem nearest_neg (m : Nat) (p : Int) : Ieee.double.nearest true m p = 2 ^ 63 + Ieee.double.nearest false m p := by
  rw [nearest_sg, word_true]
theorem read_neg {r m : Nat} {i : Int} (h : r < 2 ^ 63) (hd : Ieee.double.read r = .number false m i) : Ieee.double.read (2 ^ 63 + r) = .number true m i := by
  unfold Ieee.Format.read at hd ⊢
  simp only [dbl_w, dbl_b, dbl_i, dbl_l] at hd ⊢
  have q1 : (2 ^ 63 + r) / 2 ^ 63 % 2 = 1 := by omega
  have q2 : (2 ^ 63 + r) % 2 ^ 63 = r := by omega
  have q3 : r / 2 ^ 63 % 2 = 0 := by omega
  have q4 : r % 2 ^ 63 = r := by omega
  rw [q3, q4] at hd
  rw [q1, q2]
  by_cases c1 : r < 2 ^ 52
  · rw [if_pos c1] at hd ⊢
    injection hd with _ e2 e3
    rw [e2, e3]; rfl
  · rw [if_neg c1] at hd ⊢
    by_cases c2 : r < 2047 * 2 ^ 52
    · rw [if_pos c2] at hd ⊢
      injection hd with _ e2 e3
      rw [e2, e3]; rfl
    · rw [if_neg c2] at hd
      by_cases c3 : r = 2047 * 2 ^ 52
      · rw [if_pos c3] at hd; cases hd
      · rw [if_neg c3] at hd; cases hd
/-- what stands for a whole number -/
structure Rep (n : Int) (x : Nat) (k : Nat) : Prop where
  d : FloatKind.f64.decode x = .number (decide (n < 0)) (n.natAbs * 2 ^ k) (-(k : Int))
theorem fN_neg {n : Nat} (h1 : 1 ≤ n) : fN (-(n : Int)) = 2 ^ 63 + fN (n : Int) := by
  have e1 : decide ((-(n : Int)) < 0) = true := by rw [decide_eq_true_eq]; omega
  have e2 : decide (((n : Int)) < 0) = false := by rw [decide_eq_false_iff_not]; omega
  show Ieee.double.nearest (decide ((-(n : Int)) < 0)) (-(n : Int)).natAbs 0 = 2 ^ 63 + Ieee.double.nearest (decide (((n : Int)) < 0)) (n : Int).natAbs 0
  rw [e1, e2, nearest_neg, Int.natAbs_neg]
theorem fN_pos_lt {n : Nat} (h1 : 1 ≤ n) (h2 : n < 2 ^ 53) : fN (n : Int) < 2 ^ 63 := by
  have hL := log_le h1 h2
  have hhi := (Nat.log2_lt (by omega : n ≠ 0)).1 (Nat.lt_succ_self n.log2)
  show FloatKind.f64.nearest (n : Int) < _
  rw [nearest_pos h1 h2]
  have hk : n * 2 ^ (52 - n.log2) < 2 ^ 53 := by
    calc n * 2 ^ (52 - n.log2) < 2 ^ (n.log2 + 1) * 2 ^ (52 - n.log2) := Nat.mul_lt_mul_of_pos_right hhi (Nat.two_pow_pos _)
      _ = 2 ^ 53 := by rw [← Nat.pow_add]; congr 1; omega
  omega
theorem rep {n : Int} (h : n.natAbs < 2 ^ 53) : ∃ k, Rep n (fN n) k := by
  rcases Int.lt_trichotomy n 0 with hn | hn | hn
  · obtain ⟨m, rfl⟩ : ∃ m : Nat, n = -(m : Int) := ⟨n.natAbs, by omega⟩
    rw [Int.natAbs_neg, Int.natAbs_natCast] at h
    have h1 : 1 ≤ m := by omega
    have hL := log_le h1 h
    refine ⟨52 - m.log2, ⟨?_⟩⟩
    rw [fN_neg h1, Int.natAbs_neg, Int.natAbs_natCast, decide_eq_true (show (-(m : Int)) < 0 by omega)]
    refine read_neg (fN_pos_lt h1 h) ?_
    refine Eq.trans (decode_nearest h1 h) ?_
    congr 1
    omega
  · subst hn
    have e : FloatKind.f64.decode (fN 0) = .number false 0 (-1074) := by decide
    obtain ⟨K, hK⟩ : ∃ K : Nat, K = 1074 := ⟨_, rfl⟩
    refine ⟨K, ⟨?_⟩⟩
    rw [e, Int.natAbs_zero, Nat.zero_mul, decide_eq_false (show ¬ ((0 : Int) < 0) by omega), hK]
    rfl
  · obtain ⟨m, rfl⟩ : ∃ m : Nat, n = (m : Int) := ⟨n.natAbs, by omega⟩
    rw [Int.natAbs_natCast] at h
    have h1 : 1 ≤ m := by omega
    have hL := log_le h1 h
    refine ⟨52 - m.log2, ⟨?_⟩⟩
    rw [Int.natAbs_natCast, decide_eq_false (show ¬ ((m : Int)) < 0 by omega)]
    refine Eq.trans (decode_nearest h1 h) ?_
    congr 1
    omega
theorem log2_mul {m s : Nat} (h : 1 ≤ m) : (m * 2 ^ s).log2 = m.log2 + s := by
  have hlo := Nat.log2_self_le (by omega : m ≠ 0)
  have hhi := (Nat.log2_lt (by omega : m ≠ 0)).1 (Nat.lt_succ_self m.log2)
  have hp : 0 < m * 2 ^ s := Nat.mul_pos h (Nat.two_pow_pos s)
  apply Nat.le_antisymm
  · have : (m * 2 ^ s).log2 < m.log2 + s + 1 := (Nat.log2_lt (by omega)).2 (by
      calc m * 2 ^ s < 2 ^ (m.log2 + 1) * 2 ^ s := Nat.mul_lt_mul_of_pos_right hhi (Nat.two_pow_pos _)
        _ = 2 ^ (m.log2 + s + 1) := by rw [← Nat.pow_add]; congr 1; omega)
    omega
  · exact (Nat.le_log2 (by omega)).2 (by
      calc 2 ^ (m.log2 + s) = 2 ^ m.log2 * 2 ^ s := Nat.pow_add ..
        _ ≤ m * 2 ^ s := Nat.mul_le_mul_right _ hlo)
theorem cut_even {n d : Nat} (q : Nat) (h : n = q * 2 ^ d) (hd : d ≤ n.log2 + 2) (neg : Bool) : Ieee.Toward.even.cut neg n d = q := by
  unfold Ieee.Toward.cut
  have e : (1 <<< min d (n.log2 + 2) : Nat) = 2 ^ d := by rw [Nat.min_eq_left hd, Nat.shiftLeft_eq, Nat.one_mul]
  have hp := Nat.two_pow_pos d
  have e1 : n / 2 ^ d = q := by rw [h]; exact Nat.mul_div_cancel _ hp
  have e2 : n % 2 ^ d = 0 := by rw [h]; exact Nat.mul_mod_left ..
  simp only [e, e1, e2, Nat.mul_zero]
  have c1 : decide (2 ^ d < 0) = false := rfl
  have c2 : ((2 ^ d : Nat) == 0) = false := beq_eq_false_iff_ne.2 (by omega)
  rw [c1, c2]
  rfl
/-- the value is what counts -/
theorem near_scale {m s : Nat} (hm : m < 2 ^ 53) (neg : Bool) : Ieee.double.nearest neg (m * 2 ^ s) (-(s : Int)) = Ieee.double.nearest neg m 0 := by
  rcases Nat.eq_zero_or_pos m with rfl | h1
  · rw [Nat.zero_mul]
    unfold Ieee.Format.nearest
    rw [if_pos rfl, if_pos rfl]
  have hL := log_le h1 hm
  have hp : m * 2 ^ s ≠ 0 := Nat.ne_of_gt (Nat.mul_pos h1 (Nat.two_pow_pos s))
  have hl := log2_mul (s := s) h1
  unfold Ieee.Format.nearest
  rw [if_neg hp, if_neg (by omega), hl]
  have hf : (Ieee.double.fractionBits : Int) = 52 := rfl
  have a1 : max (-(s : Int) + ((m.log2 + s : Nat) : Int) - (Ieee.double.fractionBits : Int)) Ieee.double.leastPlace = (m.log2 : Int) - 52 := by rw [dbl_l, hf]; omega
  have a2 : max ((0 : Int) + (m.log2 : Int) - (Ieee.double.fractionBits : Int)) Ieee.double.leastPlace = (m.log2 : Int) - 52 := by rw [dbl_l, hf]; omega
  simp only [a1, a2]
  have k2 : Ieee.Toward.even.cut neg (m <<< ((0 : Int) - ((m.log2 : Int) - 52)).toNat) (((m.log2 : Int) - 52) - 0).toNat = m * 2 ^ (52 - m.log2) := by
    have e1 : ((0 : Int) - ((m.log2 : Int) - 52)).toNat = 52 - m.log2 := by omega
    have e2 : (((m.log2 : Int) - 52) - 0).toNat = 0 := by omega
    rw [e1, e2, Nat.shiftLeft_eq]
    exact cut_even _ (by rw [Nat.pow_zero, Nat.mul_one]) (by omega) neg
  have k1 : Ieee.Toward.even.cut neg ((m * 2 ^ s) <<< (-(s : Int) - ((m.log2 : Int) - 52)).toNat) (((m.log2 : Int) - 52) - -(s : Int)).toNat = m * 2 ^ (52 - m.log2) := by
    by_cases hs : s ≤ 52 - m.log2
    · have e1 : (-(s : Int) - ((m.log2 : Int) - 52)).toNat = 52 - m.log2 - s := by omega
      have e2 : (((m.log2 : Int) - 52) - -(s : Int)).toNat = 0 := by omega
      rw [e1, e2, Nat.shiftLeft_eq]
      refine cut_even _ ?_ (by omega) neg
      rw [Nat.pow_zero, Nat.mul_one, Nat.mul_assoc, ← Nat.pow_add]
      congr 2; omega
    · have e1 : (-(s : Int) - ((m.log2 : Int) - 52)).toNat = 0 := by omega
      have e2 : (((m.log2 : Int) - 52) - -(s : Int)).toNat = s - (52 - m.log2) := by omega
      rw [e1, e2, Nat.shiftLeft_eq, Nat.pow_zero, Nat.mul_one]
      refine cut_even _ ?_ (by rw [hl]; omega) neg
      rw [Nat.mul_assoc, ← Nat.pow_add]
      congr 2; omega
  rw [k1, k2]
theorem write_scale {n : Int} {s : Nat} (h : n.natAbs < 2 ^ 53) : FloatKind.f64.format.write (.number (decide (n < 0)) (n.natAbs * 2 ^ s) (-(s : Int))) = fN n := near_scale h _
theorem signed_up {n : Int} {k u : Nat} : Ieee.signed (decide (n < 0)) (n.natAbs * 2 ^ k) u = n * 2 ^ (k + u) := by
  unfold Ieee.signed
  have e : ((n.natAbs * 2 ^ k) <<< u : Nat) = n.natAbs * 2 ^ (k + u) := by rw [Nat.shiftLeft_eq, Nat.mul_assoc, ← Nat.pow_add]
  have ec : ((n.natAbs * 2 ^ (k + u) : Nat) : Int) = (n.natAbs : Int) * 2 ^ (k + u) := by rw [Int.natCast_mul, Int.natCast_pow]; rfl
  rw [e, ec]
  generalize (2 : Int) ^ (k + u) = p
  by_cases h : n < 0
  · rw [if_pos (decide_eq_true h), ← Int.neg_mul, show -(n.natAbs : Int) = n by omega]
  · rw [if_neg (by rw [decide_eq_false h]; decide), show (n.natAbs : Int) = n by omega]
/-! ### operations -/
theorem sum_rep {a b : Int} {x y k l : Nat} (h1 : Rep a x k) (h2 : Rep b y l) (h : (a + b).natAbs < 2 ^ 53) (hz : ¬ (a < 0 ∧ b < 0 ∧ a + b = 0)) : (((FloatKind.f64.format.read x).sum (FloatKind.f64.format.read y)).map FloatKind.f64.format.write) = some (fN (a + b)) := by
  have d1 : FloatKind.f64.format.read x = _ := h1.d
  have d2 : FloatKind.f64.format.read y = _ := h2.d
  rw [d1, d2]
  unfold Ieee.Datum.sum
  simp only [Option.map_some]
  have hb : min (-(k : Int)) (-(l : Int)) = -((max k l : Nat) : Int) := by omega
  have u1 : (-(k : Int) - -((max k l : Nat) : Int)).toNat = max k l - k := by omega
  have u2 : (-(l : Int) - -((max k l : Nat) : Int)).toNat = max k l - l := by omega
  rw [hb, u1, u2, signed_up, signed_up, show k + (max k l - k) = max k l by omega, show l + (max k l - l) = max k l by omega, ← Int.add_mul]
  have hp : (0 : Int) < 2 ^ max k l := Int.pow_pos (by decide)
  have hn : ((a + b) * 2 ^ max k l).natAbs = (a + b).natAbs * 2 ^ max k l := by
    rw [Int.natAbs_mul, Int.natAbs_pow]; rfl
  have hs : (if (a + b) * 2 ^ max k l = 0 then (decide (a < 0) && decide (b < 0)) else decide ((a + b) * 2 ^ max k l < 0)) = decide (a + b < 0) := by
    by_cases h0 : a + b = 0
    · rw [h0, Int.zero_mul, if_pos rfl]
      by_cases ha : a < 0
      · by_cases hb : b < 0
        · exact absurd ⟨ha, hb, h0⟩ hz
        · rw [decide_eq_false hb, Bool.and_false]; rfl
      · rw [decide_eq_false ha]; rfl
    · have hne : (a + b) * 2 ^ max k l ≠ 0 := Int.mul_ne_zero h0 (by omega)
      rw [if_neg hne, decide_eq_decide]
      constructor
      · intro h
        by_cases hc : a + b < 0
        · exact hc
        · have := Int.mul_nonneg (show 0 ≤ a + b by omega) (Int.le_of_lt hp)
          omega
      · intro h
        exact Int.mul_neg_of_neg_of_pos h hp
  rw [hn, hs, write_scale h]
theorem fadd {a b : Int} (ha : 0 ≤ a) (hb : 0 ≤ b) (h : a + b < 9007199254740992) : fAr .add (fN a) (fN b) = some (fN (a + b)) := by
  obtain ⟨k, h1⟩ := rep (n := a) (by omega)
  obtain ⟨l, h2⟩ := rep (n := b) (by omega)
  exact sum_rep h1 h2 (by omega) (by omega)
theorem fsub {a b : Int} (ha : 0 ≤ a) (hb : 0 ≤ b) (h1 : a < 9007199254740992) (h2 : b < 9007199254740992) : fAr .sub (fN a) (fN b) = some (fN (a - b)) := by
  obtain ⟨k, r1⟩ := rep (n := a) (by omega)
  obtain ⟨l, r2⟩ := rep (n := b) (by omega)
  rcases Int.lt_or_eq_of_le hb with hb | hb
  · obtain ⟨l', r3⟩ := rep (n := -b) (by omega)
    have e : (FloatKind.f64.format.read (fN b)).opposite = .number (decide (-b < 0)) ((-b).natAbs * 2 ^ l) (-(l : Int)) := by
      have d : FloatKind.f64.format.read (fN b) = _ := r2.d
      rw [d, decide_eq_false (show ¬ b < 0 by omega), decide_eq_true (show -b < 0 by omega), Int.natAbs_neg]; rfl
    have d1 : FloatKind.f64.format.read (fN a) = _ := r1.d
    show ((FloatKind.f64.format.read (fN a)).sum (FloatKind.f64.format.read (fN b)).opposite).map FloatKind.f64.format.write = _
    rw [e, d1]
    unfold Ieee.Datum.sum
    simp only [Option.map_some]
    have hb2 : min (-(k : Int)) (-(l : Int)) = -((max k l : Nat) : Int) := by omega
    have u1 : (-(k : Int) - -((max k l : Nat) : Int)).toNat = max k l - k := by omega
    have u2 : (-(l : Int) - -((max k l : Nat) : Int)).toNat = max k l - l := by omega
    rw [hb2, u1, u2, signed_up, signed_up, show k + (max k l - k) = max k l by omega, show l + (max k l - l) = max k l by omega, ← Int.add_mul, ← Int.sub_eq_add_neg]
    have hp : (0 : Int) < 2 ^ max k l := Int.pow_pos (by decide)
    have hn : ((a - b) * 2 ^ max k l).natAbs = (a - b).natAbs * 2 ^ max k l := by
      rw [Int.natAbs_mul, Int.natAbs_pow]; rfl
    have hs : (if (a - b) * 2 ^ max k l = 0 then (decide (a < 0) && decide (-b < 0)) else decide ((a - b) * 2 ^ max k l < 0)) = decide (a - b < 0) := by
      by_cases h0 : a - b = 0
      · rw [h0, Int.zero_mul, if_pos rfl, decide_eq_false (show ¬ a < 0 by omega)]; rfl
      · have hne : (a - b) * 2 ^ max k l ≠ 0 := Int.mul_ne_zero h0 (by omega)
        rw [if_neg hne, decide_eq_decide]
        constructor
        · intro h
          by_cases hc : a - b < 0
          · exact hc
          · have := Int.mul_nonneg (show 0 ≤ a - b by omega) (Int.le_of_lt hp)
            omega
        · intro h
          exact Int.mul_neg_of_neg_of_pos h hp
    rw [hn, hs, write_scale (by omega)]
  · subst hb
    have e : (FloatKind.f64.format.read (fN 0)).opposite = .number true 0 (-1074) := by decide
    have d1 : FloatKind.f64.format.read (fN a) = _ := r1.d
    show ((FloatKind.f64.format.read (fN a)).sum (FloatKind.f64.format.read (fN 0)).opposite).map FloatKind.f64.format.write = _
    rw [e, d1]
    unfold Ieee.Datum.sum
    simp only [Option.map_some]
    have hb2 : min (-(k : Int)) (-1074 : Int) = -((max k 1074 : Nat) : Int) := by omega
    have u1 : (-(k : Int) - -((max k 1074 : Nat) : Int)).toNat = max k 1074 - k := by omega
    have z0 : ∀ u, Ieee.signed true 0 u = 0 := fun u => by unfold Ieee.signed; simp
    rw [hb2, u1, signed_up, z0, Int.add_zero, show k + (max k 1074 - k) = max k 1074 by omega, Int.sub_zero]
    have hp : (0 : Int) < 2 ^ max k 1074 := Int.pow_pos (by decide)
    have hn : (a * 2 ^ max k 1074).natAbs = a.natAbs * 2 ^ max k 1074 := by
      rw [Int.natAbs_mul, Int.natAbs_pow]; rfl
    have hnn := Int.mul_nonneg ha (Int.le_of_lt hp)
    have hs : (if a * 2 ^ max k 1074 = 0 then (decide (a < 0) && true) else decide (a * 2 ^ max k 1074 < 0)) = decide (a < 0) := by
      rw [decide_eq_false (show ¬ a < 0 by omega), decide_eq_false (show ¬ a * 2 ^ max k 1074 < 0 by omega)]
      split <;> rfl
    rw [hn, hs, write_scale (by omega)]
theorem fmul {a b : Int} (ha : 0 ≤ a) (hb : 0 ≤ b) (h1 : a < 9007199254740992) (h2 : b < 9007199254740992) (h : a * b < 9007199254740992) : fAr .mul (fN a) (fN b) = some (fN (a * b)) := by
  obtain ⟨k, r1⟩ := rep (n := a) (by omega)
  obtain ⟨l, r2⟩ := rep (n := b) (by omega)
  have d1 : FloatKind.f64.format.read (fN a) = _ := r1.d
  have d2 : FloatKind.f64.format.read (fN b) = _ := r2.d
  have hab := Int.mul_nonneg ha hb
  show ((FloatKind.f64.format.read (fN a)).product (FloatKind.f64.format.read (fN b))).map FloatKind.f64.format.write = _
  rw [d1, d2]
  unfold Ieee.Datum.product
  simp only [Option.map_some]
  have e1 : a.natAbs * 2 ^ k * (b.natAbs * 2 ^ l) = (a * b).natAbs * 2 ^ (k + l) := by
    rw [Int.natAbs_mul, Nat.pow_add, Nat.mul_mul_mul_comm]
  have e2 : -(k : Int) + -(l : Int) = -((k + l : Nat) : Int) := by omega
  have e3 : (decide (a < 0) ^^ decide (b < 0)) = decide (a * b < 0) := by
    rw [decide_eq_false (show ¬ a < 0 by omega), decide_eq_false (show ¬ b < 0 by omega), decide_eq_false (show ¬ a * b < 0 by omega)]; rfl
  rw [e1, e2, e3, write_scale (by omega)]
theorem ford {a b : Int} (ha : a.natAbs < 2 ^ 53) (hb : b.natAbs < 2 ^ 53) : FloatKind.f64.format.order (fN a) (fN b) = some (compare a b) := by
  obtain ⟨k, r1⟩ := rep ha
  obtain ⟨l, r2⟩ := rep hb
  have d1 : FloatKind.f64.format.read (fN a) = _ := r1.d
  have d2 : FloatKind.f64.format.read (fN b) = _ := r2.d
  show Ieee.Datum.order (FloatKind.f64.format.read (fN a)) (FloatKind.f64.format.read (fN b)) = _
  rw [d1, d2]
  unfold Ieee.Datum.order
  have hb2 : min (-(k : Int)) (-(l : Int)) = -((max k l : Nat) : Int) := by omega
  have u1 : (-(k : Int) - -((max k l : Nat) : Int)).toNat = max k l - k := by omega
  have u2 : (-(l : Int) - -((max k l : Nat) : Int)).toNat = max k l - l := by omega
  simp only [hb2, u1, u2]
  rw [signed_up, signed_up, show k + (max k l - k) = max k l by omega, show l + (max k l - l) = max k l by omega]
  have hp : (0 : Int) < 2 ^ max k l := Int.pow_pos (by decide)
  congr 1
  rcases Int.lt_trichotomy a b with h | h | h
  · rw [Int.compare_eq_lt.2 h, Int.compare_eq_lt]
    exact Int.mul_lt_mul_of_pos_right h hp
  · rw [h, Int.compare_eq_eq.2 rfl, Int.compare_eq_eq.2 rfl]
  · rw [Int.compare_eq_gt.2 h, Int.compare_eq_gt]
    exact Int.mul_lt_mul_of_pos_right h hp
theorem cut_trunc {m k : Nat} (s : Bool) : Ieee.Toward.zero.cut s (m * 2 ^ k) k = m := by
  unfold Ieee.Toward.cut
  simp only [Bool.toNat_false, Nat.add_zero]
  rcases Nat.eq_zero_or_pos m with rfl | h1
  · rw [Nat.zero_mul, Nat.zero_div]
  · have hl := log2_mul (s := k) h1
    rw [Nat.min_eq_left (by omega), Nat.shiftLeft_eq, Nat.one_mul]
    exact Nat.mul_div_cancel _ (Nat.two_pow_pos k)
theorem integral_rep {n : Int} {x k : Nat} (h : Rep n x k) : (FloatKind.f64.decode x).integral .zero = .number (decide (n < 0)) n.natAbs 0 := by
  rw [h.d]
  unfold Ieee.Datum.integral
  have e1 : (-(k : Int)).toNat = 0 := by omega
  have e2 : (- -(k : Int)).toNat = k := by omega
  simp only [e1, e2, Nat.shiftLeft_zero, cut_trunc]
theorem ftrunc {n : Int} (h : n.natAbs < 2 ^ 53) : truncW (fN n) = fN n ∧ finW (fN n) = true := by
  obtain ⟨k, r⟩ := rep h
  constructor
  · unfold truncW
    rw [integral_rep r]; rfl
  · unfold finW
    rw [r.d]
theorem fint {n : Int} (h : n.natAbs < 2 ^ 53) : fIv (fN n) .i64 = some n := by
  obtain ⟨k, r⟩ := rep h
  unfold fIv Ieee.Datum.toInt
  rw [integral_rep r]
  have e : Ieee.signed (decide (n < 0)) n.natAbs 0 = n := by
    have := signed_up (n := n) (k := 0) (u := 0)
    rw [Nat.pow_zero, Nat.mul_one] at this
    rw [this]; simp
  simp only [e]
  have hm : (IntKind.i64.min ≤ n ∧ n ≤ IntKind.i64.max) := by
    have h1 : IntKind.i64.min = -9223372036854775808 := by decide
    have h2 : IntKind.i64.max = 9223372036854775807 := by decide
    rw [h1, h2]; omega
  rw [decide_eq_true hm]; rfl
/-- whole, from one to another -/
theorem fwhole {n a b : Int} (h : n.natAbs < 2 ^ 53) (ha : a.natAbs < 2 ^ 53) (hb : b.natAbs < 2 ^ 53) : wholeW (fN n) (fN a) (fN b) = (decide (a ≤ n) && decide (n ≤ b)) := by
  have o3 := ford h h
  unfold wholeW fRel
  simp only [(ftrunc h).1, ford h ha, ford h hb, o3, Int.compare_eq_eq.2 rfl]
  rcases Int.lt_trichotomy n a with h1 | h1 | h1
  · rw [Int.compare_eq_lt.2 h1, decide_eq_false (show ¬ a ≤ n by omega)]; rfl
  · rw [Int.compare_eq_eq.2 h1, decide_eq_true (show a ≤ n by omega)]
    rcases Int.lt_trichotomy n b with h2 | h2 | h2
    · rw [Int.compare_eq_lt.2 h2, decide_eq_true (show n ≤ b by omega)]; rfl
    · rw [Int.compare_eq_eq.2 h2, decide_eq_true (show n ≤ b by omega)]; rfl
    · rw [Int.compare_eq_gt.2 h2, decide_eq_false (show ¬ n ≤ b by omega)]; rfl
  · rw [Int.compare_eq_gt.2 h1, decide_eq_true (show a ≤ n by omega)]
    rcases Int.lt_trichotomy n b with h2 | h2 | h2
    · rw [Int.compare_eq_lt.2 h2, decide_eq_true (show n ≤ b by omega)]; rfl
    · rw [Int.compare_eq_eq.2 h2, decide_eq_true (show n ≤ b by omega)]; rfl
    · rw [Int.compare_eq_gt.2 h2, decide_eq_false (show ¬ n ≤ b by omega)]; rfl
end Nice
namespace Nice
open Go Go.Eng
def isHx (c : UInt8) : Bool := decide (48 ≤ c.toNat ∧ c.toNat ≤ 57 ∨ 97 ≤ c.toNat ∧ c.toNat ≤ 102)
def hx (c : UInt8) : Int := bif decide (c.toNat ≤ 57) then (c.toNat : Int) - 48 else (c.toNat : Int) - 87
/-- eight digits of base 16: two numbers -/
def rdF : List UInt8 → Nat → Int → Int → Option (Int × Int)
  | [], _, a, b => some (a, b)
  | c :: r, i, a, b => bif isHx c then (bif decide (i < 4) then rdF r (i + 1) (a * 16 + hx c) b else rdF r (i + 1) a (b * 16 + hx c)) else none
def rdZ (s : List UInt8) : Option (Int × Int) := bif decide (s.length = 8) then (match rdF s 0 0 0 with
  | some z => bif decide (z.1 < 65521) && decide (z.2 < 65521) then some z else none
  | none => none) else none
def gRead (s : List UInt8) : (Nat × Nat) × Bool := match rdZ s with
  | some z => ((FloatKind.f64.nearest z.1, FloatKind.f64.nearest z.2), true)
  | none => ((0, 0), false)
def mayW (a b : Nat) : Bool := wholeW a 0 4679237813814689792 && wholeW b 0 4679237813814689792
noncomputable def archS : PSpec := ⟨[.f64], [.f64], fun x => finW x.1, fun x => (truncW x.1, ())⟩
noncomputable def wholeS : PSpec := ⟨[.f64, .f64, .f64], [.bool], fun x => finW x.1, fun x => (wholeW x.1 x.2.1 x.2.2.1, ())⟩
noncomputable def mayS : PSpec := ⟨[.cx], [.bool], fun x => finW x.1.1 && finW x.1.2, fun x => (mayW x.1.1 x.1.2, ())⟩
noncomputable def gReadS : PSpec := ⟨[.str], [.cx, .bool], fun _ => true, fun x => ((gRead x.1).1, (gRead x.1).2, ())⟩
end Nice
namespace Nice
open Go Go.Eng
abbrev ZW : Type := Int × Int × Unit
def modN (n : Int) : Int := bif decide (n.tmod 65521 < 0) then n.tmod 65521 + 65521 else n.tmod 65521
def zB (z : ZW) : Bool := decide (0 ≤ z.1 ∧ z.1 ≤ 70000 ∧ 0 ≤ z.2.1 ∧ z.2.1 ≤ 70000)
def zaddN (a b : ZW) : ZW := (modN (a.1 + b.1), modN (a.2.1 + b.2.1), ())
def zmulN (a b : ZW) : ZW := (modN (a.1 * b.1 - a.2.1 * b.2.1), modN (a.1 * b.2.1 + a.2.1 * b.1), ())
def onN (z : ZW) (s : List UInt8) : ZW := s.foldl (fun z c => zaddN (zmulN z (3, 5, ())) ((c.toNat : Int) + 1, 0, ())) z
def hexW : List UInt8 := [48, 49, 50, 51, 52, 53, 54, 55, 56, 57, 97, 98, 99, 100, 101, 102]
def hexD (n : Int) : UInt8 := UInt8.ofNat ((hexW.getD n.toNat 0).toNat : Int).toNat
def fourN (n : Int) : List UInt8 := [hexD ((n.tdiv 4096).tmod 16), hexD ((n.tdiv 256).tmod 16), hexD ((n.tdiv 16).tmod 16), hexD (n.tmod 16)]
def fourP (n : Int) : Bool := decide (0 ≤ n ∧ n ≤ 70000)
def textN (z : ZW) : List UInt8 := fourN z.1 ++ fourN z.2.1
def markN (s : List UInt8) : ZW := onN (0, 1, ()) s
def tagN (s : List UInt8) : List UInt8 := textN (markN s)
abbrev ZT2 : Ty := .pair (.int .i64) (.pair (.int .i64) .unit)
noncomputable def modS : PSpec := ⟨[.int .i64], [.int .i64], fun _ => true, fun x => (modN x.1, ())⟩
noncomputable def zaddS : PSpec := ⟨[ZT2, ZT2], [ZT2], fun x => zB x.1 && zB x.2.1, fun x => (zaddN x.1 x.2.1, ())⟩
noncomputable def zmulS : PSpec := ⟨[ZT2, ZT2], [ZT2], fun x => zB x.1 && zB x.2.1, fun x => (zmulN x.1 x.2.1, ())⟩
noncomputable def onS : PSpec := ⟨[ZT2, .str], [ZT2], fun x => zB x.1 && bndS x.2.1, fun x => (onN x.1 x.2.1, ())⟩
noncomputable def fourS : PSpec := ⟨[.int .i64], [.str], fun x => fourP x.1, fun x => (fourN x.1, ())⟩
noncomputable def textS : PSpec := ⟨[ZT2], [.str], fun x => zB x.1, fun x => (textN x.1, ())⟩
noncomputable def markS : PSpec := ⟨[.str], [ZT2], fun x => bndS x.1, fun x => (markN x.1, ())⟩
noncomputable def tagS : PSpec := ⟨[.str], [.str], fun x => bndS x.1, fun x => (tagN x.1, ())⟩
theorem tmod_b (n : Int) : -65521 < n.tmod 65521 ∧ n.tmod 65521 < 65521 := by
  rcases Int.le_total 0 n with h | h
  · rw [Int.tmod_eq_emod_of_nonneg h]; omega
  · obtain ⟨u, rfl⟩ : ∃ u, n = -u := ⟨-n, by omega⟩
    rw [Int.neg_tmod, Int.tmod_eq_emod_of_nonneg (by omega)]; omega
theorem modN_b (n : Int) : 0 ≤ modN n ∧ modN n < 65521 := by
  have := tmod_b n
  unfold modN
  by_cases h : n.tmod 65521 < 0
  · rw [cdT h]; omega
  · rw [cdF h]; omega
theorem zB_iff {z : ZW} : zB z = true ↔ (0 ≤ z.1 ∧ z.1 ≤ 70000 ∧ 0 ≤ z.2.1 ∧ z.2.1 ≤ 70000) := decide_eq_true_iff
theorem zadd_b (a b : ZW) : zB (zaddN a b) = true := by
  have h1 := modN_b (a.1 + b.1)
  have h2 := modN_b (a.2.1 + b.2.1)
  exact zB_iff.2 ⟨h1.1, by show modN _ ≤ _; omega, h2.1, by show modN _ ≤ _; omega⟩
theorem zmul_b (a b : ZW) : zB (zmulN a b) = true := by
  have h1 := modN_b (a.1 * b.1 - a.2.1 * b.2.1)
  have h2 := modN_b (a.1 * b.2.1 + a.2.1 * b.1)
  exact zB_iff.2 ⟨h1.1, by show modN _ ≤ _; omega, h2.1, by show modN _ ≤ _; omega⟩
theorem on_b : ∀ (s : List UInt8) (z : ZW), zB z = true → zB (onN z s) = true
  | [], _, h => h
  | _ :: s, _, _ => on_b s _ (zadd_b _ _)
theorem tagN_len (s : List UInt8) : (tagN s).length = 8 := rfl
theorem mul_bd {a b : Int} (h1 : 0 ≤ a) (h2 : a ≤ 70000) (h3 : 0 ≤ b) (h4 : b ≤ 70000) : 0 ≤ a * b ∧ a * b ≤ 4900000000 :=
  ⟨Int.mul_nonneg h1 h3, by
    have := Int.mul_le_mul h2 h4 h3 (by omega)
    omega⟩
theorem tdiv_bd {n k : Int} (h0 : 0 ≤ n) (h1 : n ≤ 70000) (hk : 1 ≤ k) : 0 ≤ n.tdiv k ∧ n.tdiv k ≤ 70000 := by
  rw [Int.tdiv_eq_ediv_of_nonneg h0]
  exact ⟨Int.ediv_nonneg h0 (by omega), Int.le_trans (Int.ediv_le_self k h0) h1⟩
theorem tmod16 {n : Int} (h0 : 0 ≤ n) : 0 ≤ n.tmod 16 ∧ n.tmod 16 < 16 := by
  rw [Int.tmod_eq_emod_of_nonneg h0]; omega
end Nice
