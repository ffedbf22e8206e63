/-
  What the functions of asks compute, in plain words. No condition.
-/
import Derived.Test.YtpdbgpkedehpgaaGreatDoorNice
import Derived.Shelf.GgClosure.StringsIndexFuncTop
import Derived.Shelf.Strconv.ParseIntPublic10
namespace Nice
open Go Go.Eng
def keyCh (c : UInt8) : Bool := decide (97 ≤ c.toNat ∧ c.toNat ≤ 122 ∨ 48 ≤ c.toNat ∧ c.toNat ≤ 57 ∨ c.toNat = 46 ∨ c.toNat = 45 ∨ c.toNat = 95 ∨ c.toNat = 47)
def isKey (s : List UInt8) : Bool := s.all keyCh && (decide (1 ≤ s.length) && decide (s.length ≤ 40))
def bndS (s : List UInt8) : Bool := decide (s.length ≤ 140737488355328)
def notDig (r : Nat) : Bool := decide (r < 48) || decide (57 < r)
def idxF (s : List UInt8) : Int := Lib.idxFunc notDig true (bs s)
def intN (s : List UInt8) : Int × Bool := match Lib.parseIntB 64 s with
  | .ok v => (v, true)
  | Lib.NumEnd.syntax => (0, false)
  | .range => (Lib.intSat 64 s, false)
def numN (s : List UInt8) (most lo hi : Int) : Int × Bool := ((intN s).1, allDig s && ((intN s).2 && (decide ((s.length : Int) ≤ most) && (decide ((intN s).1 ≥ lo) && decide ((intN s).1 ≤ hi)))))
def hasPre (s p : List UInt8) : Bool := decide (p.length ≤ s.length) && s.take p.length == p
def hasSuf (s p : List UInt8) : Bool := decide (p.length ≤ s.length) && s.drop (s.length - p.length) == p
def cutPre (s p : List UInt8) : List UInt8 × Bool := bif hasPre s p then (s.drop p.length, true) else (s, false)
def cutSuf (s p : List UInt8) : List UInt8 × Bool := bif hasSuf s p then (s.take (s.length - p.length), true) else (s, false)
def digsF : Nat → Nat → List UInt8 → List UInt8
  | 0, _, acc => acc
  | f + 1, n, acc => if n / 10 = 0 then UInt8.ofNat (48 + n % 10) :: acc else digsF f (n / 10) (UInt8.ofNat (48 + n % 10) :: acc)
def digs (u : Int) : List UInt8 := digsF 20 u.toNat []
def digits (n : Int) : List UInt8 := if n < 0 then 45 :: digs (-n) else digs n
def vPre : List UInt8 := [118, 101, 114, 115, 105, 111, 110, 61]
/-- of a key, no put: the kind, the number, is it right? -/
def keyedN (m q k : List UInt8) : Int × Int × Bool :=
  bif isKey k then
    bif q == [] then (bif m == [68, 69, 76, 69, 84, 69] then 3 else 1, 0, true)
    else (bif m == [68, 69, 76, 69, 84, 69] then 3 else 1, (numN (cutPre q vPre).1 (cutPre q vPre).1.length 1 1099511627776).1, (numN (cutPre q vPre).1 (cutPre q vPre).1.length 1 1099511627776).2 && ((cutPre q vPre).2 && !((cutPre q vPre).1.getD 0 0 == 48)))
  else (0, 0, false)
def keyedP (m q k : List UInt8) : Bool := !(m == [80, 85, 84]) && (bndS q && bndS k)
def zAsk : Int × List UInt8 × Int × List UInt8 × Int × List UInt8 × List UInt8 × List UInt8 × Int × Bool × Unit := (0, [], 0, [], 0, [], [], [], 0, false, ())
/-- what is asked by GET /o/k and a query -/
def askV (q : List UInt8) : (Int × List UInt8 × Int × List UInt8 × Int × List UInt8 × List UInt8 × List UInt8 × Int × Bool × Unit) × Int :=
  bif (keyedN [71, 69, 84] q [107]).2.2 then (((keyedN [71, 69, 84] q [107]).1, [107], (keyedN [71, 69, 84] q [107]).2.1, [], 0, [], [], [], 0, false, ()), 0) else (zAsk, 400)
theorem decode_ascii {s : ByteArray} {i : Nat} (h : (s.get! i).toNat < 128) : Utf8.decode s i = ((s.get! i).toNat, 1) := by
  unfold Utf8.decode
  simp only [Nat.add_zero]
  rw [if_pos (show (s.get! i).toNat < 0x80 from h)]
theorem decode_high {s : ByteArray} {i : Nat} (h : 128 ≤ (s.get! i).toNat) : 57 < (Utf8.decode s i).1 := by
  unfold Utf8.decode
  simp only [Nat.add_zero]
  rw [if_neg (show ¬ (s.get! i).toNat < 0x80 by omega)]
  have hr : 57 < Utf8.runeError := by decide
  have hge : ∀ (c : Nat) (b : Bool) (k : Nat), c ≥ k → 57 < k → 57 < c := fun c b k h1 h2 => by omega
  repeat' split
  all_goals first
    | exact hr
    | (rename_i h1; simp only [Bool.and_eq_true, decide_eq_true_eq] at h1; omega)
    | (rename_i h1; have h1 := of_decide_eq_true h1; omega)
    | (rename_i h1; omega)
theorem idx_l (s : ByteArray) : ∀ (f pos : Nat), s.size - pos ≤ f → decide (Lib.idxFuncFrom notDig true s f pos ≥ 0) = !((s.data.toList.drop pos).all isDig)
  | 0, pos, h => by
    have : s.data.toList.drop pos = [] := List.drop_eq_nil_of_le (by show s.data.toList.length ≤ pos; have : s.data.toList.length = s.size := rfl; omega)
    rw [this]; simp [Lib.idxFuncFrom]
  | f + 1, pos, h => by
    unfold Lib.idxFuncFrom
    by_cases hp : pos < s.size
    · rw [if_pos hp]
      have hp' : pos < s.data.toList.length := hp
      have hd : s.data.toList.drop pos = s.get! pos :: s.data.toList.drop (pos + 1) := by
        rw [List.drop_eq_getElem_cons hp']
        congr 1
        show _ = s.data[pos]!
        rw [getElem!_pos s.data pos hp]
        rfl
      rw [hd]
      simp only [List.all_cons]
      by_cases ha : (s.get! pos).toNat < 128
      · rw [decode_ascii ha]
        by_cases hdg : 48 ≤ (s.get! pos).toNat ∧ (s.get! pos).toNat ≤ 57
        · rw [if_neg (by simp only [notDig, Bool.or_eq_true, decide_eq_true_eq]; omega), isDig_iff.2 hdg, Bool.true_and]
          exact idx_l s f (pos + 1) (by omega)
        · have : isDig (s.get! pos) = false := by cases hb : isDig (s.get! pos); rfl; exact absurd (isDig_iff.1 hb) hdg
          rw [if_pos (by simp only [notDig, Bool.or_eq_true, decide_eq_true_eq]; omega), this]
          simp
      · have := decode_high (s := s) (i := pos) (by omega)
        have hd : isDig (s.get! pos) = false := by cases hb : isDig (s.get! pos); rfl; have := isDig_iff.1 hb; omega
        rw [if_pos (by simp only [notDig, Bool.or_eq_true, decide_eq_true_eq]; omega), hd]
        simp
    · rw [if_neg hp]
      have : s.data.toList.drop pos = [] := List.drop_eq_nil_of_le (by have : s.data.toList.length = s.size := rfl; omega)
      rw [this]; rfl
theorem idxF_ge (s : List UInt8) : decide (idxF s ≥ 0) = !allDig s := by
  have := idx_l (bs s) (bs s).size 0 (by omega)
  simpa [idxF, Lib.idxFunc, allDig, bs] using this
/-! ### contracts -/
abbrev AskT : Ty := .pair (.int .i64) (.pair .str (.pair (.int .i64) (.pair .str (.pair (.int .i64) (.pair .str (.pair .str (.pair .str (.pair (.int .i64) (.pair .bool .unit)))))))))
noncomputable def noS (ts rs : List Ty) : PSpec := ⟨ts, rs, fun _ => false, fun _ => dfltL rs⟩
noncomputable def keyChS : PSpec := ⟨[.byte], [.bool], fun _ => true, fun x => (keyCh x.1, ())⟩
noncomputable def isKeyS : PSpec := ⟨[.str], [.bool], fun x => bndS x.1, fun x => (isKey x.1, ())⟩
noncomputable def notDigS : PSpec := ⟨[.int .i32], [.bool], fun _ => true, fun x => (decide (x.1 < 48) || decide (57 < x.1), ())⟩
noncomputable def idxFS (f : Nat) : PSpec := ⟨[.str, .fn f], [.int .i64], fun _ => true, fun x => (idxF x.1, ())⟩
noncomputable def parseS : PSpec := ⟨[.str, .int .i64, .int .i64], [.int .i64, .err], fun x => bndS x.1 && (decide (x.2.1 = 10) && decide (x.2.2.1 = 64)), fun x => ((intN x.1).1, (intN x.1).2, ())⟩
noncomputable def numS : PSpec := ⟨[.str, .int .i64, .int .i64, .int .i64], [.int .i64, .bool], fun x => bndS x.1, fun x => ((numN x.1 x.2.1 x.2.2.1 x.2.2.2.1).1, (numN x.1 x.2.1 x.2.2.1 x.2.2.2.1).2, ())⟩
noncomputable def hasPreS : PSpec := ⟨[.str, .str], [.bool], fun _ => true, fun x => (hasPre x.1 x.2.1, ())⟩
noncomputable def hasSufS : PSpec := ⟨[.str, .str], [.bool], fun _ => true, fun x => (hasSuf x.1 x.2.1, ())⟩
noncomputable def cutPreS : PSpec := ⟨[.str, .str], [.str, .bool], fun _ => true, fun x => ((cutPre x.1 x.2.1).1, (cutPre x.1 x.2.1).2, ())⟩
noncomputable def cutSufS : PSpec := ⟨[.str, .str], [.str, .bool], fun _ => true, fun x => ((cutSuf x.1 x.2.1).1, (cutSuf x.1 x.2.1).2, ())⟩
noncomputable def keyedS : PSpec := ⟨[AskT, ReqT], [AskT, .bool], fun x => keyedP x.2.1.1 x.2.1.2.2.1 x.1.2.1 && (x.1.1 == (0 : Int) && x.1.2.2.1 == (0 : Int)), fun x => (((keyedN x.2.1.1 x.2.1.2.2.1 x.1.2.1).1, x.1.2.1, (keyedN x.2.1.1 x.2.1.2.2.1 x.1.2.1).2.1, x.1.2.2.2), (keyedN x.2.1.1 x.2.1.2.2.1 x.1.2.1).2.2, ())⟩
noncomputable def digsS : PSpec := ⟨[.int .u64], [.str], fun x => decide (0 ≤ x.1) && decide (x.1 < 18446744073709551616), fun x => (digs x.1, ())⟩
noncomputable def digitsS : PSpec := ⟨[.int .i64], [.str], fun x => decide (-9223372036854775808 ≤ x.1) && decide (x.1 ≤ 9223372036854775807), fun x => (digits x.1, ())⟩
noncomputable def ofVS : PSpec := ⟨[ReqT], [AskT, .int .i64], fun x => (x.1.1 == [71, 69, 84] && x.1.2.1 == [47, 111, 47, 107]) && (x.1.2.2.2.2.1 == [] && bndS x.1.2.2.1), fun x => ((askV x.1.2.2.1).1, (askV x.1.2.2.1).2, ())⟩
/-! ### paths: no query, no heads, no body -/
def isGet (m : List UInt8) : Bool := m == [71, 69, 84]
def isHead (m : List UInt8) : Bool := m == [72, 69, 65, 68]
def isPut (m : List UInt8) : Bool := m == [80, 85, 84]
def isDel (m : List UInt8) : Bool := m == [68, 69, 76, 69, 84, 69]
def isList (p : List UInt8) : Bool := p == [47, 111] || p == [47, 111, 47]
def pathN (m p : List UInt8) : (Int × List UInt8 × Int × List UInt8 × Int × List UInt8 × List UInt8 × List UInt8 × Int × Bool × Unit) × Int :=
  bif !isList p && !hasPre p [47, 111, 47] then (zAsk, 404)
  else bif !(isGet m || isHead m) && (isList p || (!isPut m && !isDel m)) then (zAsk, 405)
  else bif isList p then ((4, [], 0, [], 0, [], [], [], 20, isHead m, ()), 0)
  else bif isKey (p.drop 3) then ((bif isPut m then 2 else bif isDel m then 3 else 1, p.drop 3, 0, [], 0, [], [], [], 0, isHead m, ()), 0)
  else (zAsk, 400)
noncomputable def condsZS : PSpec := ⟨[ReqT], [.int .i64, .str, .bool], fun x => x.1.2.2.2.1.isEmpty, fun _ => ((0 : Int), ([] : List UInt8), true, ())⟩
noncomputable def listedZS : PSpec := ⟨[AskT, .str], [AskT, .bool], fun x => x.2.1.isEmpty, fun x => (((4 : Int), x.1.2.1, x.1.2.2.1, x.1.2.2.2.1, x.1.2.2.2.2.1, x.1.2.2.2.2.2.1, x.1.2.2.2.2.2.2.1, x.1.2.2.2.2.2.2.2.1, (20 : Int), x.1.2.2.2.2.2.2.2.2.2.1, ()), true, ())⟩
noncomputable def partsZS : PSpec := ⟨[.str, AskT], [AskT, .bool], fun x => x.1.isEmpty, fun x => (x.2.1, true, ())⟩
noncomputable def rcondsZS : PSpec := ⟨[ReqT, AskT], [AskT, .int .i64], fun x => x.1.2.2.2.1.isEmpty, fun x => (x.2.1, (0 : Int), ())⟩
def keyedZN (m k : List UInt8) : Int := bif isKey k then (bif isPut m then 2 else bif isDel m then 3 else 1) else 0
noncomputable def keyedZS : PSpec := ⟨[AskT, ReqT], [AskT, .bool], fun x => ((x.2.1.2.2.1.isEmpty && x.2.1.2.2.2.1.isEmpty) && (x.2.1.2.2.2.2.1.isEmpty && bndS x.1.2.1)) && ((x.1.1 == (0 : Int) && x.1.2.2.2.1.isEmpty) && (x.1.2.2.2.2.1 == (0 : Int) && x.1.2.2.2.2.2.1.isEmpty)), fun x => ((keyedZN x.2.1.1 x.1.2.1, x.1.2.1, x.1.2.2.1, x.1.2.2.2.1, x.1.2.2.2.2.1, x.1.2.2.2.2.2.1, x.1.2.2.2.2.2.2.1, x.1.2.2.2.2.2.2.2.1, x.1.2.2.2.2.2.2.2.2.1, x.1.2.2.2.2.2.2.2.2.2.1, ()), isKey x.1.2.1, ())⟩
noncomputable def ofPS : PSpec := ⟨[ReqT], [AskT, .int .i64], fun x => (x.1.2.2.1.isEmpty && x.1.2.2.2.1.isEmpty) && (x.1.2.2.2.2.1.isEmpty && bndS x.1.2.1), fun x => ((pathN x.1.1 x.1.2.1).1, (pathN x.1.1 x.1.2.1).2, ())⟩
end Nice
