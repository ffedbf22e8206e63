/-
  What the functions of asks compute, in plain words. No condition.
-/
import Derived.Test.YtnblkjapeiaedaaGreatDoorNice
import Derived.Shelf.GgClosure.StringsIndexFuncTop
import Derived.Shelf.Strconv.ParseIntPublic10
namespace Nice
open Go Go.Eng
def keyCh (c : UInt8) : Bool := decide (97 ≤ c.toNat ∧ c.toNat ≤ 122 ∨ 48 ≤ c.toNat ∧ c.toNat ≤ 57 ∨ c.toNat = 46 ∨ c.toNat = 45 ∨ c.toNat = 95 ∨ c.toNat = 47)
def isKey (s : List UInt8) : Bool := s.all keyCh && (decide (1 ≤ s.length) && decide (s.length ≤ 40))
def bndS (s : List UInt8) : Bool := decide (s.length ≤ 140737488355328)
def intN (s : List UInt8) : Int × Bool := match Lib.parseIntB 64 s with
  | .ok v => (v, true)
  | Lib.NumEnd.syntax => (0, false)
  | .range => (Lib.intSat 64 s, false)
def hasPre (s p : List UInt8) : Bool := decide (p.length ≤ s.length) && s.take p.length == p
def cutPre (s p : List UInt8) : List UInt8 × Bool := bif hasPre s p then (s.drop p.length, true) else (s, false)
def digsF : Nat → Nat → List UInt8 → List UInt8
  | 0, _, acc => acc
  | f + 1, n, acc => if n / 10 = 0 then UInt8.ofNat (48 + n % 10) :: acc else digsF f (n / 10) (UInt8.ofNat (48 + n % 10) :: acc)
def digs (u : Int) : List UInt8 := digsF 20 u.toNat []
def digits (n : Int) : List UInt8 := if n < 0 then 45 :: digs (-n) else digs n
/-! ### contracts -/
noncomputable def keyChS : PSpec := ⟨[.byte], [.bool], fun _ => true, fun x => (keyCh x.1, ())⟩
noncomputable def isKeyS : PSpec := ⟨[.str], [.bool], fun x => bndS x.1, fun x => (isKey x.1, ())⟩
noncomputable def parseS : PSpec := ⟨[.str, .int .i64, .int .i64], [.int .i64, .err], fun x => bndS x.1 && (decide (x.2.1 = 10) && decide (x.2.2.1 = 64)), fun x => ((intN x.1).1, (intN x.1).2, ())⟩
noncomputable def hasPreS : PSpec := ⟨[.str, .str], [.bool], fun _ => true, fun x => (hasPre x.1 x.2.1, ())⟩
noncomputable def cutPreS : PSpec := ⟨[.str, .str], [.str, .bool], fun _ => true, fun x => ((cutPre x.1 x.2.1).1, (cutPre x.1 x.2.1).2, ())⟩
noncomputable def digsS : PSpec := ⟨[.int .u64], [.str], fun x => decide (0 ≤ x.1) && decide (x.1 < 18446744073709551616), fun x => (digs x.1, ())⟩
noncomputable def digitsS : PSpec := ⟨[.int .i64], [.str], fun x => decide (-9223372036854775808 ≤ x.1) && decide (x.1 ≤ 9223372036854775807), fun x => (digits x.1, ())⟩
/-! ### paths: no query, no heads, no body -/
end Nice
