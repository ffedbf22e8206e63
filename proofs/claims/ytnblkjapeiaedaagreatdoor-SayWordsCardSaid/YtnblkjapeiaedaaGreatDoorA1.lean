/-
  Part of the proof: NiceK. No condition.
-/
import Derived.Test.YtnblkjapeiaedaaGreatDoorNice
import Derived.Shelf.GgClosure.StringsIndexFuncTop
import Derived.Shelf.Strconv.ParseIntPublic10
namespace Nice
open Go Go.Eng
def digsF : Nat → Nat → List UInt8 → List UInt8
  | 0, _, acc => acc
  | f + 1, n, acc => if n / 10 = 0 then UInt8.ofNat (48 + n % 10) :: acc else digsF f (n / 10) (UInt8.ofNat (48 + n % 10) :: acc)
def digs (u : Int) : List UInt8 := digsF 20 u.toNat []
def digits (n : Int) : List UInt8 := if n < 0 then 45 :: digs (-n) else digs n
/-! ### contracts -/
/-! ### paths: no query, no heads, no body -/
end Nice
