/-
  Answers as bytes (say), in plain words; the contracts' specifications. No condition.
-/
import Derived.Test.YtnblkjapeiaedaaGreatDoorA1
namespace Nice
open Go Go.Eng
abbrev AnsT : Ty := .pair (.int .i64) (.pair (.slice HeadT) (.pair .str .unit))
--WORDS
def wordsN (n : Int) : List UInt8 := bif n == 200 then [79, 75] else bif n == 204 then [78, 111, 32, 67, 111, 110, 116, 101, 110, 116] else bif n == 400 then [66, 97, 100, 32, 82, 101, 113, 117, 101, 115, 116] else bif n == 404 then [78, 111, 116, 32, 70, 111, 117, 110, 100] else bif n == 405 then [77, 101, 116, 104, 111, 100, 32, 78, 111, 116, 32, 65, 108, 108, 111, 119, 101, 100] else bif n == 412 then [80, 114, 101, 99, 111, 110, 100, 105, 116, 105, 111, 110, 32, 70, 97, 105, 108, 101, 100] else bif n == 413 then [67, 111, 110, 116, 101, 110, 116, 32, 84, 111, 111, 32, 76, 97, 114, 103, 101] else bif n == 414 then [85, 82, 73, 32, 84, 111, 111, 32, 76, 111, 110, 103] else bif n == 431 then [82, 101, 113, 117, 101, 115, 116, 32, 72, 101, 97, 100, 101, 114, 32, 70, 105, 101, 108, 100, 115, 32, 84, 111, 111, 32, 76, 97, 114, 103, 101] else bif n == 503 then [83, 101, 114, 118, 105, 99, 101, 32, 85, 110, 97, 118, 97, 105, 108, 97, 98, 108, 101] else bif n == 507 then [73, 110, 115, 117, 102, 102, 105, 99, 105, 101, 110, 116, 32, 83, 116, 111, 114, 97, 103, 101] else []
noncomputable def wordsS : PSpec := ⟨[.int .i64], [.str], fun _ => true, fun x => (wordsN x.1, ())⟩
end Nice
