/-
  Answers as bytes (say), in plain words; the contracts' specifications. No condition.
-/
import Derived.Test.YtnblkjapeiaedaaGreatDoorNiceK
import Derived.Lib.TrimByte
import Derived.Lib.Case
namespace Nice
open Go Go.Eng
end Nice
