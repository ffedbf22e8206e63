/-
  Small laws for equations, closed begun, cut: contracts. No condition.
-/
import Derived.Test.YtnblkjapeiaedaaGreatDoorSym
import Derived.Test.YtnblkjapeiaedaaGreatDoorNiceK
import Derived.Test.YtnblkjapeiaedaaGreatDoorEng11
import Derived.Test.YtnblkjapeiaedaaGreatDoorBegD
namespace Nice
open Go Go.Eng
theorem xT {α : Type} (a b : α) : (bif true then a else b) = a := Eq.trans (cond_true a b) rfl
theorem xF {α : Type} (a b : α) : (bif false then a else b) = b := Eq.trans (cond_false a b) rfl
theorem xG {α : Type} (r : Option α) : gd [] r = r := Eq.trans gd_nil rfl
abbrev BO := Option (DenL [.bool])
def bO (b : Bool) : Option (DenL [.bool]) := some (b, ())
end Nice
namespace Go.Proofs.YtnblkjapeiaedaaGreatDoor
open Go Go.Eng Nice Go.RowKit
set_option maxRecDepth 1000000
theorem begun_c : PC 13 trueS := pure_true begun17_run
end Go.Proofs.YtnblkjapeiaedaaGreatDoor
