/-
  Part of the proof: LawND. No condition.
-/
import Derived.Test.YtdegbhgoldglaaaGreatDoorDnD
import Derived.Test.YtdegbhgoldglaaaGreatDoorSym
import Derived.Test.YtdegbhgoldglaaaGreatDoorEng11
namespace Go.Proofs.YtdegbhgoldglaaaGreatDoor
open Go Go.Eng
theorem lawND_run {w:World} (hgl:GlW glC w) {args:Array Value} {x:DenL [.slice (.int .i64),.int .i64]} (hx:RdAll (fzW w) [.slice (.int .i64),.int .i64] x args.toList) (hb:BdL [.slice (.int .i64),.int .i64] x):Calls Tryz.prog 4 args w fun e w'=>e=.returned (.bool true)∧Same w w':=
 law_calls nd_c (fun _ _=>⟨rfl,rfl⟩) hgl hx hb
end Go.Proofs.YtdegbhgoldglaaaGreatDoor
