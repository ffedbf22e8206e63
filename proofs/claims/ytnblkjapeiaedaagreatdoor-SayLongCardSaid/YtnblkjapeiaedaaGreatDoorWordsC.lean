/-
  Words of statuses: the contracts. No condition.
-/
import Derived.Test.YtnblkjapeiaedaaGreatDoorSym
import Derived.Test.YtnblkjapeiaedaaGreatDoorNiceW
namespace Nice
open Go Go.Eng
def wordsO (n : Int) : Option (DenL [.str]) := (bif n == 200 then some ([79, 75], ()) else bif n == 204 then some ([78, 111, 32, 67, 111, 110, 116, 101, 110, 116], ()) else bif n == 400 then some ([66, 97, 100, 32, 82, 101, 113, 117, 101, 115, 116], ()) else bif n == 404 then some ([78, 111, 116, 32, 70, 111, 117, 110, 100], ()) else bif n == 405 then some ([77, 101, 116, 104, 111, 100, 32, 78, 111, 116, 32, 65, 108, 108, 111, 119, 101, 100], ()) else bif n == 412 then some ([80, 114, 101, 99, 111, 110, 100, 105, 116, 105, 111, 110, 32, 70, 97, 105, 108, 101, 100], ()) else bif n == 413 then some ([67, 111, 110, 116, 101, 110, 116, 32, 84, 111, 111, 32, 76, 97, 114, 103, 101], ()) else bif n == 414 then some ([85, 82, 73, 32, 84, 111, 111, 32, 76, 111, 110, 103], ()) else bif n == 431 then some ([82, 101, 113, 117, 101, 115, 116, 32, 72, 101, 97, 100, 101, 114, 32, 70, 105, 101, 108, 100, 115, 32, 84, 111, 111, 32, 76, 97, 114, 103, 101], ()) else bif n == 503 then some ([83, 101, 114, 118, 105, 99, 101, 32, 85, 110, 97, 118, 97, 105, 108, 97, 98, 108, 101], ()) else bif n == 507 then some ([73, 110, 115, 117, 102, 102, 105, 99, 105, 101, 110, 116, 32, 83, 116, 111, 114, 97, 103, 101], ()) else some ([], ()))
end Nice
namespace Go.Proofs.YtnblkjapeiaedaaGreatDoor
open Go Go.Eng Nice
set_option maxRecDepth 1000000
noncomputable def owords (x : DenL [.int .i64]) : Option (DenL [.str]) := fO Tryz.prog (envS []) (shOf []) Tryz.f20 [.int .i64] [.str] x
theorem ewords (n : Int) : owords (n, ()) = wordsO n := by kernel_rfl
noncomputable def orwords (x : DenL [.int .i64]) : Option (DenL [.str]) := fO Tryz.prog (envS []) (shOf []) Tryz.f21 [.int .i64] [.str] x
theorem erwords (n : Int) : orwords (n, ()) = wordsO n := by kernel_rfl
theorem words_nn (n : Int) : owords (n, ()) = some (wordsN n, ()) := by
  rw [ewords]
  unfold wordsO wordsN
  cases n == 200 <;> cases n == 204 <;> cases n == 400 <;> cases n == 404 <;> cases n == 405 <;> cases n == 412 <;> cases n == 413 <;> cases n == 414 <;> cases n == 431 <;> cases n == 503 <;> cases n == 507 <;> rfl
theorem words_c : PC 20 wordsS := (pureO (envS_ok (l := []) trivial) gl_ne Tryz.func20 (by kernel_rfl) (by decide)).nice fun ⟨n, ()⟩ _ => words_nn n
theorem rwords_c : PC 21 wordsS := (pureO (envS_ok (l := []) trivial) gl_ne Tryz.func21 (by kernel_rfl) (by decide)).nice fun ⟨n, ()⟩ _ => (erwords n).trans ((ewords n).symm.trans (words_nn n))
end Go.Proofs.YtnblkjapeiaedaaGreatDoor
