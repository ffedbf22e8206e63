/-
  The environment for functions of data. No condition.
-/
import Derived.Test.YtgchplamcnljaaaGreatDoorEnv
import Derived.Test.YtgchplamcnljaaaGreatDoorEng11
namespace Go.Proofs.YtgchplamcnljaaaGreatDoor
open Go Go.Eng
set_option maxRecDepth 1000000
noncomputable def envS (l : List (Nat × PSpec)) : Eng.Env := { envC sum0 (specL l) with vt := tyE (teOf tyT) 10 }
theorem envS_ok {l : List (Nat × PSpec)} (h : PureAll Tryz.prog glC l) : (envS l).OK Tryz.prog :=
  have e : (envC sum0 (specL l)).OK Tryz.prog := env_ok (fun f a v h => by cases h) (specL_ok h)
  ⟨e.T, e.fn, e.ext, e.sum, e.gl, e.mixed, e.spec, e.mnz⟩
abbrev PC (f : FuncId) (S : PSpec) : Prop := PureC Tryz.prog glC f S
end Go.Proofs.YtgchplamcnljaaaGreatDoor
