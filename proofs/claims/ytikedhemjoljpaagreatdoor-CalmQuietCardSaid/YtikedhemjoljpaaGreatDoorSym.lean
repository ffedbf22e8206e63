/-
  The environment for functions of data, and of objects. No condition.
-/
import Derived.Test.YtikedhemjoljpaaGreatDoorEnv
import Derived.Test.YtikedhemjoljpaaGreatDoorEng12
namespace Go.Proofs.YtikedhemjoljpaaGreatDoor
open Go Go.Eng
set_option maxRecDepth 1000000
def cmpL : List TypeId := [202, 79, 277]
theorem cmpL_ok : cmpB Tryz.prog cmpL = true := by kernel_rfl
noncomputable def envS (l : List (Nat × PSpec)) : Eng.Env := { envC sum0 (specL l) with vt := tyE (teOf tyT) 10, cmp := cmpOf (teOf tyT) cmpL }
theorem envS_ok {l : List (Nat × PSpec)} (h : PureAll Tryz.prog glC l) : (envS l).OK Tryz.prog :=
  have e : (envC sum0 (specL l)).OK Tryz.prog := env_ok (fun f a v h => by cases h) (specL_ok h)
  ⟨e.T, e.fn, e.ext, e.sum, e.gl, e.mixed, e.spec, e.mnz, cmpOf_ok e.T cmpL_ok, e.osp, e.vsp, fun _ _ _ _ _ _ h => by cases h⟩
/-- with contracts of objects, too -/
noncomputable def envO (l : List (Nat × PSpec)) (o : List (Nat × OSpec)) : Eng.Env := { envC sum0 (specL l) with vt := tyE (teOf tyT) 10, cmp := cmpOf (teOf tyT) cmpL, osp := ospL o }
theorem envO_ok {l : List (Nat × PSpec)} {o : List (Nat × OSpec)} (h : PureAll Tryz.prog glC l) (ho : ObjAll Tryz.prog glC o) : (envO l o).OK Tryz.prog :=
  have e : (envC sum0 (specL l)).OK Tryz.prog := env_ok (fun f a v h => by cases h) (specL_ok h)
  ⟨e.T, e.fn, e.ext, e.sum, e.gl, e.mixed, e.spec, e.mnz, cmpOf_ok e.T cmpL_ok, ospL_ok ho, e.vsp, fun _ _ _ _ _ _ h => by cases h⟩
/-- with functions that change a list in place, too -/
noncomputable def envV (l : List (Nat × PSpec)) (o : List (Nat × OSpec)) (v : List (Nat × VSpec)) : Eng.Env := { envC sum0 (specL l) with vt := tyE (teOf tyT) 10, cmp := cmpOf (teOf tyT) cmpL, osp := ospL o, vsp := vspL v }
theorem envV_ok {l : List (Nat × PSpec)} {o : List (Nat × OSpec)} {v : List (Nat × VSpec)} (h : PureAll Tryz.prog glC l) (ho : ObjAll Tryz.prog glC o) (hv : VecAll Tryz.prog glC v) : (envV l o v).OK Tryz.prog :=
  have e : (envC sum0 (specL l)).OK Tryz.prog := env_ok (fun f a v h => by cases h) (specL_ok h)
  ⟨e.T, e.fn, e.ext, e.sum, e.gl, e.mixed, e.spec, e.mnz, cmpOf_ok e.T cmpL_ok, ospL_ok ho, vspL_ok hv, fun _ _ _ _ _ _ h => by cases h⟩
abbrev VC (f : FuncId) (S : VSpec) : Prop := VecC Tryz.prog glC f S
abbrev PC (f : FuncId) (S : PSpec) : Prop := PureC Tryz.prog glC f S
abbrev OC (f : FuncId) (S : OSpec) : Prop := ObjC Tryz.prog glC f S
end Go.Proofs.YtikedhemjoljpaaGreatDoor
