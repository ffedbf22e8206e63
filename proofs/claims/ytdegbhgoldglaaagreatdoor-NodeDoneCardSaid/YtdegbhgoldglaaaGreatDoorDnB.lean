/-
  armariumlaw21.NodeDone: the way to the loop, its condition, body and step. No condition.
-/
import Derived.Test.YtdegbhgoldglaaaGreatDoorDnA
namespace Go.Proofs.YtdegbhgoldglaaaGreatDoor
noncomputable section
open Go Go.Eng
set_option maxRecDepth 1000000
def ED := envT smD2 [D2e2, D2e1, D2e0, D3e2, D3e1, D3e0]
def SD : PSpec := ⟨[.slice (.int .i64), .int .i64], [.bool], fun _ => true, fun _ => (true, ())⟩
def LC : Code := (cutC 9 (bodyOf Tryz.f4)).2
def c12 : Code := match LC with | .seq (.seq a _) _ => a | _ => .skip
def loopB : Code := match LC with | .seq (.seq _ (.block _ (.loop a))) _ => a | _ => .skip
def p1 : Code := match loopB with | .seq a _ => a | _ => .skip
def p2 : Code := match loopB with | .seq _ (.seq a _) => a | _ => .skip
def p3 : Code := match loopB with | .seq _ (.seq _ a) => a | _ => .skip
def rsD (t : Int) : List (Nat × Value) := [(0, dt 10), (1, sy (.int .i64 t)), (6, vP 82 0), (9, vI 12884901889)]
def rsL (t i : Int) : List (Nat × Value) := [(0, dt 10), (1, sy (.int .i64 t)), (6, vP 82 0), (9, vI 12884901889), (10, sy (.int .i64 i))]
theorem segA (xs : List Int) (t : Int) : segR Tryz.prog ED 100000 117 (entσ ED SD (xs, t, ()) []) (cutC 9 (bodyOf Tryz.f4)).1 (entS ED SD (xs, t, ()) []) (entσ ED SD (xs, t, ()) []) 214 D2os [0, 1, 6, 9] = some (regT (rsD t), []) := by kernel_rfl
theorem ED_ok : ED.OK Tryz.prog := envT_ok (l := [D2e2, D2e1, D2e0, D3e2, D3e1, D3e0]) smD2_ok ⟨D2e2_c, D2e1_c, D2e0_c, D3e2_c, D3e1_c, D3e0_c, trivial⟩
abbrev sB (xs : List Int) (t : Int) : St := entσ ED SD (xs, t, ()) []
abbrev sX (xs : List Int) (t : Int) (ora : List Nat) : St := ⟨(backS (sB xs t) 214 D2os).heap, 214, [], ora⟩
theorem w1 (xs : List Int) (t i : Int) : segX Tryz.prog ED 100000 117 (sB xs t) p1 (regT (rsL t i)) (sX xs t [1,1]) 214 D2os [0,1,6,9,10] = some (.normal, regT (rsL t i), [decide (i < 6) == true, decide (i < (xs.length : Int)) == true]) := by kernel_rfl
theorem w2 (xs : List Int) (t i : Int) : segX Tryz.prog ED 100000 117 (sB xs t) p1 (regT (rsL t i)) (sX xs t [1,0]) 214 D2os [0,1,6,9,10] = some (.exit 0, regT (rsL t i), [decide (i < 6) == false, decide (i < (xs.length : Int)) == true]) := by kernel_rfl
theorem w3 (xs : List Int) (t i : Int) : segX Tryz.prog ED 100000 117 (sB xs t) p1 (regT (rsL t i)) (sX xs t [0]) 214 D2os [0,1,6,9,10] = some (.exit 0, regT (rsL t i), [decide (i < (xs.length : Int)) == false]) := by kernel_rfl
theorem w5 (xs : List Int) (t : Int) : segX Tryz.prog ED 100000 117 (sB xs t) c12 (regT (rsD t)) (sX xs t []) 214 D2os [0,1,6,9,10] = some (.normal, (((((Tr.lf.set 10 (some (.int .i64 0))).set 9 (some (vI 12884901889))).set 6 (some (vP 82 0))).set 1 (some (sy (.int .i64 t)))).set 0 (some (dt 10))), []) := by kernel_rfl
theorem w4 (xs : List Int) (t i : Int) : segX Tryz.prog ED 100000 117 (sB xs t) p3 (regT (rsL t i)) (sX xs t []) 214 D2os [0,1,6,9,10] = some (.normal, regT (rsL t (i + 1)), [decide (inK .i64 (i + 1))]) := by kernel_rfl
abbrev rv (xs : List Int) (i : Int) : Int := IntKind.i64.wrap ↑(BitVec.ofInt IntKind.i64.bits (List.getD xs i.toNat 0) &&& BitVec.ofInt IntKind.i64.bits 1099511627775).toNat
abbrev pB (xs : List Int) (i : Int) : List Bool := [decide (i.toNat < xs.length), decide (0 ≤ i), decide (i < (xs.length : Int))]
abbrev pM (xs : List Int) (i : Int) : List Bool := (decide (rv xs i > 1099511627776) == false) :: (decide (rv xs i < 0) == false) :: ((rv xs i != 12884901889) == true) :: pB xs i
abbrev pH (xs : List Int) (i : Int) : List Bool := (decide (rv xs i ≥ 25769803776) == false) :: (decide (rv xs i < 4294967296) == false) :: pM xs i
abbrev pQ (xs : List Int) (i : Int) : List Bool := true :: decide (inK .i64 ((rv xs i).tdiv 4294967296)) :: (((rv xs i).tmod 4294967296 == 0) == false) :: true :: pH xs i
abbrev SX (xs : List Int) (t i : Int) (ora : List Nat) := segX Tryz.prog ED 100000 117 (sB xs t) p2 (regT (rsL t i)) (sX xs t ora) 214 D2os [0,1,6,9,10]
theorem c0 (xs : List Int) (t i : Int) : SX xs t i [0] = some (.normal, regT (rsL t i), ((rv xs i != 12884901889) == false) :: pB xs i) := by kernel_rfl
theorem c1 (xs : List Int) (t i : Int) : SX xs t i [1,0,0,1] = some (.normal, regT (rsL t i), (decide (rv xs i < 4294967296) == true) :: pM xs i) := by kernel_rfl
theorem c2 (xs : List Int) (t i : Int) : SX xs t i [1,0,0,0,1] = some (.normal, regT (rsL t i), (decide (rv xs i ≥ 25769803776) == true) :: (decide (rv xs i < 4294967296) == false) :: pM xs i) := by kernel_rfl
theorem c3 (xs : List Int) (t i : Int) : SX xs t i [1,0,0,0,0,1] = some (.normal, regT (rsL t i), (((rv xs i).tmod 4294967296 == 0) == true) :: true :: pH xs i) := by kernel_rfl
theorem c4 (xs : List Int) (t i : Int) : SX xs t i [1,0,0,0,0,0,0] = some (.normal, regT (rsL t i), (((rv xs i).tdiv 4294967296 == 3) == false) :: pQ xs i) := by kernel_rfl
theorem c5 (xs : List Int) (t i : Int) : SX xs t i [1,0,0,0,0,0,1,1] = some (.normal, regT (rsL t i), ((12884901889 != rv xs i) == true) :: (((rv xs i).tdiv 4294967296 == 3) == true) :: pQ xs i) := by kernel_rfl
end
end Go.Proofs.YtdegbhgoldglaaaGreatDoor
