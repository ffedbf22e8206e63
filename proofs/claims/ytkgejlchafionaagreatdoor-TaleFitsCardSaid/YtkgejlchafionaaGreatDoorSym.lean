/-
  The environment for functions of data, and of objects. No condition.
-/
import Derived.Test.YtkgejlchafionaaGreatDoorEnv
import Derived.Test.YtkgejlchafionaaGreatDoorEng11
namespace Go.Proofs.YtkgejlchafionaaGreatDoor
open Tryz
open Go Go.Eng
set_option maxRecDepth 1000000
def jt:List TypeId:=[89,23,72]
theorem R3:oP prog jt=true:=by kernel_rfl
noncomputable def AL (l:List (Nat×PSpec)):Eng.Env:={ EE FQ (H7 l) with vt:=tyE (Lt dC) 10,cmp:=P5 (Lt dC) jt}
theorem AG {l:List (Nat×PSpec)} (h:IU prog FP l):(AL l).OK prog:=
 have e:(EE FQ (H7 l)).OK prog:=I8 (λf a v h=>by cases h) (H8 h)
 ⟨e.T,e.fn,e.ext,e.sum,e.gl,e.mixed,e.spec,e.mnz,Jw e.T R3,e.osp,e.vsp⟩
noncomputable def Dc (l:List (Nat×PSpec)) (o:List (Nat×OSpec)):Eng.Env:={ EE FQ (H7 l) with vt:=tyE (Lt dC) 10,cmp:=P5 (Lt dC) jt,osp:=a8 o}
theorem BN {l:List (Nat×PSpec)} {o:List (Nat×OSpec)} (h:IU prog FP l) (b:Oz prog FP o):(Dc l o).OK prog:=
 have e:(EE FQ (H7 l)).OK prog:=I8 (λf a v h=>by cases h) (H8 h)
 ⟨e.T,e.fn,e.ext,e.sum,e.gl,e.mixed,e.spec,e.mnz,Jw e.T R3,Me b,e.vsp⟩
noncomputable def y8 (l:List (Nat×PSpec)) (o:List (Nat×OSpec)) (v:List (Nat×VSpec)):Eng.Env:={ EE FQ (H7 l) with vt:=tyE (Lt dC) 10,cmp:=P5 (Lt dC) jt,osp:=a8 o,vsp:=kx v}
theorem xf {l:List (Nat×PSpec)} {o:List (Nat×OSpec)} {v:List (Nat×VSpec)} (h:IU prog FP l) (b:Oz prog FP o) (c:XM prog FP v):(y8 l o v).OK prog:=
 have e:(EE FQ (H7 l)).OK prog:=I8 (λf a v h=>by cases h) (H8 h)
 ⟨e.T,e.fn,e.ext,e.sum,e.gl,e.mixed,e.spec,e.mnz,Jw e.T R3,Me b,Y1 c⟩
abbrev VC (f:FuncId) (S:VSpec):Prop:=WQ prog FP f S
abbrev PC (f:FuncId) (S:PSpec):Prop:=Gk prog FP f S
abbrev OC (f:FuncId) (S:OSpec):Prop:=Rs prog FP f S
