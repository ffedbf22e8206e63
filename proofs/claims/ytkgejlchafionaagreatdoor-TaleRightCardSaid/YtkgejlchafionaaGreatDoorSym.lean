/-
  The environment for functions of data, and of objects. No condition.
-/
import Derived.Test.YtkgejlchafionaaGreatDoorEnv
import Derived.Test.YtkgejlchafionaaGreatDoorEng11
open _root_ renaming List->AE
namespace Go.Proofs.YtkgejlchafionaaGreatDoor
open Tryz
open Go Go.Eng
set_option maxRecDepth 1000000
def vD:AE TypeId:=[89,23,72]
theorem X8:AFt prog vD=true:=by kernel_rfl
noncomputable def Aj(l:AE (Nat×PSpec)):Eng.Env:={ Hz KN (O1 l)with vt:=tyE (Sx sb) 10,cmp:=Zw (Sx sb) vD}
theorem Ac{l:AE (Nat×PSpec)}(h:Ke prog IP l):(Aj l).OK prog:=
 have e:(Hz KN (O1 l)).OK prog:=P2 (λf a v h=>by cases h) (O2 h)
 ⟨e.T,e.fn,e.ext,e.sum,e.gl,e.mixed,e.spec,e.mnz,Tp e.T X8,e.osp,e.vsp⟩
noncomputable def GF(l:AE (Nat×PSpec))(o:AE (Nat×OSpec)):Eng.Env:={ Hz KN (O1 l)with vt:=tyE (Sx sb) 10,cmp:=Zw (Sx sb) vD,osp:=rF o}
theorem Cb{l:AE (Nat×PSpec)}{o:AE (Nat×OSpec)}(h:Ke prog IP l)(b:QL prog IP o):(GF l o).OK prog:=
 have e:(Hz KN (O1 l)).OK prog:=P2 (λf a v h=>by cases h) (O2 h)
 ⟨e.T,e.fn,e.ext,e.sum,e.gl,e.mixed,e.spec,e.mnz,Tp e.T X8,Yd b,e.vsp⟩
noncomputable def ACx(l:AE (Nat×PSpec))(o:AE (Nat×OSpec))(v:AE (Nat×VSpec)):Eng.Env:={ Hz KN (O1 l)with vt:=tyE (Sx sb) 10,cmp:=Zw (Sx sb) vD,osp:=rF o,vsp:=wM v}
theorem gv{l:AE (Nat×PSpec)}{o:AE (Nat×OSpec)}{v:AE (Nat×VSpec)}(h:Ke prog IP l)(b:QL prog IP o)(c:Uc prog IP v):(ACx l o v).OK prog:=
 have e:(Hz KN (O1 l)).OK prog:=P2 (λf a v h=>by cases h) (O2 h)
 ⟨e.T,e.fn,e.ext,e.sum,e.gl,e.mixed,e.spec,e.mnz,Tp e.T X8,Yd b,iK c⟩
abbrev VC(f:FuncId)(S:VSpec):Prop:=Zv prog IP f S
abbrev PC(f:FuncId)(S:PSpec):Prop:=Kh prog IP f S
abbrev OC(f:FuncId)(S:OSpec):Prop:=Xu prog IP f S
