/-
  The engine, part 8: an abstract evaluator over the model's code, proved sound. No condition.
-/
import Derived.Test.YtikedhemjoljpaaGreatDoorEng7
section
noncomputable section
noncomputable section
namespace Go.Eng
open Go
def ob {α β:Type} (r:Option α) (f:α→Option β):Option β:=Option.rec none f r
section
variable (P:Program) (E:Env) (s:Tr Value) (σ:St)
def kMove (x:Operand):Option OpR:=pureV σ (av E.G s x)
def kPick (c a b:Operand):Option OpR:=match av E.G s c with
    |some (.bool true)=>pureV σ (av E.G s a)
    |some (.bool false)=>pureV σ (av E.G s b)
    |_=>none
def kAlloc (elem:TypeId):Option OpR:=memV (aAlloc E.T σ elem)
def kBox (elem:TypeId) (x:Operand):Option OpR:=match av E.G s x with
    |some v=>bif notJ v then memV (aNew E.T σ elem v.cells.toList) else none
    |none=>none
def kBuild (t:TypeId) (ps:Array (Nat×Operand)):Option OpR:=match avp E.G s ps.toList with
    |some l=>pureV σ (aBuild E.T t l)
    |none=>none
def kBuildSlice (t:TypeId) (n:Nat) (ps:Array (Nat×Operand)):Option OpR:=match avp E.G s ps.toList with
    |some l=>memV (aBuildSlice E.T σ t n l)
    |none=>none
def kLoad (t:TypeId) (a:Operand):Option OpR:=match av E.G s a with
    |some v=>memV (aLoad E.T σ t v)
    |none=>none
def kStore (t:TypeId) (a x:Operand):Option OpR:=match av E.G s a,av E.G s x with
    |some v,some u=>memV (aStore E.T σ t v u)
    |_,_=>none
def kNil (x:Operand):Option OpR:=match av E.G s x with
    |some (.pointer (some a))=>pureV σ (some (.pointer (some a)))
    |some (.iface t v)=>pureV σ (some (.iface t v))
    |some (.func (.func f) a b)=>pureV σ (some (.func (.func f) a b))
    |_=>none
def kBin (op:BinOp) (t:TypeId) (x y:Operand):Option OpR:=match av E.G s x,av E.G s y with
    |some a,some b=>pureV σ (aBin P E.T op t x y a b)
    |_,_=>none
def kUn (op:UnOp) (x:Operand):Option OpR:=match av E.G s x with
    |some (.bool b)=>match op with
     | .not=>pureV σ (some (.bool (!b)))
     |_=>none
    |some v=>pureV σ (bif plainN 8 v then prunV P (Op.unary op v) else none)
    |none=>none
def kConv (src dst:TypeId) (x:Operand):Option OpR:=match av E.G s x with
    |some v=>memV (aConv P E.T σ src dst v)
    |none=>none
def kIface (t:TypeId) (x:Operand):Option OpR:=match av E.G s x,E.T.und t with
    |some v,some d=>match d with
     | .interface _=>none
     |_=>pureV σ (some (.iface t v))
    |_,_=>none
def kFunc (fn:Fn) (first captured:Array Operand):Option OpR:=match avs E.G s first.toList,avs E.G s captured.toList with
    |some l,some m=>pureV σ (some (.func fn l.toArray m.toArray))
    |_,_=>none
def kMake (t:TypeId) (l c:Operand):Option OpR:=match av E.G s l,av E.G s c with
    |some a,some b=>memV (aMakeSlice E.T σ t a b)
    |_,_=>none
def kSlice (t:TypeId) (x:Operand) (lo hi mx:Option Operand):Option OpR:=match av E.G s x,avo E.G s lo,avo E.G s hi,avo E.G s mx with
    |some v,some l,some h,some m=>memV (aSlice E.T σ t v l h m)
    |_,_,_,_=>none
def kFieldAddr (t:TypeId) (x:Operand) (f:Nat):Option OpR:=match av E.G s x with
    |some v=>memV (aFieldAddr E.T σ t v f)
    |none=>none
def kField (t:TypeId) (x:Operand) (f:Nat):Option OpR:=match av E.G s x with
    |some v=>pureV σ (aField E.T t v f)
    |none=>none
def kIndexAddr (t:TypeId) (x i:Operand):Option OpR:=match av E.G s x,av E.G s i with
    |some v,some u=>memV (aIndexAddr E.T σ t v u)
    |_,_=>none
def kIndex (t:TypeId) (x i:Operand):Option OpR:=match av E.G s x,av E.G s i with
    |some v,some u=>pureV σ (aIndex E.T t v u)
    |_,_=>none
def kRange (t:TypeId) (x:Operand):Option OpR:=match av E.G s x with
    |some v=>memV (aRange E.T σ t v)
    |none=>none
def kNext (it:Operand) (isS:Bool):Option OpR:=match av E.G s it with
    |some v=>memV (aNext σ v isS)
    |none=>none
def kExtract (x:Operand) (i:Nat):Option OpR:=match av E.G s x with
    |some v=>pureV σ (aExtract v i)
    |none=>none
def kBI (c:Call) (ty:TypeId) (b:Builtin) (args:List Value):Option OpR:=memV (aBuiltin P E.T σ b c.argTypes ty (c.args.map fun| .const _=>true|_=>false) args)
def kEnter (v:Option Value) (args:List Value):Option OpR:=match v with
 |some (.func (.func g) first captured)=>match E.fn g with
  |some _=>some (.enter g (first.toList++args++captured.toList))
  |none=>pureV σ (E.ext g (first.toList++args++captured.toList))
 |_=>none
def kCallee (c:Call) (ty:TypeId) (k:Callee) (args:List Value):Option OpR:=match k with
 | .builtin b=>kBI P E σ c ty b args
 | .value f=>kEnter E σ (av E.G s f) args
 |_=>none
def kCall (c:Call) (ty:TypeId):Option OpR:=match avs E.G s c.args.toList with
    |some args=>kCallee P E s σ c ty c.callee args
    |none=>none
def kOp (ty:TypeId) (op:Op):Option OpR:=
 match op with
 | .move x=>kMove E s σ x
 | .assign x=>kMove E s σ x
 | .pick c a b=>kPick E s σ c a b
 | .alloc elem=>kAlloc E σ elem
 | .box elem x=>kBox E s σ elem x
 | .build t ps=>kBuild E s σ t ps
 | .buildSlice t n ps=>kBuildSlice E s σ t n ps
 | .load t a=>kLoad E s σ t a
 | .store t a x=>kStore E s σ t a x
 | .nilCheck x=>kNil E s σ x
 | .binOp op t x y _=>kBin P E s σ op t x y
 | .unOp op _ x=>kUn P E s σ op x
 | .convert src dst x=>kConv P E s σ src dst x
 | .makeInterface t x=>kIface E s σ t x
 | .makeFunc fn first captured=>kFunc E s σ fn first captured
 | .makeSlice t l c=>kMake E s σ t l c
 | .slice t x lo hi mx=>kSlice E s σ t x lo hi mx
 | .fieldAddr t x f=>kFieldAddr E s σ t x f
 | .field t x f=>kField E s σ t x f
 | .indexAddr t x i=>kIndexAddr E s σ t x i
 | .index t x i=>kIndex E s σ t x i
 | .range t x=>kRange E s σ t x
 | .next it isS=>kNext E s σ it isS
 | .extract x i=>kExtract E s σ x i
 | .call c=>kCall P E s σ c ty
 |_=>none
end
theorem kOp_eq (P:Program) (E:Env) (s:Tr Value) (σ:St) (o:Oper):kOp P E s σ o.type o.op=aOp P E s σ o:=by
 obtain⟨op,dst,ty,pos,after,guard⟩:=o;cases op<;>first|rfl|skip
 all_goals (simp only[kOp,kCall,kCallee,kBI,kEnter,aOp];done)
def kOpS (P:Program) (E:Env) (s:Tr Value) (σ:St) (o:Oper):Option OpR:=Option.rec (Option.rec (Option.rec (mOp E s σ o) (fun r=>some r) (symOp E s σ o)) (fun r=>some r) (kOp P E s σ o.type o.op)) (fun r=>some r) (vOpC E s σ o)
theorem kOpS_eq (P:Program) (E:Env) (s:Tr Value) (σ:St) (o:Oper):kOpS P E s σ o=aOpS P E s σ o:=by
 unfold kOpS aOpS aOpS0;rw[kOp_eq];cases vOpC E s σ o<;>cases aOp P E s σ o<;>cases symOp E s σ o<;>rfl
def kPut (nt:Nat) (s:Tr Value) (dst:Option Tmp) (v:Value) (σ:St) (φ:Foot):Option (Tr Value×St×Foot):=
 Option.rec (some (s,σ,φ)) (fun d=>Bool.rec none (some (s.set d (some v),σ,φ)) (Nat.blt d nt)) dst
def kGot (call:CallF) (nt:Nat) (dst:Option Tmp) (s:Tr Value) (σ:St) (r:OpR):Option (Tr Value×St×Foot):=
 OpR.rec (fun r=>ob (resolve r.v r.σ) fun y=>kPut nt s dst y.1 y.2 r.φ) (fun f args=>ob (call f args σ) fun x=>ob (resolve x.1 x.2.1) fun y=>kPut nt s dst y.1 y.2 x.2.2) r
def kDo (P:Program) (E:Env) (call:CallF) (nt:Nat) (o:Oper) (s:Tr Value) (σ:St):Option (Tr Value×St×Foot):=
 ob (kOpS P E s σ o) (kGot call nt o.dst s σ)
def kStep (P:Program) (E:Env) (call:CallF) (nt:Nat) (ops:List Oper) (o:Oper) (s:Tr Value) (σ:St):Option (Tr Value×St×Foot):=
 Option.rec (kDo P E call nt o s σ) (fun _=>aStep P E call nt ops o s σ) o.guard
theorem kPut_eq (nt:Nat) (s:Tr Value) (dst:Option Tmp) (v:Value) (σ:St) (φ:Foot):kPut nt s dst v σ φ=(match aPut nt s dst v with|some s'=>some (s',σ,φ)|none=>none):=by
 cases dst with
 |none=>rfl
 |some d=>simp only[kPut,aPut];cases Nat.blt d nt<;>rfl
theorem kStep_eq (P:Program) (E:Env) (call:CallF) (nt:Nat) (ops:List Oper) (o:Oper) (s:Tr Value) (σ:St):kStep P E call nt ops o s σ=aStep P E call nt ops o s σ:=by
 unfold kStep;cases hg:o.guard with
 |some g=>rfl
 |none=>
  simp only[kDo,aStep,aWanted,hg,kOpS_eq];cases aOpS P E s σ o with
  |none=>rfl
  |some r=>
   cases r with
   |val r=>
    simp only[ob,kGot];cases resolve r.v r.σ with
    |none=>rfl
    |some y=>exact kPut_eq _ _ _ _ _ _
   |enter f args=>
    simp only[ob,kGot];cases call f args σ with
    |none=>rfl
    |some x=>
     obtain⟨x1,x2,x3⟩:=x;dsimp only;cases resolve x1 x2 with
     |none=>rfl
     |some y=>exact kPut_eq _ _ _ _ _ _
def kOps2 (φ1:Foot) (r:Option (Tr Value×St×Foot)):Option (Tr Value×St×Foot):=ob r fun y=>some (y.1,y.2.1,φ1.add y.2.2)
def kOps (P:Program) (E:Env) (call:CallF) (nt:Nat) (all:List Oper) (l:List Oper):Tr Value→St→Option (Tr Value×St×Foot):=
 List.rec (motive:=fun _=>Tr Value→St→Option (Tr Value×St×Foot)) (fun s σ=>some (s,σ,.nil)) (fun o _ ih s σ=>ob (kStep P E call nt all o s σ) fun x=>kOps2 x.2.2 (ih x.1 x.2.1)) l
theorem kOps_eq (P:Program) (E:Env) (call:CallF) (nt:Nat) (all:List Oper):∀(l:List Oper) (s:Tr Value) (σ:St),kOps P E call nt all l s σ=evOps P E call nt all l s σ
 |[],s,σ=>rfl
 |o::os,s,σ=>by
  show ob (kStep P E call nt all o s σ) (fun x=>kOps2 x.2.2 (kOps P E call nt all os x.1 x.2.1))=_;rw[kStep_eq,evOps];cases aStep P E call nt all o s σ with
  |none=>rfl
  |some x=>
   simp only[ob,kOps2,kOps_eq];cases evOps P E call nt all os x.1 x.2.1<;>rfl
def kSteps2 (n:Nat) (n':Nat) (φ1:Foot) (r:Option (Tr Value×St×List Rec)):Option (Tr Value×St×List Rec):=ob r fun y=>some (y.1,y.2.1,⟨φ1.trim n,n,n'⟩::y.2.2)
def kSteps (P:Program) (E:Env) (call:CallF) (nt:Nat) (all:List Oper) (l:List Oper):Tr Value→St→Option (Tr Value×St×List Rec):=
 List.rec (motive:=fun _=>Tr Value→St→Option (Tr Value×St×List Rec)) (fun s σ=>some (s,σ,[])) (fun o _ ih s σ=>ob (kStep P E call nt all o s σ) fun x=>kSteps2 σ.next x.2.1.next x.2.2 (ih x.1 x.2.1)) l
theorem kSteps_eq (P:Program) (E:Env) (call:CallF) (nt:Nat) (all:List Oper):∀(l:List Oper) (s:Tr Value) (σ:St),kSteps P E call nt all l s σ=evSteps P E call nt all l s σ
 |[],s,σ=>rfl
 |o::os,s,σ=>by
  show ob (kStep P E call nt all o s σ) (fun x=>kSteps2 σ.next x.2.1.next x.2.2 (kSteps P E call nt all os x.1 x.2.1))=_;rw[kStep_eq,evSteps];cases aStep P E call nt all o s σ with
  |none=>rfl
  |some x=>
   simp only[ob,kSteps2,kSteps_eq];cases evSteps P E call nt all os x.1 x.2.1<;>rfl
abbrev Q4:Type:=Option (Exit×Tr Value×St×Foot)
abbrev IH:Type:=Option Code→Nat→Code→Tr Value→St→Q4
def kRet (E:Env) (n:Nat) (fn:Func) (s':Tr Value) (σ':St) (φ:Foot):Option (Value×St×Foot):=
 ob (resAll E s' σ' fn.results.toList) fun y=>some (resV y.1,σ',(φ.add y.2).trim n)
def kOut (E:Env) (n:Nat) (fn:Func) (x:Exit) (s':Tr Value) (σ':St) (φ:Foot):Option (Value×St×Foot):=
 match x with
 | .normal=>kRet E n fn s' σ' φ
 | .ret=>kRet E n fn s' σ' φ
 |_=>none
def kBody (E:Env) (ih:IH) (fn:Func) (args:List Value) (σ:St) (body:Code):Option (Value×St×Foot):=
 Bool.rec none (ob (ih none fn.ntmps body (initS 0 args .lf) σ) fun y=>kOut E σ.next fn y.1 y.2.1 y.2.2.1 y.2.2.2) (Nat.ble args.length fn.ntmps)
def kBy (E:Env) (ih:IH):CallF:=fun f args σ=>Option.rec (Option.rec (Option.rec (Option.rec (Option.rec (ob (E.fn f) fun fn=>ob fn.body (kBody E ih fn args σ)) (fun S=>callVec E S args σ) (E.vsp f)) (fun S=>callObj E S args σ) (E.osp f)) (fun S=>callPure E S args σ) (E.spec f)) (fun v=>callSum E v σ) (E.sum f args)) (fun r=>some r) (E.cus f args σ)
theorem kBy_eq (E:Env) (ih:IH):kBy E ih=callBy E fun nt c s σ=>ih none nt c s σ:=by
 funext f args σ;simp only[kBy,callBy];cases E.cus f args σ with
 |some r=>rfl
 |none=>
 cases E.sum f args with
 |some v=>rfl
 |none=>
 cases E.spec f with
 |some S=>rfl
 |none=>
 cases E.osp f with
 |some S=>rfl
 |none=>
 cases E.vsp f with
 |some S=>rfl
 |none=>
 cases E.fn f with
 |none=>rfl
 |some fn=>
  simp only[ob];cases fn.body with
  |none=>rfl
  |some body=>
   simp only[kBody];cases Nat.ble args.length fn.ntmps
   ·rfl
   ·simp only[cond_true,ob];cases ih none fn.ntmps body (initS 0 args .lf) σ with
    |none=>rfl
    |some y=>
     obtain⟨x,s',σ',φ⟩:=y;cases x<;>simp only[kOut,kRet,ob]<;>first|rfl|(cases resAll E s' σ' fn.results.toList<;>rfl)
def kAdd (φ1:Foot) (r:Q4):Q4:=ob r fun y=>some (y.1,y.2.1,y.2.2.1,φ1.add y.2.2.2)
def kScope3 (ih:IH) (body:Code) (nt:Nat) (s1:Tr Value) (σ1:St) (φ1:Foot) (l:Nat):Q4:=
 match findLabel body l with
 |some rest=>kAdd φ1 (ih (some body) nt rest s1 σ1)
 |none=>some (.goto l,s1,σ1,φ1)
def kScope2 (ih:IH) (body:Code) (nt:Nat) (x:Exit) (s1:Tr Value) (σ1:St) (φ1:Foot):Q4:=
 match x with
 | .goto l=>kScope3 ih body nt s1 σ1 φ1 l
 |x=>some (x,s1,σ1,φ1)
def kScope (ih:IH) (nt:Nat) (c:Code) (s:Tr Value) (σ:St) (body:Code):Q4:=ob (ih none nt c s σ) fun y=>kScope2 ih body nt y.1 y.2.1 y.2.2.1 y.2.2.2
def kSeq2 (ih:IH) (nt:Nat) (c:Code) (x:Exit) (s1:Tr Value) (σ1:St) (φ1:Foot):Q4:=
 match x with
 | .normal=>kAdd φ1 (ih none nt c s1 σ1)
 |x=>some (x,s1,σ1,φ1)
def kSeq (ih:IH) (nt:Nat) (c d:Code) (s:Tr Value) (σ:St):Q4:=ob (ih none nt c s σ) fun y=>kSeq2 ih nt d y.1 y.2.1 y.2.2.1 y.2.2.2
def kBlock2 (id:Nat) (x:Exit) (s1:Tr Value) (σ1:St) (φ1:Foot):Q4:=
 match x with
 | .exit id'=>bif Nat.beq id' id then some (.normal,s1,σ1,φ1) else some (.exit id',s1,σ1,φ1)
 |x=>some (x,s1,σ1,φ1)
def kBlock (ih:IH) (nt:Nat) (id:Nat) (c:Code) (s:Tr Value) (σ:St):Q4:=ob (ih none nt c s σ) fun y=>kBlock2 id y.1 y.2.1 y.2.2.1 y.2.2.2
def kCond (ih:IH) (nt:Nat) (b:Option Value) (c d:Code) (s:Tr Value) (σ:St):Q4:=match b with
 |some (.bool true)=>ih none nt c s σ
 |some (.bool false)=>ih none nt d s σ
 |_=>none
def kRegF (r:Option (Tr Value×St×Foot)):Q4:=ob r fun y=>some (.normal,y.1,y.2.1,y.2.2)
def kRegT (P:Program) (E:Env) (call:CallF) (nt:Nat) (s:Tr Value) (σ:St) (ops:Array Oper) (r:Option (Tr Value×St×List Rec)):Q4:=ob r fun y=>Bool.rec none (some (.normal,y.1,y.2.1,recsFoot y.2.2)) (okAll ops ops.toList y.2.2 [] ops.toList y.2.2||drawB P E call nt ops s σ y.1 y.2.1 y.2.2)
def kReg (P:Program) (E:Env) (ih:IH) (nt:Nat) (ops:Array Oper) (draw:Bool) (s:Tr Value) (σ:St):Q4:=
 Bool.rec (kRegF (kOps P E (kBy E ih) nt ops.toList ops.toList s σ)) (kRegT P E (kBy E ih) nt s σ ops (kSteps P E (kBy E ih) nt ops.toList ops.toList s σ)) draw
def kCode (P:Program) (E:Env) (ih:IH) (nt:Nat) (s:Tr Value) (σ:St) (c:Code):Q4:=
 match c with
 | .skip=>some (.normal,s,σ,.nil)
 | .label _=>some (.normal,s,σ,.nil)
 | .ret=>some (.ret,s,σ,.nil)
 | .exit id=>some (.exit id,s,σ,.nil)
 | .goto l=>some (.goto l,s,σ,.nil)
 | .region _ ops draw=>kReg P E ih nt ops draw s σ
 | .seq x y=>kSeq ih nt x y s σ
 | .cond cnd x y=>kCond ih nt (av E.G s cnd) x y s σ
 | .block id body=>kBlock ih nt id body s σ
 | .loop body=>kSeq ih nt body (.loop body) s σ
 | .scope body=>ih (some body) nt body s σ
 |_=>none
def kEv1 (P:Program) (E:Env) (ih:IH):IH:=fun sc nt c s σ=>Option.rec (kCode P E ih nt s σ c) (kScope ih nt c s σ) sc
def kEv (P:Program) (E:Env) (n:Nat):IH:=Nat.rec (fun _ _ _ _ _=>none) (fun _ ih=>kEv1 P E ih) n
theorem kEv_eq (P:Program) (E:Env):∀n,kEv P E n=ev P E n
 |0=>by funext sc nt c s σ;simp only[ev];rfl
 |n+1=>by
  have ih:=kEv_eq P E n;funext sc nt c s σ;show kEv1 P E (kEv P E n) sc nt c s σ=_;rw[ih];cases sc with
  |some body=>
   simp only[kEv1,kScope,ev];cases ev P E n none nt c s σ with
   |none=>rfl
   |some y=>
    obtain⟨x,s1,σ1,φ1⟩:=y;cases x<;>first|rfl|skip
    simp only[ob,kScope2,kScope3];rename_i l;cases findLabel body l with
    |none=>rfl
    |some rest=>
     simp only[kAdd,ob];cases ev P E n (some body) nt rest s1 σ1<;>rfl
  |none=>
   have seq:∀c d:Code,kSeq (ev P E n) nt c d s σ=(match ev P E n none nt c s σ with
    |some (e,s1,σ1,φ1)=>match e with
     | .normal=>match ev P E n none nt d s1 σ1 with
       |some (e2,s2,σ2,φ2)=>some (e2,s2,σ2,φ1.add φ2)
       |none=>none
     |e=>some (e,s1,σ1,φ1)
    |none=>none):=fun c d=>by
    simp only[kSeq];cases ev P E n none nt c s σ with
    |none=>rfl
    |some y=>
     obtain⟨x,s1,σ1,φ1⟩:=y;cases x<;>first|rfl|skip
     simp only[ob,kSeq2,kAdd];cases ev P E n none nt d s1 σ1<;>rfl
   cases c with
   |seq c d=>simp only[kEv1,kCode,seq,ev];rfl
   |loop c=>simp only[kEv1,kCode,seq,ev];rfl
   |block id body=>
    simp only[kEv1,kCode,kBlock,ev];cases ev P E n none nt body s σ with
    |none=>rfl
    |some y=>obtain⟨x,s1,σ1,φ1⟩:=y;cases x<;>rfl
   |cond cnd c d=>simp only[kEv1,kCode,kCond,ev];rfl
   |region id ops draw=>
    simp only[kEv1,kCode,kReg];cases draw with
    |false=>
     simp only[ev,kOps_eq,kBy_eq,kRegF];cases evOps P E (callBy E fun nt c s σ=>ev P E n none nt c s σ) nt ops.toList ops.toList s σ<;>rfl
    |true=>
     simp only[ev,kSteps_eq,kBy_eq,kRegT];cases evSteps P E (callBy E fun nt c s σ=>ev P E n none nt c s σ) nt ops.toList ops.toList s σ with
     |none=>rfl
     |some y=>
      simp only[ob];cases(okAll ops ops.toList y.2.2 [] ops.toList y.2.2||drawB P E (callBy E fun nt c s σ=>ev P E n none nt c s σ) nt ops s σ y.1 y.2.1 y.2.2)<;>rfl
   |_=>simp only[kEv1,kCode,ev]
def kRun (P:Program) (E:Env) (n:Nat):CallF:=kBy E (kEv P E n)
theorem kRun_eq (P:Program) (E:Env) (n:Nat):kRun P E n=evCall P E n:=by
 unfold kRun evCall;rw[kBy_eq,kEv_eq]
end Go.Eng
end
end
end
