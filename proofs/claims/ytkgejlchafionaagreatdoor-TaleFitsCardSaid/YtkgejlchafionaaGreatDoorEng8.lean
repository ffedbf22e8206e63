/-
  The engine, part 8: an abstract evaluator over the model's code, proved sound. No condition.
-/
import Derived.Test.YtkgejlchafionaaGreatDoorEng7
section
noncomputable section
noncomputable section
namespace Go.Eng
open Go
def ob {α β:Type} (r:Option α) (f:α->Option β):Option β:=Option.rec none f r
section
variable (P:Program) (E:Env) (s:Tr Value) (σ:St)
def mE (x:Operand):Option OpR:=A6 σ (av E.G s x)
def uj (c a b:Operand):Option OpR:=match av E.G s c with
    |some (.bool true)=>A6 σ (av E.G s a)
    |some (.bool false)=>A6 σ (av E.G s b)
    |_=>none
def pU (a:TypeId):Option OpR:=B6 (Kg E.T σ a)
def y3 (a:TypeId) (x:Operand):Option OpR:=match av E.G s x with
    |some v=>bif Lu v then B6 (S6 E.T σ a v.cells.toList) else none
    |none=>none
def pV (t:TypeId) (a:Array (Nat×Operand)):Option OpR:=match avp E.G s a.toList with
    |some l=>A6 σ (RV E.T t l)
    |none=>none
def T7 (t:TypeId) (n:Nat) (a:Array (Nat×Operand)):Option OpR:=match avp E.G s a.toList with
    |some l=>B6 (DL E.T σ t n l)
    |none=>none
def uk (t:TypeId) (a:Operand):Option OpR:=match av E.G s a with
    |some v=>B6 (Ia E.T σ t v)
    |none=>none
def pW (t:TypeId) (a x:Operand):Option OpR:=match av E.G s a,av E.G s x with
    |some v,some u=>B6 (Kh E.T σ t v u)
    |_,_=>none
def y4 (x:Operand):Option OpR:=match av E.G s x with
    |some (.pointer (some a))=>A6 σ (some (.pointer (some a)))
    |some (.iface t v)=>A6 σ (some (.iface t v))
    |some (.func (.func f) a b)=>A6 σ (some (.func (.func f) a b))
    |_=>none
def y5 (op:BinOp) (t:TypeId) (x y:Operand):Option OpR:=match av E.G s x,av E.G s y with
    |some a,some b=>A6 σ (jC P E.T op t x y a b)
    |_,_=>none
def kUn (op:UnOp) (x:Operand):Option OpR:=match av E.G s x with
    |some (.bool b)=>match op with
     | .not=>A6 σ (some (.bool (!b)))
     |_=>none
    |some v=>A6 σ (bif AW 8 v then Ny P (Op.unary op v) else none)
    |none=>none
def ACN (src dst:TypeId) (x:Operand):Option OpR:=match av E.G s x with
    |some v=>B6 (P4 P E.T σ src dst v)
    |none=>none
def pX (t:TypeId) (x:Operand):Option OpR:=match av E.G s x,E.T.und t with
    |some v,some d=>match d with
     | .interface _=>none
     |_=>A6 σ (some (.iface t v))
    |_,_=>none
def um (fn:Fn) (first captured:Array Operand):Option OpR:=match bD E.G s first.toList,bD E.G s captured.toList with
    |some l,some m=>A6 σ (some (.func fn l.toArray m.toArray))
    |_,_=>none
def uo (t:TypeId) (l c:Operand):Option OpR:=match av E.G s l,av E.G s c with
    |some a,some b=>B6 (Dt E.T σ t a b)
    |_,_=>none
def pY (t:TypeId) (x:Operand) (lo a b:Option Operand):Option OpR:=match av E.G s x,bE E.G s lo,bE E.G s a,bE E.G s b with
    |some v,some l,some h,some m=>B6 (Kk E.T σ t v l h m)
    |_,_,_,_=>none
def Wd (t:TypeId) (x:Operand) (f:Nat):Option OpR:=match av E.G s x with
    |some v=>B6 (Ds E.T σ t v f)
    |none=>none
def pZ (t:TypeId) (x:Operand) (f:Nat):Option OpR:=match av E.G s x with
    |some v=>A6 σ (RP E.T t v f)
    |none=>none
def We (t:TypeId) (x i:Operand):Option OpR:=match av E.G s x,av E.G s i with
    |some v,some u=>B6 (CG E.T σ t v u)
    |_,_=>none
def pb (t:TypeId) (x i:Operand):Option OpR:=match av E.G s x,av E.G s i with
    |some v,some u=>A6 σ (RR E.T t v u)
    |_,_=>none
def pd (t:TypeId) (x:Operand):Option OpR:=match av E.G s x with
    |some v=>B6 (Ko E.T σ t v)
    |none=>none
def uq (a:Operand) (isS:Bool):Option OpR:=match av E.G s a with
    |some v=>B6 (Pr σ v isS)
    |none=>none
def eG (x:Operand) (i:Nat):Option OpR:=match av E.G s x with
    |some v=>A6 σ (Jd v i)
    |none=>none
def kBI (c:Call) (ty:TypeId) (b:Builtin) (args:List Value):Option OpR:=B6 (Fj P E.T σ b c.argTypes ty (c.args.map λ| .const _=>true|_=>false) args)
def eH (v:Option Value) (args:List Value):Option OpR:=match v with
 |some (.func (.func g) first captured)=>match E.fn g with
  |some _=>some (.enter g (first.toList++args++captured.toList))
  |none=>A6 σ (E.ext g (first.toList++args++captured.toList))
 |_=>none
def YO (c:Call) (ty:TypeId) (k:Callee) (args:List Value):Option OpR:=match k with
 | .builtin b=>kBI P E σ c ty b args
 | .value f=>eH E σ (av E.G s f) args
 |_=>none
def mF (c:Call) (ty:TypeId):Option OpR:=match bD E.G s c.args.toList with
    |some args=>YO P E s σ c ty c.callee args
    |none=>none
def y6 (ty:TypeId) (op:Op):Option OpR:=
 match op with
 | .move x=>mE E s σ x
 | .assign x=>mE E s σ x
 | .pick c a b=>uj E s σ c a b
 | .alloc d=>pU E σ d
 | .box d x=>y3 E s σ d x
 | .build t e=>pV E s σ t e
 | .buildSlice t n e=>T7 E s σ t n e
 | .load t a=>uk E s σ t a
 | .store t a x=>pW E s σ t a x
 | .nilCheck x=>y4 E s σ x
 | .binOp op t x y _=>y5 P E s σ op t x y
 | .unOp op _ x=>kUn P E s σ op x
 | .convert src dst x=>ACN P E s σ src dst x
 | .makeInterface t x=>pX E s σ t x
 | .makeFunc fn first captured=>um E s σ fn first captured
 | .makeSlice t l c=>uo E s σ t l c
 | .slice t x lo g h=>pY E s σ t x lo g h
 | .fieldAddr t x f=>Wd E s σ t x f
 | .field t x f=>pZ E s σ t x f
 | .indexAddr t x i=>We E s σ t x i
 | .index t x i=>pb E s σ t x i
 | .range t x=>pd E s σ t x
 | .next j isS=>uq E s σ j isS
 | .extract x i=>eG E s σ x i
 | .call c=>mF P E s σ c ty
 |_=>none
end
theorem pe (P:Program) (E:Env) (s:Tr Value) (σ:St) (o:Oper):y6 P E s σ o.type o.op=X9 P E s σ o:=by
 obtain⟨op,dst,ty,a,after,guard⟩:=o;cases op<;>first|rfl|skip
 all_goals (simp only[y6,mF,YO,kBI,eH,X9];done)
def pg (P:Program) (E:Env) (s:Tr Value) (σ:St) (o:Oper):Option OpR:=Option.rec (Option.rec (Jo E s σ o) (λr=>some r) (y6 P E s σ o.type o.op)) (λr=>some r) (ZV E s σ o)
theorem jm (P:Program) (E:Env) (s:Tr Value) (σ:St) (o:Oper):pg P E s σ o=Gw P E s σ o:=by
 unfold pg Gw Na;rw[pe];cases ZV E s σ o<;>cases X9 P E s σ o<;>rfl
def jn (nt:Nat) (s:Tr Value) (dst:Option Tmp) (v:Value) (σ:St) (φ:Foot):Option (Tr Value×St×Foot):=
 Option.rec (some (s,σ,φ)) (λd=>Bool.rec none (some (s.set d (some v),σ,φ)) (Nat.blt d nt)) dst
def ph (call:Cb) (nt:Nat) (dst:Option Tmp) (s:Tr Value) (σ:St) (r:OpR):Option (Tr Value×St×Foot):=
 OpR.rec (λr=>ob (resolve r.v r.σ) λy=>jn nt s dst y.1 y.2 r.φ) (λf args=>ob (call f args σ) λx=>ob (resolve x.1 x.2.1) λy=>jn nt s dst y.1 y.2 x.2.2) r
def kDo (P:Program) (E:Env) (call:Cb) (nt:Nat) (o:Oper) (s:Tr Value) (σ:St):Option (Tr Value×St×Foot):=
 ob (pg P E s σ o) (ph call nt o.dst s σ)
def QK (P:Program) (E:Env) (call:Cb) (nt:Nat) (ops:List Oper) (o:Oper) (s:Tr Value) (σ:St):Option (Tr Value×St×Foot):=
 Option.rec (kDo P E call nt o s σ) (λ_=>D9 P E call nt ops o s σ) o.guard
theorem YP (nt:Nat) (s:Tr Value) (dst:Option Tmp) (v:Value) (σ:St) (φ:Foot):jn nt s dst v σ φ=(match JQ nt s dst v with|some a=>some (a,σ,φ)|none=>none):=by
 cases dst with
 |none=>rfl
 |some d=>simp only[jn,JQ];cases Nat.blt d nt<;>rfl
theorem T8 (P:Program) (E:Env) (call:Cb) (nt:Nat) (ops:List Oper) (o:Oper) (s:Tr Value) (σ:St):QK P E call nt ops o s σ=D9 P E call nt ops o s σ:=by
 unfold QK;cases a:o.guard with
 |some g=>rfl
 |none=>
  simp only[kDo,D9,E4,a,jm];cases Gw P E s σ o with
  |none=>rfl
  |some r=>
   cases r with
   |val r=>
    simp only[ob,ph];cases resolve r.v r.σ with
    |none=>rfl
    |some y=>exact YP _ _ _ _ _ _
   |enter f args=>
    simp only[ob,ph];cases call f args σ with
    |none=>rfl
    |some x=>
     obtain⟨b,c,d⟩:=x;dsimp only;cases resolve b c with
     |none=>rfl
     |some y=>exact YP _ _ _ _ _ _
def eI (φ1:Foot) (r:Option (Tr Value×St×Foot)):Option (Tr Value×St×Foot):=ob r λy=>some (y.1,y.2.1,φ1.add y.2.2)
def ACE (P:Program) (E:Env) (call:Cb) (nt:Nat) (all l:List Oper):Tr Value->St->Option (Tr Value×St×Foot):=
 List.rec (motive:=λ_=>Tr Value->St->Option (Tr Value×St×Foot)) (λs σ=>some (s,σ,.nil)) (λo _ a s σ=>ob (QK P E call nt all o s σ) λx=>eI x.2.2 (a x.1 x.2.1)) l
theorem YQ (P:Program) (E:Env) (call:Cb) (nt:Nat) (all:List Oper):∀(l:List Oper) (s:Tr Value) (σ:St),ACE P E call nt all l s σ=HV P E call nt all l s σ
 |[],s,σ=>rfl
 |o::os,s,σ=>by
  show ob (QK P E call nt all o s σ) (λx=>eI x.2.2 (ACE P E call nt all os x.1 x.2.1))=_;rw[T8,HV];cases D9 P E call nt all o s σ with
  |none=>rfl
  |some x=>
   simp only[ob,eI,YQ];cases HV P E call nt all os x.1 x.2.1<;>rfl
def R1 (n a:Nat) (φ1:Foot) (r:Option (Tr Value×St×List Rec)):Option (Tr Value×St×List Rec):=ob r λy=>some (y.1,y.2.1,⟨φ1.trim n,n,a⟩::y.2.2)
def Wf (P:Program) (E:Env) (call:Cb) (nt:Nat) (all l:List Oper):Tr Value->St->Option (Tr Value×St×List Rec):=
 List.rec (motive:=λ_=>Tr Value->St->Option (Tr Value×St×List Rec)) (λs σ=>some (s,σ,[])) (λo _ a s σ=>ob (QK P E call nt all o s σ) λx=>R1 σ.next x.2.1.next x.2.2 (a x.1 x.2.1)) l
theorem QL (P:Program) (E:Env) (call:Cb) (nt:Nat) (all:List Oper):∀(l:List Oper) (s:Tr Value) (σ:St),Wf P E call nt all l s σ=C7 P E call nt all l s σ
 |[],s,σ=>rfl
 |o::os,s,σ=>by
  show ob (QK P E call nt all o s σ) (λx=>R1 σ.next x.2.1.next x.2.2 (Wf P E call nt all os x.1 x.2.1))=_;rw[T8,C7];cases D9 P E call nt all o s σ with
  |none=>rfl
  |some x=>
   simp only[ob,R1,QL];cases C7 P E call nt all os x.1 x.2.1<;>rfl
abbrev Q4:Type:=Option (Exit×Tr Value×St×Foot)
abbrev IH:Type:=Option Code->Nat->Code->Tr Value->St->Q4
def pj (E:Env) (n:Nat) (fn:Func) (a:Tr Value) (σ':St) (φ:Foot):Option (Value×St×Foot):=
 ob (DZ E a σ' fn.results.toList) λy=>some (De y.1,σ',(φ.add y.2).trim n)
def ur (E:Env) (n:Nat) (fn:Func) (x:Exit) (a:Tr Value) (σ':St) (φ:Foot):Option (Value×St×Foot):=
 match x with
 | .normal=>pj E n fn a σ' φ
 | .ret=>pj E n fn a σ' φ
 |_=>none
def mG (E:Env) (a:IH) (fn:Func) (args:List Value) (σ:St) (body:Code):Option (Value×St×Foot):=
 Bool.rec none (ob (a none fn.ntmps body (ES 0 args .lf) σ) λy=>ur E σ.next fn y.1 y.2.1 y.2.2.1 y.2.2.2) (Nat.ble args.length fn.ntmps)
def kBy (E:Env) (a:IH):Cb:=λf args σ=>Option.rec (Option.rec (Option.rec (Option.rec (ob (E.fn f) λfn=>ob fn.body (mG E a fn args σ)) (λS=>MG E S args σ) (E.vsp f)) (λS=>ME E S args σ) (E.osp f)) (λS=>JW E S args σ) (E.spec f)) (λv=>RI E v σ) (E.sum f args)
theorem Wg (E:Env) (a:IH):kBy E a=F9 E λnt c s σ=>a none nt c s σ:=by
 funext f args σ;simp only[kBy,F9];cases E.sum f args with
 |some v=>rfl
 |none=>
 cases E.spec f with
 |some S=>rfl
 |none=>
 cases E.osp f with
 |some S=>rfl
 |none=>
 cases E.vsp f with
 |some S=>rfl
 |none=>
 cases E.fn f with
 |none=>rfl
 |some fn=>
  simp only[ob];cases fn.body with
  |none=>rfl
  |some body=>
   simp only[mG];cases Nat.ble args.length fn.ntmps
   ·rfl
   ·simp only[cond_true,ob];cases a none fn.ntmps body (ES 0 args .lf) σ with
    |none=>rfl
    |some y=>
     obtain⟨x,b,σ',φ⟩:=y;cases x<;>simp only[ur,pj,ob]<;>first|rfl|(cases DZ E b σ' fn.results.toList<;>rfl)
def jo (φ1:Foot) (r:Q4):Q4:=ob r λy=>some (y.1,y.2.1,y.2.2.1,φ1.add y.2.2.2)
def YR (c:IH) (body:Code) (nt:Nat) (b:Tr Value) (σ1:St) (φ1:Foot) (l:Nat):Q4:=
 match findLabel body l with
 |some a=>jo φ1 (c (some body) nt a b σ1)
 |none=>some (.goto l,b,σ1,φ1)
def YS (b:IH) (body:Code) (nt:Nat) (x:Exit) (a:Tr Value) (σ1:St) (φ1:Foot):Q4:=
 match x with
 | .goto l=>YR b body nt a σ1 φ1 l
 |x=>some (x,a,σ1,φ1)
def eJ (a:IH) (nt:Nat) (c:Code) (s:Tr Value) (σ:St) (body:Code):Q4:=ob (a none nt c s σ) λy=>YS a body nt y.1 y.2.1 y.2.2.1 y.2.2.2
def mH (b:IH) (nt:Nat) (c:Code) (x:Exit) (a:Tr Value) (σ1:St) (φ1:Foot):Q4:=
 match x with
 | .normal=>jo φ1 (b none nt c a σ1)
 |x=>some (x,a,σ1,φ1)
def ABp (a:IH) (nt:Nat) (c d:Code) (s:Tr Value) (σ:St):Q4:=ob (a none nt c s σ) λy=>mH a nt d y.1 y.2.1 y.2.2.1 y.2.2.2
def jq (id:Nat) (x:Exit) (b:Tr Value) (σ1:St) (φ1:Foot):Q4:=
 match x with
 | .exit a=>bif Nat.beq a id then some (.normal,b,σ1,φ1) else some (.exit a,b,σ1,φ1)
 |x=>some (x,b,σ1,φ1)
def ABa (a:IH) (nt id:Nat) (c:Code) (s:Tr Value) (σ:St):Q4:=ob (a none nt c s σ) λy=>jq id y.1 y.2.1 y.2.2.1 y.2.2.2
def mI (a:IH) (nt:Nat) (b:Option Value) (c d:Code) (s:Tr Value) (σ:St):Q4:=match b with
 |some (.bool true)=>a none nt c s σ
 |some (.bool false)=>a none nt d s σ
 |_=>none
def mJ (r:Option (Tr Value×St×Foot)):Q4:=ob r λy=>some (.normal,y.1,y.2.1,y.2.2)
def mK (ops:Array Oper) (r:Option (Tr Value×St×List Rec)):Q4:=ob r λy=>Bool.rec none (some (.normal,y.1,y.2.1,BP y.2.2)) (HZ ops ops.toList y.2.2 [] ops.toList y.2.2)
def uu (P:Program) (E:Env) (b:IH) (nt:Nat) (ops:Array Oper) (a:Bool) (s:Tr Value) (σ:St):Q4:=
 Bool.rec (mJ (ACE P E (kBy E b) nt ops.toList ops.toList s σ)) (mK ops (Wf P E (kBy E b) nt ops.toList ops.toList s σ)) a
def N7 (P:Program) (E:Env) (a:IH) (nt:Nat) (s:Tr Value) (σ:St) (c:Code):Q4:=
 match c with
 | .skip=>some (.normal,s,σ,.nil)
 | .label _=>some (.normal,s,σ,.nil)
 | .ret=>some (.ret,s,σ,.nil)
 | .exit id=>some (.exit id,s,σ,.nil)
 | .goto l=>some (.goto l,s,σ,.nil)
 | .region _ ops b=>uu P E a nt ops b s σ
 | .seq x y=>ABp a nt x y s σ
 | .cond d x y=>mI a nt (av E.G s d) x y s σ
 | .block id body=>ABa a nt id body s σ
 | .loop body=>ABp a nt body (.loop body) s σ
 | .scope body=>a (some body) nt body s σ
 |_=>none
def R2 (P:Program) (E:Env) (a:IH):IH:=λb nt c s σ=>Option.rec (N7 P E a nt s σ c) (eJ a nt c s σ) b
def y7 (P:Program) (E:Env) (n:Nat):IH:=Nat.rec (λ_ _ _ _ _=>none) (λ_ a=>R2 P E a) n
theorem eL (P:Program) (E:Env):∀n,y7 P E n=ev P E n
 |0=>by funext g nt c s σ;simp only[ev];rfl
 |n+1=>by
  have h:=eL P E n;funext g nt c s σ;show R2 P E (y7 P E n) g nt c s σ=_;rw[h];cases g with
  |some body=>
   simp only[R2,eJ,ev];cases ev P E n none nt c s σ with
   |none=>rfl
   |some y=>
    obtain⟨x,a,σ1,φ1⟩:=y;cases x<;>first|rfl|skip
    simp only[ob,YS,YR];rename_i l;cases findLabel body l with
    |none=>rfl
    |some b=>
     simp only[jo,ob];cases ev P E n (some body) nt b a σ1<;>rfl
  |none=>
   have seq:∀c d:Code,ABp (ev P E n) nt c d s σ=(match ev P E n none nt c s σ with
    |some (e,a,σ1,φ1)=>match e with
     | .normal=>match ev P E n none nt d a σ1 with
       |some (i,j,σ2,φ2)=>some (i,j,σ2,φ1.add φ2)
       |none=>none
     |e=>some (e,a,σ1,φ1)
    |none=>none):=λc d=>by
    simp only[ABp];cases ev P E n none nt c s σ with
    |none=>rfl
    |some y=>
     obtain⟨x,a,σ1,φ1⟩:=y;cases x<;>first|rfl|skip
     simp only[ob,mH,jo];cases ev P E n none nt d a σ1<;>rfl
   cases c with
   |seq c d=>simp only[R2,N7,seq,ev];rfl
   |loop c=>simp only[R2,N7,seq,ev];rfl
   |block id body=>
    simp only[R2,N7,ABa,ev];cases ev P E n none nt body s σ with
    |none=>rfl
    |some y=>obtain⟨x,a,σ1,φ1⟩:=y;cases x<;>rfl
   |cond k c d=>simp only[R2,N7,mI,ev];rfl
   |region id ops f=>
    simp only[R2,N7,uu];cases f with
    |false=>
     simp only[ev,YQ,Wg,mJ];cases HV P E (F9 E λnt c s σ=>ev P E n none nt c s σ) nt ops.toList ops.toList s σ<;>rfl
    |true=>
     simp only[ev,QL,Wg,mK];cases C7 P E (F9 E λnt c s σ=>ev P E n none nt c s σ) nt ops.toList ops.toList s σ with
     |none=>rfl
     |some y=>
      simp only[ob];cases HZ ops ops.toList y.2.2 [] ops.toList y.2.2<;>rfl
   |_=>simp only[R2,N7,ev]
def jr (P:Program) (E:Env) (n:Nat):Cb:=kBy E (y7 P E n)
theorem js (P:Program) (E:Env) (n:Nat):jr P E n=Ke P E n:=by
 unfold jr Ke;rw[Wg,eL]
