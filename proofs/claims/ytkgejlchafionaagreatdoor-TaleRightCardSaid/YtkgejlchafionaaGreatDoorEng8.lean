/-
  The engine, part 8: an abstract evaluator over the model's code, proved sound. No condition.
-/
import Derived.Test.YtkgejlchafionaaGreatDoorEng7
open Bool renaming rec->ix
open Go renaming Code->ER,Oper->Az,Operand->Bp,Program->Ao,TypeId->AQ,Value->AJ
open List renaming rec->zt
open Nat renaming ble->B8,blt->Cq
open Option renaming none->AF,rec->M7,some->AC
open _root_ renaming Array->Aa,List->AE,Nat->AB,Option->AP
section
noncomputable section
noncomputable section
namespace Go.Eng
open Go
def ob{α β:Type}(r:AP α)(f:α->AP β):AP β:=M7 AF f r
section
variable (P:Ao) (E:Env) (s:Tr AJ) (σ:St)
def xk(x:Bp):AP OpR:=CF σ (av E.G s x)
def AGz(c a b:Bp):AP OpR:=match av E.G s c with
    |some (.bool true)=>CF σ (av E.G s a)
    |some (.bool false)=>CF σ (av E.G s b)
    |_=>AF
def ACk(a:AQ):AP OpR:=DV (Pf E.T σ a)
def ALM(a:AQ)(x:Bp):AP OpR:=match av E.G s x with
    |some v=>bif RX v then DV (ZC E.T σ a v.cells.toList)else AF
    |none=>AF
def ACl(t:AQ)(a:Aa (AB×Bp)):AP OpR:=match uG E.G s a.toList with
    |some l=>CF σ (XX E.T t l)
    |none=>AF
def aF(t:AQ)(n:AB)(a:Aa (AB×Bp)):AP OpR:=match uG E.G s a.toList with
    |some l=>DV (F2 E.T σ t n l)
    |none=>AF
def AG0(t:AQ)(a:Bp):AP OpR:=match av E.G s a with
    |some v=>DV (Mm E.T σ t v)
    |none=>AF
def ACm(t:AQ)(a x:Bp):AP OpR:=match av E.G s a,av E.G s x with
    |some v,AC u=>DV (Pg E.T σ t v u)
    |_,_=>AF
def ALN(x:Bp):AP OpR:=match av E.G s x with
    |some (.pointer (AC a))=>CF σ (AC (.pointer (AC a)))
    |some (.iface t v)=>CF σ (AC (.iface t v))
    |some (.func (.func f) a b)=>CF σ (AC (.func (.func f) a b))
    |_=>AF
def ALO(op:BinOp)(t:AQ)(x y:Bp):AP OpR:=match av E.G s x,av E.G s y with
    |some a,AC b=>CF σ (uH P E.T op t x y a b)
    |_,_=>AF
def kUn(op:UnOp)(x:Bp):AP OpR:=match av E.G s x with
    |some (.bool b)=>match op with
     | .not=>CF σ (AC (.bool (!b)))
     |_=>AF
    |some v=>CF σ (bif Au 8 v then Tn P (Op.unary op v)else AF)
    |none=>AF
def AG1(src dst:AQ)(x:Bp):AP OpR:=match av E.G s x with
    |some v=>DV (Vy P E.T σ src dst v)
    |none=>AF
def ACn(t:AQ)(x:Bp):AP OpR:=match av E.G s x,E.T.und t with
    |some v,AC d=>match d with
     | .interface _=>AF
     |_=>CF σ (AC (.iface t v))
    |_,_=>AF
def AG2(fn:Fn)(first captured:Aa Bp):AP OpR:=match lV E.G s first.toList,lV E.G s captured.toList with
    |some l,AC m=>CF σ (AC (.func fn l.toArray m.toArray))
    |_,_=>AF
def AG3(t:AQ)(l c:Bp):AP OpR:=match av E.G s l,av E.G s c with
    |some a,AC b=>DV (Gz E.T σ t a b)
    |_,_=>AF
def ACo(t:AQ)(x:Bp)(lo a b:AP Bp):AP OpR:=match av E.G s x,lW E.G s lo,lW E.G s a,lW E.G s b with
    |some v,AC l,AC h,AC m=>DV (Pj E.T σ t v l h m)
    |_,_,_,_=>AF
def eA(t:AQ)(x:Bp)(f:AB):AP OpR:=match av E.G s x with
    |some v=>DV (Gy E.T σ t v f)
    |none=>AF
def ACp(t:AQ)(x:Bp)(f:AB):AP OpR:=match av E.G s x with
    |some v=>CF σ (XS E.T t v f)
    |none=>AF
def eB(t:AQ)(x i:Bp):AP OpR:=match av E.G s x,av E.G s i with
    |some v,AC u=>DV (Dr E.T σ t v u)
    |_,_=>AF
def ACq(t:AQ)(x i:Bp):AP OpR:=match av E.G s x,av E.G s i with
    |some v,AC u=>CF σ (XU E.T t v u)
    |_,_=>AF
def ACr(t:AQ)(x:Bp):AP OpR:=match av E.G s x with
    |some v=>DV (Pn E.T σ t v)
    |none=>AF
def AG4(a:Bp)(isS:Bool):AP OpR:=match av E.G s a with
    |some v=>DV (Vl σ v isS)
    |none=>AF
def ow(x:Bp)(i:AB):AP OpR:=match av E.G s x with
    |some v=>CF σ (N2 v i)
    |none=>AF
def kBI(c:Call)(ty:AQ)(b:Builtin)(args:AE AJ):AP OpR:=DV (JY P E.T σ b c.argTypes ty (c.args.map λ| .const _=>true|_=>false) args)
def oz(v:AP AJ)(args:AE AJ):AP OpR:=match v with
 |some (.func (.func g) first captured)=>match E.fn g with
  |some _=>AC (.enter g (first.toList++args++captured.toList))
  |none=>CF σ (E.ext g (first.toList++args++captured.toList))
 |_=>AF
def gn(c:Call)(ty:AQ)(k:Callee)(args:AE AJ):AP OpR:=match k with
 | .builtin b=>kBI P E σ c ty b args
 | .value f=>oz E σ (av E.G s f) args
 |_=>AF
def xl(c:Call)(ty:AQ):AP OpR:=match lV E.G s c.args.toList with
    |some args=>gn P E s σ c ty c.callee args
    |none=>AF
def kOp(ty:AQ)(op:Op):AP OpR:=
 match op with
 | .move x=>xk E s σ x
 | .assign x=>xk E s σ x
 | .pick c a b=>AGz E s σ c a b
 | .alloc d=>ACk E σ d
 | .box d x=>ALM E s σ d x
 | .build t e=>ACl E s σ t e
 | .buildSlice t n e=>aF E s σ t n e
 | .load t a=>AG0 E s σ t a
 | .store t a x=>ACm E s σ t a x
 | .nilCheck x=>ALN E s σ x
 | .binOp op t x y _=>ALO P E s σ op t x y
 | .unOp op _ x=>kUn P E s σ op x
 | .convert src dst x=>AG1 P E s σ src dst x
 | .makeInterface t x=>ACn E s σ t x
 | .makeFunc fn first captured=>AG2 E s σ fn first captured
 | .makeSlice t l c=>AG3 E s σ t l c
 | .slice t x lo g h=>ACo E s σ t x lo g h
 | .fieldAddr t x f=>eA E s σ t x f
 | .field t x f=>ACp E s σ t x f
 | .indexAddr t x i=>eB E s σ t x i
 | .index t x i=>ACq E s σ t x i
 | .range t x=>ACr E s σ t x
 | .next j isS=>AG4 E s σ j isS
 | .extract x i=>ow E s σ x i
 | .call c=>xl P E s σ c ty
 |_=>AF
end
theorem ACs(P:Ao)(E:Env)(s:Tr AJ)(σ:St)(o:Az):kOp P E s σ o.type o.op=gN P E s σ o:=by
 obtain⟨op,dst,ty,a,after,guard⟩:=o;cases op<;>first|rfl|skip
 all_goals (simp only[kOp,xl,gn,kBI,oz,gN];done)
def ACt(P:Ao)(E:Env)(s:Tr AJ)(σ:St)(o:Az):AP OpR:=M7 (M7 (OD E s σ o) (λr=>AC r) (kOp P E s σ o.type o.op)) (λr=>AC r) (ji E s σ o)
theorem u5(P:Ao)(E:Env)(s:Tr AJ)(σ:St)(o:Az):ACt P E s σ o=K3 P E s σ o:=by
 unfold ACt K3 TR;rw[ACs];cases ji E s σ o<;>cases gN P E s σ o<;>rfl
def u6(nt:AB)(s:Tr AJ)(dst:AP Tmp)(v:AJ)(σ:St)(φ:Foot):AP (Tr AJ×St×Foot):=
 M7 (AC (s,σ,φ)) (λd=>ix AF (AC (s.set d (AC v),σ,φ)) (Cq d nt)) dst
def ACu(call:Eh)(nt:AB)(dst:AP Tmp)(s:Tr AJ)(σ:St)(r:OpR):AP (Tr AJ×St×Foot):=
 OpR.rec (λr=>ob (resolve r.v r.σ) λy=>u6 nt s dst y.1 y.2 r.φ) (λf args=>ob (call f args σ) λx=>ob (resolve x.1 x.2.1) λy=>u6 nt s dst y.1 y.2 x.2.2) r
def kDo(P:Ao)(E:Env)(call:Eh)(nt:AB)(o:Az)(s:Tr AJ)(σ:St):AP (Tr AJ×St×Foot):=
 ob (ACt P E s σ o) (ACu call nt o.dst s σ)
def ANT(P:Ao)(E:Env)(call:Eh)(nt:AB)(ops:AE Az)(o:Az)(s:Tr AJ)(σ:St):AP (Tr AJ×St×Foot):=
 M7 (kDo P E call nt o s σ) (λ_=>HR P E call nt ops o s σ) o.guard
theorem gp(nt:AB)(s:Tr AJ)(dst:AP Tmp)(v:AJ)(σ:St)(φ:Foot):u6 nt s dst v σ φ=(match Nq nt s dst v with|some a=>AC (a,σ,φ)|none=>AF):=by
 cases dst with
 |none=>rfl
 |some d=>simp only[u6,Nq];cases Cq d nt<;>rfl
theorem aG(P:Ao)(E:Env)(call:Eh)(nt:AB)(ops:AE Az)(o:Az)(s:Tr AJ)(σ:St):ANT P E call nt ops o s σ=HR P E call nt ops o s σ:=by
 unfold ANT;cases a:o.guard with
 |some g=>rfl
 |none=>
  simp only[kDo,HR,Ik,a,u5];cases K3 P E s σ o with
  |none=>rfl
  |some r=>
   cases r with
   |val r=>
    simp only[ob,ACu];cases resolve r.v r.σ with
    |none=>rfl
    |some y=>exact gp _ _ _ _ _ _
   |enter f args=>
    simp only[ob,ACu];cases call f args σ with
    |none=>rfl
    |some x=>
     obtain⟨b,c,d⟩:=x;dsimp only;cases resolve b c with
     |none=>rfl
     |some y=>exact gp _ _ _ _ _ _
def o0(φ1:Foot)(r:AP (Tr AJ×St×Foot)):AP (Tr AJ×St×Foot):=ob r λy=>AC (y.1,y.2.1,φ1.add y.2.2)
def ACv(P:Ao)(E:Env)(call:Eh)(nt:AB)(all l:AE Az):Tr AJ->St->AP (Tr AJ×St×Foot):=
 zt (motive:=λ_=>Tr AJ->St->AP (Tr AJ×St×Foot)) (λs σ=>AC (s,σ,.nil)) (λo _ a s σ=>ob (ANT P E call nt all o s σ) λx=>o0 x.2.2 (a x.1 x.2.1)) l
theorem gq(P:Ao)(E:Env)(call:Eh)(nt:AB)(all:AE Az):∀(l:AE Az) (s:Tr AJ) (σ:St),ACv P E call nt all l s σ=LO P E call nt all l s σ
 |[],s,σ=>rfl
 |o::os,s,σ=>by
  show ob (ANT P E call nt all o s σ) (λx=>o0 x.2.2 (ACv P E call nt all os x.1 x.2.1))=_;rw[aG,LO];cases HR P E call nt all o s σ with
  |none=>rfl
  |some x=>
   simp only[ob,o0,gq];cases LO P E call nt all os x.1 x.2.1<;>rfl
def X6(n a:AB)(φ1:Foot)(r:AP (Tr AJ×St×AE Rec)):AP (Tr AJ×St×AE Rec):=ob r λy=>AC (y.1,y.2.1,⟨φ1.trim n,n,a⟩::y.2.2)
def eC(P:Ao)(E:Env)(call:Eh)(nt:AB)(all l:AE Az):Tr AJ->St->AP (Tr AJ×St×AE Rec):=
 zt (motive:=λ_=>Tr AJ->St->AP (Tr AJ×St×AE Rec)) (λs σ=>AC (s,σ,[])) (λo _ a s σ=>ob (ANT P E call nt all o s σ) λx=>X6 σ.next x.2.1.next x.2.2 (a x.1 x.2.1)) l
theorem WG(P:Ao)(E:Env)(call:Eh)(nt:AB)(all:AE Az):∀(l:AE Az) (s:Tr AJ) (σ:St),eC P E call nt all l s σ=Ff P E call nt all l s σ
 |[],s,σ=>rfl
 |o::os,s,σ=>by
  show ob (ANT P E call nt all o s σ) (λx=>X6 σ.next x.2.1.next x.2.2 (eC P E call nt all os x.1 x.2.1))=_;rw[aG,Ff];cases HR P E call nt all o s σ with
  |none=>rfl
  |some x=>
   simp only[ob,X6,WG];cases Ff P E call nt all os x.1 x.2.1<;>rfl
abbrev Q4:Type:=AP (Exit×Tr AJ×St×Foot)
abbrev IH:Type:=AP ER->AB->ER->Tr AJ->St->Q4
def ACw(E:Env)(n:AB)(fn:Func)(a:Tr AJ)(σ':St)(φ:Foot):AP (AJ×St×Foot):=
 ob (Fj E a σ' fn.results.toList) λy=>AC (Er y.1,σ',(φ.add y.2).trim n)
def AG5(E:Env)(n:AB)(fn:Func)(x:Exit)(a:Tr AJ)(σ':St)(φ:Foot):AP (AJ×St×Foot):=
 match x with
 | .normal=>ACw E n fn a σ' φ
 | .ret=>ACw E n fn a σ' φ
 |_=>AF
def xm(E:Env)(a:IH)(fn:Func)(args:AE AJ)(σ:St)(body:ER):AP (AJ×St×Foot):=
 ix AF (ob (a AF fn.ntmps body (F1 0 args .lf) σ) λy=>AG5 E σ.next fn y.1 y.2.1 y.2.2.1 y.2.2.2) (B8 args.length fn.ntmps)
def kBy(E:Env)(a:IH):Eh:=λf args σ=>M7 (M7 (M7 (M7 (ob (E.fn f) λfn=>ob fn.body (xm E a fn args σ)) (λS=>Rn E S args σ) (E.vsp f)) (λS=>Rl E S args σ) (E.osp f)) (λS=>Nw E S args σ) (E.spec f)) (λv=>XM E v σ) (E.sum f args)
theorem eD(E:Env)(a:IH):kBy E a=J2 E λnt c s σ=>a AF nt c s σ:=by
 funext f args σ;simp only[kBy,J2];cases E.sum f args with
 |some v=>rfl
 |none=>
 cases E.spec f with
 |some S=>rfl
 |none=>
 cases E.osp f with
 |some S=>rfl
 |none=>
 cases E.vsp f with
 |some S=>rfl
 |none=>
 cases E.fn f with
 |none=>rfl
 |some fn=>
  simp only[ob];cases fn.body with
  |none=>rfl
  |some body=>
   simp only[xm];cases B8 args.length fn.ntmps
   ·rfl
   ·simp only[cond_true,ob];cases a AF fn.ntmps body (F1 0 args .lf) σ with
    |none=>rfl
    |some y=>
     obtain⟨x,b,σ',φ⟩:=y;cases x<;>simp only[AG5,ACw,ob]<;>first|rfl|(cases Fj E b σ' fn.results.toList<;>rfl)
def u7(φ1:Foot)(r:Q4):Q4:=ob r λy=>AC (y.1,y.2.1,y.2.2.1,φ1.add y.2.2.2)
def gr(c:IH)(body:ER)(nt:AB)(b:Tr AJ)(σ1:St)(φ1:Foot)(l:AB):Q4:=
 match findLabel body l with
 |some a=>u7 φ1 (c (AC body) nt a b σ1)
 |none=>AC (.goto l,b,σ1,φ1)
def gu(b:IH)(body:ER)(nt:AB)(x:Exit)(a:Tr AJ)(σ1:St)(φ1:Foot):Q4:=
 match x with
 | .goto l=>gr b body nt a σ1 φ1 l
 |x=>AC (x,a,σ1,φ1)
def o4(a:IH)(nt:AB)(c:ER)(s:Tr AJ)(σ:St)(body:ER):Q4:=ob (a AF nt c s σ) λy=>gu a body nt y.1 y.2.1 y.2.2.1 y.2.2.2
def xn(b:IH)(nt:AB)(c:ER)(x:Exit)(a:Tr AJ)(σ1:St)(φ1:Foot):Q4:=
 match x with
 | .normal=>u7 φ1 (b AF nt c a σ1)
 |x=>AC (x,a,σ1,φ1)
def u9(a:IH)(nt:AB)(c d:ER)(s:Tr AJ)(σ:St):Q4:=ob (a AF nt c s σ) λy=>xn a nt d y.1 y.2.1 y.2.2.1 y.2.2.2
def vA(id:AB)(x:Exit)(b:Tr AJ)(σ1:St)(φ1:Foot):Q4:=
 match x with
 | .exit a=>bif Nat.beq a id then AC (.normal,b,σ1,φ1)else AC (.exit a,b,σ1,φ1)
 |x=>AC (x,b,σ1,φ1)
def o5(a:IH)(nt id:AB)(c:ER)(s:Tr AJ)(σ:St):Q4:=ob (a AF nt c s σ) λy=>vA id y.1 y.2.1 y.2.2.1 y.2.2.2
def xo(a:IH)(nt:AB)(b:AP AJ)(c d:ER)(s:Tr AJ)(σ:St):Q4:=match b with
 |some (.bool true)=>a AF nt c s σ
 |some (.bool false)=>a AF nt d s σ
 |_=>AF
def xp(r:AP (Tr AJ×St×Foot)):Q4:=ob r λy=>AC (.normal,y.1,y.2.1,y.2.2)
def xq(ops:Aa Az)(r:AP (Tr AJ×St×AE Rec)):Q4:=ob r λy=>ix AF (AC (.normal,y.1,y.2.1,Co y.2.2)) (ANO ops ops.toList y.2.2 [] ops.toList y.2.2)
def AG7(P:Ao)(E:Env)(b:IH)(nt:AB)(ops:Aa Az)(a:Bool)(s:Tr AJ)(σ:St):Q4:=
 ix (xp (ACv P E (kBy E b) nt ops.toList ops.toList s σ)) (xq ops (eC P E (kBy E b) nt ops.toList ops.toList s σ)) a
def Tv(P:Ao)(E:Env)(a:IH)(nt:AB)(s:Tr AJ)(σ:St)(c:ER):Q4:=
 match c with
 | .skip=>AC (.normal,s,σ,.nil)
 | .label _=>AC (.normal,s,σ,.nil)
 | .ret=>AC (.ret,s,σ,.nil)
 | .exit id=>AC (.exit id,s,σ,.nil)
 | .goto l=>AC (.goto l,s,σ,.nil)
 | .region _ ops b=>AG7 P E a nt ops b s σ
 | .seq x y=>u9 a nt x y s σ
 | .cond d x y=>xo a nt (av E.G s d) x y s σ
 | .block id body=>o5 a nt id body s σ
 | .loop body=>u9 a nt body (.loop body) s σ
 | .scope body=>a (AC body) nt body s σ
 |_=>AF
def X7(P:Ao)(E:Env)(a:IH):IH:=λb nt c s σ=>M7 (Tv P E a nt s σ c) (o4 a nt c s σ) b
def kEv(P:Ao)(E:Env)(n:AB):IH:=Nat.rec (λ_ _ _ _ _=>AF) (λ_ a=>X7 P E a) n
theorem o6(P:Ao)(E:Env):∀n,kEv P E n=ev P E n
 |0=>by funext g nt c s σ;simp only[ev];rfl
 |n+1=>by
  have h:=o6 P E n;funext g nt c s σ;show X7 P E (kEv P E n) g nt c s σ=_;rw[h];cases g with
  |some body=>
   simp only[X7,o4,ev];cases ev P E n AF nt c s σ with
   |none=>rfl
   |some y=>
    obtain⟨x,a,σ1,φ1⟩:=y;cases x<;>first|rfl|skip
    simp only[ob,gu,gr];rename_i l;cases findLabel body l with
    |none=>rfl
    |some b=>
     simp only[u7,ob];cases ev P E n (AC body) nt b a σ1<;>rfl
  |none=>
   have seq:∀c d:ER,u9 (ev P E n) nt c d s σ=(match ev P E n AF nt c s σ with
    |some (e,a,σ1,φ1)=>match e with
     | .normal=>match ev P E n AF nt d a σ1 with
       |some (i,j,σ2,φ2)=>AC (i,j,σ2,φ1.add φ2)
       |none=>AF
     |e=>AC (e,a,σ1,φ1)
    |none=>AF):=λc d=>by
    simp only[u9];cases ev P E n AF nt c s σ with
    |none=>rfl
    |some y=>
     obtain⟨x,a,σ1,φ1⟩:=y;cases x<;>first|rfl|skip
     simp only[ob,xn,u7];cases ev P E n AF nt d a σ1<;>rfl
   cases c with
   |seq c d=>simp only[X7,Tv,seq,ev];rfl
   |loop c=>simp only[X7,Tv,seq,ev];rfl
   |block id body=>
    simp only[X7,Tv,o5,ev];cases ev P E n AF nt body s σ with
    |none=>rfl
    |some y=>obtain⟨x,a,σ1,φ1⟩:=y;cases x<;>rfl
   |cond k c d=>simp only[X7,Tv,xo,ev];rfl
   |region id ops f=>
    simp only[X7,Tv,AG7];cases f with
    |false=>
     simp only[ev,gq,eD,xp];cases LO P E (J2 E λnt c s σ=>ev P E n AF nt c s σ) nt ops.toList ops.toList s σ<;>rfl
    |true=>
     simp only[ev,WG,eD,xq];cases Ff P E (J2 E λnt c s σ=>ev P E n AF nt c s σ) nt ops.toList ops.toList s σ with
     |none=>rfl
     |some y=>
      simp only[ob];cases ANO ops ops.toList y.2.2 [] ops.toList y.2.2<;>rfl
   |_=>simp only[X7,Tv,ev]
def vB(P:Ao)(E:Env)(n:AB):Eh:=kBy E (kEv P E n)
theorem vC(P:Ao)(E:Env)(n:AB):vB P E n=Pd P E n:=by
 unfold vB Pd;rw[eD,o6]
