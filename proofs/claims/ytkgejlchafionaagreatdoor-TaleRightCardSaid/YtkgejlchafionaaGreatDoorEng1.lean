/-
  The engine, part 1: an abstract evaluator over the model's code, proved sound. No condition.
-/
import Derived.Orders
import Derived.KernelRfl
import Derived.Laws.Sem
import Derived.Laws.Cells
open Array renaming ext_getElem?->PH,getElem?_eq_getElem->CX,getElem?_eq_none->Jt,getElem?_push->RM,getElem?_setIfInBounds->Uv,getElem?_setIfInBounds_ne->FG,mem_toList_iff->z6
open Bool renaming and_eq_true->A0,false->AK,false_eq_true->CI,true->AD
open Go renaming Program->Ao,TypeId->AQ,Value->AJ,World->AN,storeCells->Mv
open Go.World renaming cell?->C0
open List renaming all_eq_true->C8,length_cons->B7,mem_append->CH
open Nat renaming beq->Af,div->EU,le_refl->Ak,le_trans->Ea,lt_of_lt_of_le->Wf,lt_or_ge->Cf,mod->EH,mul_mod_right->sL,rec->Jx,succ->z7
open Ne renaming symm->ES
open Option renaming isSome_none->Df,none->AF,some->AC
open _root_ renaming Array->Aa,Bool->AH,ByteArray->Cg,List->AE,Nat->AB,Option->AP,absurd->Aq,if_false->BR,if_neg->AY,if_pos->Ae,rfl->AL
class QA{α:Type}(b:α)(a:outParam α):Prop where
  h:b=a
instance{α:Type}(b:α):QA b b:=⟨rfl⟩
abbrev L8:=AE UInt8
section
noncomputable section
namespace Go.Eng
open Go
inductive Tr(α:Type) where
 |lf:Tr α
 |nd:AP α->Tr α->Tr α->Tr α
def Tr.get{α:Type}(t:Tr α):AB->AP α:=
 Tr.rec (motive:=λ_=>AB->AP α) (λ_=>AF) (λv _ _ gl a k=>Jx v (λm _=>Jx (gl (EU m 2)) (λ_ _=>a (EU m 2)) (EH m 2)) k) t
def Tr.single{α:Type}(x:AP α):AB->AB->Tr α:=
 λn=>Jx (motive:=λ_=>AB->Tr α) (λ_=>.lf) (λ_ a k=>Jx (.nd x .lf .lf) (λm _=>Jx (.nd AF (a (EU m 2)) .lf) (λ_ _=>.nd AF .lf (a (EU m 2))) (EH m 2)) k) n
def Tr.set{α:Type}(t:Tr α)(k:AB)(x:AP α):Tr α:=
 Tr.rec (motive:=λ_=>AB->Tr α) (λk=>Tr.single x (z7 k) k) (λv l r a b k=>Jx (.nd x l r) (λm _=>Jx (.nd v (a (EU m 2)) r) (λ_ _=>.nd v l (b (EU m 2))) (EH m 2)) k) t k
theorem Ei{a b:AB}(h:a=b):Af a b=true:=by subst h;simp
theorem aP{a b:AB}(h:a≠b):Af a b=false:=by
 cases c:Af a b
 ·rfl
 ·exact Aq (Nat.eq_of_beq_eq_true c) h
theorem Tr.get_lf{α:Type}(k:AB):(Tr.lf:Tr α).get k=none:=AL
theorem Tr.get_0{α:Type}(v:AP α)(l r:Tr α):(Tr.nd v l r).get 0=v:=AL
theorem ALY(m:AB):(∃q,m=2*q/\EH m 2=0/\EU m 2=q)\/∃q,m=2*q+1/\EH m 2=1/\EU m 2=q:=by
 rcases Nat.mod_two_eq_zero_or_one m with h|h
 ·exact .inl ⟨m/2,by omega,h,rfl⟩
 ·exact .inr ⟨m/2,by omega,h,rfl⟩
theorem Tr.get_l{α:Type}(v:AP α)(l r:Tr α)(q:AB):(Tr.nd v l r).get (2*q+1)=l.get q:=by
 show(Jx (l.get (EU (2*q) 2)) (λ_ _=>r.get (EU (2*q) 2)) (EH (2*q) 2):AP α)=_;rw[show EH (2*q) 2=0 from sL 2 q,show EU (2*q) 2=q by show 2*q/2=q;omega];rfl
theorem Tr.get_r{α:Type}(v:AP α)(l r:Tr α)(q:AB):(Tr.nd v l r).get (2*q+2)=r.get q:=by
 show(Jx (l.get (EU (2*q+1) 2)) (λ_ _=>r.get (EU (2*q+1) 2)) (EH (2*q+1) 2):AP α)=_;rw[show EH (2*q+1) 2=1 by show(2*q+1)%2=1;omega,show EU (2*q+1) 2=q by show(2*q+1)/2=q;omega];rfl
theorem Tr.case(k:AB):k=0\/(∃q,k=2*q+1/\q<k)\/∃q,k=2*q+2/\q<k:=by
 rcases k with _|m
 ·exact .inl rfl
 ·rcases ALY m with⟨q,h,_⟩|⟨q,h,_⟩
  ·exact .inr (.inl ⟨q,by omega,by omega⟩)
  ·exact .inr (.inr ⟨q,by omega,by omega⟩)
theorem Tr.single_0{α:Type}(x:AP α)(n:AB):Tr.single x (n+1) 0=.nd x .lf .lf:=AL
theorem Tr.single_l{α:Type}(x:AP α)(n q:AB):Tr.single x (n+1) (2*q+1)=.nd AF (Tr.single x n q) .lf:=by
 show(Jx (.nd AF (Tr.single x n (EU (2*q) 2)) .lf) (λ_ _=>.nd AF .lf (Tr.single x n (EU (2*q) 2))) (EH (2*q) 2):Tr α)=_;rw[show EH (2*q) 2=0 from sL 2 q,show EU (2*q) 2=q by show 2*q/2=q;omega];rfl
theorem Tr.single_r{α:Type}(x:AP α)(n q:AB):Tr.single x (n+1) (2*q+2)=.nd AF .lf (Tr.single x n q):=by
 show(Jx (.nd AF (Tr.single x n (EU (2*q+1) 2)) .lf) (λ_ _=>.nd AF .lf (Tr.single x n (EU (2*q+1) 2))) (EH (2*q+1) 2):Tr α)=_;rw[show EH (2*q+1) 2=1 by show(2*q+1)%2=1;omega,show EU (2*q+1) 2=q by show(2*q+1)/2=q;omega];rfl
theorem Tr.single_get{α:Type}(x:AP α):∀(n k j:AB),k<n->(Tr.single x n k).get j=if j=k then x else AF
 |0,_,_,h=>by omega
 |n+1,k,j,h=>by
  rcases Tr.case k with rfl|⟨q,rfl,a⟩|⟨q,rfl,a⟩
  ·rw[Tr.single_0];rcases Tr.case j with rfl|⟨p,rfl,_⟩|⟨p,rfl,_⟩
   ·rfl
   ·rw[Tr.get_l,Tr.get_lf,AY (by omega)]
   ·rw[Tr.get_r,Tr.get_lf,AY (by omega)]
  ·rw[Tr.single_l];rcases Tr.case j with rfl|⟨p,rfl,_⟩|⟨p,rfl,_⟩
   ·rw[Tr.get_0,AY (by omega)]
   ·rw[Tr.get_l,Tr.single_get x n q p (by omega)];by_cases e:p=q
    ·rw[Ae e,Ae (by omega)]
    ·rw[AY e,AY (by omega)]
   ·rw[Tr.get_r,Tr.get_lf,AY (by omega)]
  ·rw[Tr.single_r];rcases Tr.case j with rfl|⟨p,rfl,_⟩|⟨p,rfl,_⟩
   ·rw[Tr.get_0,AY (by omega)]
   ·rw[Tr.get_l,Tr.get_lf,AY (by omega)]
   ·rw[Tr.get_r,Tr.single_get x n q p (by omega)];by_cases e:p=q
    ·rw[Ae e,Ae (by omega)]
    ·rw[AY e,AY (by omega)]
theorem Tr.set_0{α:Type}(v:AP α)(l r:Tr α)(x:AP α):(Tr.nd v l r).set 0 x=.nd x l r:=AL
theorem Tr.set_l{α:Type}(v:AP α)(l r:Tr α)(x:AP α)(q:AB):(Tr.nd v l r).set (2*q+1) x=.nd v (l.set q x) r:=by
 show(Jx (.nd v (l.set (EU (2*q) 2) x) r) (λ_ _=>.nd v l (r.set (EU (2*q) 2) x)) (EH (2*q) 2):Tr α)=_;rw[show EH (2*q) 2=0 from sL 2 q,show EU (2*q) 2=q by show 2*q/2=q;omega];rfl
theorem Tr.set_r{α:Type}(v:AP α)(l r:Tr α)(x:AP α)(q:AB):(Tr.nd v l r).set (2*q+2) x=.nd v l (r.set q x):=by
 show(Jx (.nd v (l.set (EU (2*q+1) 2) x) r) (λ_ _=>.nd v l (r.set (EU (2*q+1) 2) x)) (EH (2*q+1) 2):Tr α)=_;rw[show EH (2*q+1) 2=1 by show(2*q+1)%2=1;omega,show EU (2*q+1) 2=q by show(2*q+1)/2=q;omega];rfl
theorem Tr.set_get{α:Type}(t:Tr α):∀(k j:AB) (x:AP α),(t.set k x).get j=if j=k then x else t.get j:=by
 induction t with
 |lf=>
  intro k j x;show(Tr.single x (z7 k) k).get j=_;rw[Tr.single_get x _ _ _ (Nat.lt_succ_self k),Tr.get_lf]
 |nd v l r a b=>
  intro k j x;rcases Tr.case k with rfl|⟨q,rfl,_⟩|⟨q,rfl,_⟩
  ·rw[Tr.set_0];rcases Tr.case j with rfl|⟨p,rfl,_⟩|⟨p,rfl,_⟩
   ·rfl
   ·rw[Tr.get_l,Tr.get_l,AY (by omega)]
   ·rw[Tr.get_r,Tr.get_r,AY (by omega)]
  ·rw[Tr.set_l];rcases Tr.case j with rfl|⟨p,rfl,_⟩|⟨p,rfl,_⟩
   ·rw[Tr.get_0,Tr.get_0,AY (by omega)]
   ·rw[Tr.get_l,Tr.get_l,a];by_cases e:p=q
    ·rw[Ae e,Ae (by omega)]
    ·rw[AY e,AY (by omega)]
   ·rw[Tr.get_r,Tr.get_r,AY (by omega)]
  ·rw[Tr.set_r];rcases Tr.case j with rfl|⟨p,rfl,_⟩|⟨p,rfl,_⟩
   ·rw[Tr.get_0,Tr.get_0,AY (by omega)]
   ·rw[Tr.get_l,Tr.get_l,AY (by omega)]
   ·rw[Tr.get_r,Tr.get_r,b];by_cases e:p=q
    ·rw[Ae e,Ae (by omega)]
    ·rw[AY e,AY (by omega)]
inductive Ty where
 |int (k:IntKind)
 |byte
 |bool
 |str
 |unit
 |pair (a b:Ty)
 |slice (a:Ty)
 |err
 |fn (f:AB)
 |fv
 |f64
 |cx
 |ref (a:Ty)
 |clo (f:AB) (a:Ty)
 deriving DecidableEq
@[reducible] def Ty.Den:Ty->Type
 | .int _=>Int
 | .byte=>UInt8
 | .bool=>AH
 | .str=>L8
 | .unit=>Unit
 | .pair a b=>a.Den×b.Den
 | .slice a=>AE a.Den
 | .err=>AH
 | .fn _=>Unit
 | .fv=>AB
 | .f64=>AB
 | .cx=>AB×AB
 | .ref a=>a.Den
 | .clo _ a=>a.Den
def Ty.sz:Ty->AB
 | .unit=>0
 | .pair a b=>a.sz+b.sz
 |_=>1
def bs(l:L8):Cg:=⟨⟨l⟩⟩
def pT(b:AH):AJ->AH
 | .nilIface=>b
 | .iface _ _=> !b
 |_=>AK
def Cw(fz:AB->AP (Aa AJ)):(t:Ty)->t.Den->AE AJ->Prop
 | .int k,n,d=>d=[.int k n]
 | .byte,b,d=>d=[.int .u8 b.toNat]
 | .bool,b,d=>d=[.bool b]
 | .str,s,d=>d=[.string (bs s)]
 | .unit,_,d=>d=[]
 | .pair a b,x,d=>∃c1 c2,d=c1++c2/\Cw fz a x.1 c1/\Cw fz b x.2 c2
 | .slice a,g,d=>(∃sv,d=[sv]/\(((∃q c,sv=.slice q 0 c)/\g=[])\/∃(b o c:AB) (e:Aa AJ),sv=.slice (AC ⟨b,o,AF⟩) g.length c/\fz b=AC e/\o+g.length*a.sz<=e.size/\g.length<=c/\
  ∀i x,g[i]?=AC x->Cw fz a x ((e.toList.drop (o+i*a.sz)).take a.sz)))
 | .err,b,d=>∃v,d=[v]/\pT b v=AD
 | .fn f,_,d=>d=[.func (.func f) #[] #[]]
 | .fv,f,d=>d=[.func (.func f) #[] #[]]
 | .f64,n,d=>d=[.float .f64 n]
 | .cx,x,d=>d=[.complex .f64 x.1 x.2]
 | .ref a,x,d=>∃(b o:AB) (e:Aa AJ),d=[.pointer (AC ⟨b,o,AF⟩)]/\fz b=AC e/\o+a.sz<=e.size/\Cw fz a x ((e.toList.drop o).take a.sz)
 | .clo f a,x,d=>∃us:AE AJ,d=[.func (.func f) #[] us.toArray]/\Cw fz a x us
def sd(fz:AB->AP (Aa AJ))(t:Ty)(d:AE t.Den)(sv:AJ):Prop:=
 ((∃q c,sv=.slice q 0 c)/\d=[])\/∃(b o c:AB) (a:Aa AJ),sv=.slice (AC ⟨b,o,AF⟩) d.length c/\fz b=AC a/\o+d.length*t.sz<=a.size/\d.length<=c/\
    ∀i x,d[i]?=AC x->Cw fz t x ((a.toList.drop (o+i*t.sz)).take t.sz)
def Et(fz:AB->AP (Aa AJ))(t:Ty)(b:AE t.Den)(a:AE AJ):Prop:=
 ∀i x,b[i]?=AC x->i*t.sz+t.sz<=a.length/\Cw fz t x ((a.drop (i*t.sz)).take t.sz)
@[reducible] def AM:AE Ty->Type
 |[]=>Unit
 |t::ts=>t.Den×AM ts
structure PSpec where
 ts:AE Ty
 rs:AE Ty
 pre:AM ts->AH
 g:AM ts->AM rs
def Ty.agg:Ty->AH
 | .unit=>AD
 | .pair _ _=>AD
 |_=>AK
def xz(fz:AB->AP (Aa AJ))(t:Ty)(x:t.Den)(v:AJ):Prop:=(t.agg=AD/\∃a,v=.agg a/\Cw fz t x a.toList)\/(t.agg=AK/\Cw fz t x [v])
def CN(fz:AB->AP (Aa AJ)):(ts:AE Ty)->AM ts->AE AJ->Prop
 |[],_,vs=>vs=[]
 |t::ts,x,vs=>∃v r,vs=v::r/\xz fz t x.1 v/\CN fz ts x.2 r
def Er:AE AJ->AJ
 |[v]=>v
 |vs=>.tuple vs.toArray
theorem Cw.mono{fz j:AB->AP (Aa AJ)}(h:∀b c,fz b=AC c->j b=AC c):∀(t:Ty) (x:t.Den) (g:AE AJ),Cw fz t x g->Cw j t x g:=by
 intro t
 induction t with
 |pair a b n p=>
  intro x g d;simp only[Cw]at d⊢;obtain⟨c1,c2,rfl,h1,h2⟩:=d;exact⟨c1,c2,rfl,n _ _ h1,p _ _ h2⟩
 |slice a k=>
  intro x g d;simp only[Cw]at d⊢;obtain⟨sv,rfl,d⟩:=d;refine⟨sv,rfl,d.imp_right ?_⟩;rintro⟨b,o,c,e,l,m,q,r,s⟩;exact⟨b,o,c,e,l,h b e m,q,r,λi x u=>k _ _ (s i x u)⟩
 |ref a k=>
  intro x g d;simp only[Cw]at d⊢;obtain⟨b,o,e,l,m,q,r⟩:=d;exact⟨b,o,e,l,h b e m,q,k _ _ r⟩
 |clo f a k=>
  intro x g d;simp only[Cw]at d⊢;obtain⟨us,l,m⟩:=d;exact⟨us,l,k _ _ m⟩
 |_=>intro x g d;exact d
theorem sd.mono{fz a:AB->AP (Aa AJ)}(h:∀b c,fz b=AC c->a b=AC c){t:Ty}{e:AE t.Den}{u:AJ}(f:sd fz t e u):sd a t e u:=by
 refine f.imp_right ?_;rintro⟨b,o,c,d,g,j,k,l,m⟩;exact⟨b,o,c,d,g,h b d j,k,l,λi x n=>Cw.mono h _ _ _ (m i x n)⟩
theorem xz.mono{fz d:AB->AP (Aa AJ)}(h:∀b c,fz b=AC c->d b=AC c){t:Ty}{x:t.Den}{v:AJ}(f:xz fz t x v):xz d t x v:=
 f.imp (λ⟨a,g,e,r⟩=>⟨a,g,e,Cw.mono h _ _ _ r⟩) λ⟨a,r⟩=>⟨a,Cw.mono h _ _ _ r⟩
theorem CN.mono{fz a:AB->AP (Aa AJ)}(h:∀b c,fz b=AC c->a b=AC c):∀{ts:AE Ty} {x:AM ts} {vs:AE AJ},CN fz ts x vs->CN a ts x vs
 |[],_,_,d=>d
 |_::_,_,_,⟨v,r,e,h1,h2⟩=>⟨v,r,e,h1.mono h,CN.mono h h2⟩
structure Reg where
 blk:AB
 base:AB
 room:AB
 esz:AB
 own:AH
 fz:AB->AP (Aa AJ)
 sv:AJ
def rg(blk base room esz:AB):Reg:=⟨blk,base,room,esz,AD,λ_=>AF,.nilIface⟩
@[simp] theorem ALZ (a b c d:AB):(rg a b c d).blk=a:=AL
@[simp] theorem AKB (a b c d:AB):(rg a b c d).base=b:=AL
@[simp] theorem AKC (a b c d:AB):(rg a b c d).room=c:=AL
@[simp] theorem ALa (a b c d:AB):(rg a b c d).esz=d:=AL
@[simp] theorem ALb (a b c d:AB):(rg a b c d).own=true:=AL
def Reg.Own(r:Reg)(b:AB):Prop:=r.own=AD/\r.blk=b
def Reg.Fz(r:Reg)(b:AB):Prop:=∃c,r.fz b=AC c
def IX:AB:=9223372036854775808
def junk:AJ:=.chan (AC 0)
@[reducible] def sy (v:AJ):AJ:=.tuple #[.chan (AC 1),v]
@[reducible] def dt (id:AB):AJ:=.tuple #[.chan (AC 2),.pointer (AC ⟨id,0,AF⟩)]
@[reducible] def er (b:AH):AJ:=.tuple #[.chan (AC 3),.bool b]
@[reducible] def ai (k:IntKind):AJ:=.tuple #[.chan (AC 4),.int k 0]
@[reducible] def pf (id m:AB):AJ:=.tuple #[.chan (AC 5),.slice (AC ⟨id,0,AF⟩) m 0]
def Mi:AJ->AH
 | .bool _| .int .. | .string _| .float .. | .complex .. =>AD
 |_=>AK
inductive VR(D:AB->Prop)(ι:AB->Reg):AJ->AJ->Prop where
 |junk (v'):VR D ι junk v'
 |sym (v) (h:Mi v=AD):VR D ι (sy v) v
 |err (b v) (h:pT b v=AD):VR D ι (er b) v
 |aint (k n):VR D ι (ai k) (.int k n)
 |dat (id a l c) (h:D id) (e:(ι id).sv=.slice a l c):VR D ι (dt id) (.slice a l c)
 |pfx (id m a l c) (h:D id) (e:(ι id).sv=.slice a l c) (h1:m<=l):VR D ι (pf id m) (.slice a m c)
 |pel (id i j b o l c) (h:D id) (e:(ι id).sv=.slice (AC ⟨b,o,AF⟩) l c):VR D ι (.pointer (AC ⟨id,i,AC j⟩)) (.pointer (AC ⟨b,o+i*(ι id).esz+j,AF⟩))
 |bool (b):VR D ι (.bool b) (.bool b)
 |int (k n):VR D ι (.int k n) (.int k n)
 |float (k n):VR D ι (.float k n) (.float k n)
 |complex (k a b):VR D ι (.complex k a b) (.complex k a b)
 |string (s):VR D ι (.string s) (.string s)
 |ptrN:VR D ι (.pointer AF) (.pointer AF)
 |ptr (id off) (h:D id):VR D ι (.pointer (AC ⟨id,off,AF⟩)) (.pointer (AC ⟨(ι id).blk,(ι id).base+off,AF⟩))
 |slN (l c):VR D ι (.slice AF l c) (.slice AF l c)
 |slK (id off l c) (h:D id) (hc:c≠IX):VR D ι (.slice (AC ⟨id,off,AF⟩) l c) (.slice (AC ⟨(ι id).blk,(ι id).base+off,AF⟩) l c)
 |slU (id off l c) (h:D id) (h1:l<=c) (h2:off+c*(ι id).esz<=(ι id).room):VR D ι (.slice (AC ⟨id,off,AF⟩) l IX) (.slice (AC ⟨(ι id).blk,(ι id).base+off,AF⟩) l c)
 |slE (id off o' c) (h:D id) (h1:off<=(ι id).room) (h2:c=0\/(o'=off/\off+c*(ι id).esz<=(ι id).room)):VR D ι (.slice (AC ⟨id,off,AC 0⟩) 0 IX) (.slice (AC ⟨(ι id).blk,(ι id).base+o',AF⟩) 0 c)
 |mapN:VR D ι (.map AF) (.map AF)
 |chanN:VR D ι (.chan AF) (.chan AF)
 |nilFunc:VR D ι .nilFunc .nilFunc
 |nilIface:VR D ι .nilIface .nilIface
 |iface (t v v') (h:VR D ι v v'):VR D ι (.iface t v) (.iface t v')
 |agg (as bs:Aa AJ) (hs:as.size=bs.size) (h:∀(i:AB) v v',as[i]?=AC v->bs[i]?=AC v'->VR D ι v v'):VR D ι (.agg as) (.agg bs)
 |tuple (as bs:Aa AJ) (hs:as.size=bs.size) (h:∀(i:AB) v v',as[i]?=AC v->bs[i]?=AC v'->VR D ι v v'):VR D ι (.tuple as) (.tuple bs)
 |func (fn) (as bs cs ds:Aa AJ) (hs:as.size=bs.size) (hs':cs.size=ds.size) (h:∀(i:AB) v v',as[i]?=AC v->bs[i]?=AC v'->VR D ι v v')
  (h':∀(i:AB) v v',cs[i]?=AC v->ds[i]?=AC v'->VR D ι v v'):VR D ι (.func fn as cs) (.func fn bs ds)
def AR(D:AB->Prop)(ι:AB->Reg)(as bs:Aa AJ):Prop:=
 as.size=bs.size/\∀(i:AB) v v',as[i]?=AC v->bs[i]?=AC v'->VR D ι v v'
theorem VR.mono{D D':AB->Prop}{ι ι':AB->Reg}{v v':AJ}(h:VR D ι v v')(d:∀id,D id->D' id)(f:∀id,D id->ι' id=ι id):VR D' ι' v v':=by
 induction h with
 |junk v=>exact .junk v
 |sym v h=>exact .sym v h
 |err b v h=>exact .err b v h
 |aint k n=>exact .aint k n
 |dat id a l c h e=>rw[<-f id h]at e;exact .dat id a l c (d _ h) e
 |pfx id m a l c h e h1=>rw[<-f id h]at e;exact .pfx id m a l c (d _ h) e h1
 |pel id i j b o l c h e=>rw[<-f id h]at e⊢;exact .pel id i j b o l c (d _ h) e
 |bool b=>exact .bool b
 |int k n=>exact .int k n
 |float k n=>exact .float k n
 |complex k a b=>exact .complex k a b
 |string s=>exact .string s
 |ptrN=>exact .ptrN
 |ptr id off h=>rw[<-f id h];exact .ptr id off (d _ h)
 |slN l c=>exact .slN l c
 |slK id off l c h u=>rw[<-f id h];exact .slK id off l c (d _ h) u
 |slU id off l c h h1 h2=>rw[<-f id h]at h2⊢;exact .slU id off l c (d _ h) h1 h2
 |slE id off w c h h1 h2=>rw[<-f id h]at h1 h2⊢;exact .slE id off w c (d _ h) h1 h2
 |mapN=>exact .mapN
 |chanN=>exact .chanN
 |nilFunc=>exact .nilFunc
 |nilIface=>exact .nilIface
 |iface t v v' _ g=>exact .iface t v v' g
 |agg as bs p _ g=>exact .agg as bs p g
 |tuple as bs p _ g=>exact .tuple as bs p g
 |func fn as bs x ds p q _ _ g r=>exact .func fn as bs x ds p q g r
theorem AR.mono{D D':AB->Prop}{ι ι':AB->Reg}{a b:Aa AJ}(h:AR D ι a b)(c:∀id,D id->D' id)(d:∀id,D id->ι' id=ι id):AR D' ι' a b:=
 ⟨h.1,λi v v' e f=>(h.2 i v v' e f).mono c d⟩
def Au:AB->AJ->AH
 |0,_=>AK
 |n+1,v=>match v with
  | .bool _| .int .. | .float .. | .complex .. | .string _| .pointer AF| .slice AF _ _| .map AF| .chan AF| .nilFunc| .nilIface=>AD
  | .iface _ v=>Au n v
  | .agg a=>a.toList.all (Au n)
  | .tuple a=>a.toList.all (Au n)
  | .func _ as bs=>as.toList.all (Au n)&&bs.toList.all (Au n)
  |_=>AK
theorem Bk{D:AB->Prop}{ι:AB->Reg}:∀(n:AB) (v:AJ),Au n v=AD->VR D ι v v:=by
 intro n
 induction n with
 |zero=>intro v h;simp[Au]at h
 |succ n g=>
  intro v h;have d:∀as:Aa AJ,as.toList.all (Au n)=AD->∀(i:AB) v v',as[i]?=AC v->as[i]?=AC v'->VR D ι v v':=by
   intro as j i v v' e m;rw[e]at m;cases m;rw[C8]at j;exact g v (j v (by rw[z6];exact Array.mem_of_getElem? e))
  cases v with
  |bool b=>exact .bool b
  |int k n=>exact .int k n
  |float k n=>exact .float k n
  |complex k a b=>exact .complex k a b
  |string s=>exact .string s
  |pointer a=>cases a with
   |none=>exact .ptrN
   |some a=>simp[Au]at h
  |slice a l c=>cases a with
   |none=>exact .slN l c
   |some a=>simp[Au]at h
  |map r=>cases r with
   |none=>exact .mapN
   |some a=>simp[Au]at h
  |chan r=>cases r with
   |none=>exact .chanN
   |some a=>simp[Au]at h
  |func fn as bs=>
   simp only[Au,A0]at h;exact .func fn as as bs bs rfl rfl (d as h.1) (d bs h.2)
  |nilFunc=>exact .nilFunc
  |iface t v=>exact .iface t v v (g v (by simpa[Au]using h))
  |nilIface=>exact .nilIface
  |agg f=>exact .agg f f rfl (d f (by simpa[Au]using h))
  |tuple f=>exact .tuple f f rfl (d f (by simpa[Au]using h))
theorem GT{D:AB->Prop}{ι:AB->Reg}:∀(n:AB) (v v':AJ),Au n v=AD->VR D ι v v'->v'=v:=by
 intro n
 induction n with
 |zero=>intro v v' h;simp[Au]at h
 |succ n s=>
  intro v v' h w;have f:∀as bs:Aa AJ,as.toList.all (Au n)=AD->as.size=bs.size->(∀(i:AB) v v',as[i]?=AC v->bs[i]?=AC v'->VR D ι v v')->bs=as:=by
   intro as bs u g p;refine Array.ext g.symm λi h1 h2=> ?_
   rw[C8]at u;exact s _ _ (u _ (by rw[z6];exact Array.getElem_mem h2)) (p i _ _ (CX h2) (CX h1))
  cases w with
  |junk v=>simp[Au,junk]at h
  |sym v d=>cases n<;>simp[Au]at h
  |err b v d=>cases n<;>simp[Au]at h
  |aint k m=>cases n<;>simp[Au]at h
  |dat id a l c d e=>cases n<;>simp[Au]at h
  |pfx id m a l c d e h1=>cases n<;>simp[Au]at h
  |pel id i j b o l c d e=>simp[Au]at h
  |ptr id off d=>simp[Au]at h
  |slK id off l c d y=>simp[Au]at h
  |slU id off l c d h1 h2=>simp[Au]at h
  |slE id off z c d h1 h2=>simp[Au]at h
  |iface t v v' d=>rw[s v v' (by simpa[Au]using h) d]
  |agg as bs g p=>rw[f as bs (by simpa[Au]using h) g p]
  |tuple as bs g p=>rw[f as bs (by simpa[Au]using h) g p]
  |func fn as bs x ds g q p r=>
   simp only[Au,A0]at h;rw[f as bs h.1 g p,f x ds h.2 q r]
  |_=>rfl
inductive Hd where
 |row (len:AB) (elem:AQ) (ro:AH)
 |iter (s:Cg) (pos:AB)
 |dat (t:Ty) (xs:AE t.Den)
 |vec (t:Ty) (xs:AE t.Den) (elem:AQ)
structure H where
 hdr:AB->AP Hd
 cell:AB->AB->AP AJ
def Lv(h:H)(id:AB):Prop:=∃x,h.hdr id=AC x
def Hd.wr:Hd->Prop
 | .row _ _ a=>a=AK
 | .iter _ _=>True
 | .dat _ _=>False
 | .vec _ _ _=>True
def Wr(h:H)(id:AB):Prop:=∃x,h.hdr id=AC x/\x.wr
theorem Wr.lv{h:H}{id:AB}(x:Wr h id):Lv h id:=let⟨y,e,_⟩:=x;⟨y,e⟩
def Ty.slk:Ty->AB
 | .byte=>0
 |_=>1
def DK(fz:AB->AP (Aa AJ))(w:AN):Prop:=∀b c,fz b=AC c->∃e fr,w.heap[b]?=AC (.cells c e fr)
def BI(P:Ao)(ι:AB->Reg)(id:AB)(w:AN):Hd->Prop
 | .row len a g=>∃(c:Aa AJ) (e:AQ) (fr:AB×AB),w.heap[(ι id).blk]?=AC (.cells c e fr)/\(ι id).base+(ι id).room=c.size/\len<=(ι id).room/\
  ((ι id).own=AD/\∀b,¬(ι id).Fz b)/\
  (g=AK->e=a/\(∀i,P.info? a=AC i->(ι id).esz=i.size/\(ι id).base%i.size=0/\c.size%i.size=0)/\∀o,o<c.size->¬(fr.1<=o/\o<fr.2))
 | .iter s f=>w.heap[(ι id).blk]?=AC (.stringIter s f)/\(ι id).base=0/\(ι id).own=AD/\∀b,¬(ι id).Fz b
 | .dat t d=>sd (ι id).fz t d (ι id).sv/\(ι id).esz=t.sz/\(ι id).own=AK/\DK (ι id).fz w
 | .vec t d a=>(ι id).esz=t.sz/\DK (ι id).fz w/\((ι id).own=AK/\d=[]/\(∃q,(ι id).sv=.slice q 0 0)\/
  (ι id).own=AD/\¬(ι id).Fz (ι id).blk/\∃(cap:AB) (c:Aa AJ) (fr:AB×AB),(ι id).sv=.slice (AC ⟨(ι id).blk,(ι id).base,AF⟩) d.length cap/\d.length<=cap/\
   w.heap[(ι id).blk]?=AC (.cells c a fr)/\(ι id).base+(ι id).room=c.size/\cap*t.sz<=(ι id).room/\
   (∀i,P.info? a=AC i->t.sz=i.size/\(ι id).base%i.size=0/\c.size%i.size=0)/\(∀o,o<c.size+t.slk->¬(fr.1<=o/\o<fr.2))/\
   Et (ι id).fz t d (c.toList.drop (ι id).base))
def Cl(D:AB->Prop)(ι:AB->Reg)(id:AB)(w:AN)(k:AB)(v:AJ):Prop:=
 (ι id).own=AD/\∃v',w.cell? ⟨(ι id).blk,(ι id).base+k,AF⟩=AC v'/\VR D ι v v'
theorem BX{w:AN}{b:AB}{o:Obj}(e:w.heap[b]?=AC o):b<w.heap.size:=by
 rcases Cf b w.heap.size with h|h
 ·exact h
 ·rw[Jt h]at e;cases e
theorem BI.lt{P:Ao}{ι:AB->Reg}{id:AB}{w:AN}{x:Hd}(h:BI P ι id w x){b:AB}(a:(ι id).Own b\/(ι id).Fz b):b<w.heap.size:=by
 cases x with
 |row len d n=>
  obtain⟨c,f,fr,e,_,_,⟨_,g⟩,_⟩:=h;rcases a with⟨_,rfl⟩|a
  ·exact BX e
  ·exact Aq a (g b)
 |iter s k=>
  obtain⟨e,_,_,g⟩:=h;rcases a with⟨_,rfl⟩|a
  ·exact BX e
  ·exact Aq a (g b)
 |dat t l=>
  obtain⟨_,_,m,i⟩:=h;rcases a with⟨h,_⟩|⟨c,a⟩
  ·rw[m]at h;cases h
  ·obtain⟨e,fr,f⟩:=i b c a;exact BX f
 |vec t l d=>
  obtain⟨_,i,h⟩:=h;rcases a with⟨j,rfl⟩|⟨c,a⟩
  ·rcases h with⟨h,_⟩|⟨_,_,cap,c,fr,_,_,e,_⟩
   ·rw[h]at j;cases j
   ·exact BX e
  ·obtain⟨e,fr,f⟩:=i b c a;exact BX f
theorem BI.self{P:Ao}{ι:AB->Reg}{id:AB}{w:AN}{x:Hd}(h:BI P ι id w x){b:AB}(d:(ι id).Own b):¬(ι id).Fz b:=by
 cases x with
 |row len a k=>obtain⟨c,l,fr,e,_,_,⟨_,f⟩,_⟩:=h;exact f b
 |iter s i=>obtain⟨e,_,_,f⟩:=h;exact f b
 |dat t j=>obtain⟨_,_,g,_⟩:=h;rw[d.1]at g;cases g
 |vec t j a=>
  obtain⟨_,_,h⟩:=h;rcases h with⟨h,_⟩|⟨_,h,_⟩
  ·rw[d.1]at h;cases h
  ·rw[<-d.2];exact h
theorem BI.own_row{P:Ao}{ι:AB->Reg}{id:AB}{w:AN}{l:AB}{e:AQ}{a:AH}(h:BI P ι id w (.row l e a)):(ι id).Own (ι id).blk:=by
 obtain⟨_,_,_,_,_,_,⟨h,_⟩,_⟩:=h;exact⟨h,rfl⟩
structure Foot where
 rc:AE (AB×AB)
 rh:AE AB
 wc:AE (AB×AB)
 wh:AE AB
def Foot.nil:Foot:=⟨[],[],[],[]⟩
def Foot.add(a b:Foot):Foot:=⟨a.rc++b.rc,a.rh++b.rh,a.wc++b.wc,a.wh++b.wh⟩
def Foot.Wi(φ:Foot)(id:AB):Prop:=id∈φ.wh
def Foot.Wc(φ:Foot)(id k:AB):Prop:=(id,k)∈φ.wc\/id∈φ.wh
def Foot.Fc(φ:Foot)(id k:AB):Prop:=(id,k)∈φ.rc\/id∈φ.rh\/(id,k)∈φ.wc\/id∈φ.wh
def Foot.Fi(φ:Foot)(id:AB):Prop:=(∃k,(id,k)∈φ.rc)\/id∈φ.rh\/(∃k,(id,k)∈φ.wc)\/id∈φ.wh
theorem Foot.Wi.wc{φ:Foot}{id:AB}(h:φ.Wi id)(k:AB):φ.Wc id k:=.inr h
theorem Foot.Wc.fc{φ:Foot}{id k:AB}(h:φ.Wc id k):φ.Fc id k:=by
 rcases h with h|h
 ·exact .inr (.inr (.inl h))
 ·exact .inr (.inr (.inr h))
theorem Foot.Fc.fi{φ:Foot}{id k:AB}(h:φ.Fc id k):φ.Fi id:=by
 rcases h with h|h|h|h
 ·exact .inl ⟨_,h⟩
 ·exact .inr (.inl h)
 ·exact .inr (.inr (.inl ⟨_,h⟩))
 ·exact .inr (.inr (.inr h))
theorem Foot.Wi.fi{φ:Foot}{id:AB}(h:φ.Wi id):φ.Fi id:=(h.wc 0).fc.fi
theorem Foot.Wc.fi{φ:Foot}{id k:AB}(h:φ.Wc id k):φ.Fi id:=h.fc.fi
theorem Foot.add_Wi{a b:Foot}{id:AB}:(a.add b).Wi id↔a.Wi id\/b.Wi id:=by simp[Foot.add,Foot.Wi]
theorem Foot.add_Wc{a b:Foot}{id k:AB}:(a.add b).Wc id k↔a.Wc id k\/b.Wc id k:=by
 simp only[Foot.add,Foot.Wc,CH];constructor
 ·rintro((h|h)|(h|h))<;>simp[h]
 ·rintro((h|h)|(h|h))<;>simp[h]
theorem Foot.add_Fc{a b:Foot}{id k:AB}:(a.add b).Fc id k↔a.Fc id k\/b.Fc id k:=by
 simp only[Foot.add,Foot.Fc,CH];constructor
 ·rintro((h|h)|(h|h)|(h|h)|(h|h))<;>simp[h]
 ·rintro((h|h|h|h)|(h|h|h|h))<;>simp[h]
theorem Foot.add_Fi{a b:Foot}{id:AB}:(a.add b).Fi id↔a.Fi id\/b.Fi id:=by
 simp only[Foot.add,Foot.Fi,CH];constructor
 ·rintro(⟨k,h|h⟩|(h|h)|⟨k,h|h⟩|(h|h))
  ·exact .inl (.inl ⟨k,h⟩)
  ·exact .inr (.inl ⟨k,h⟩)
  ·exact .inl (.inr (.inl h))
  ·exact .inr (.inr (.inl h))
  ·exact .inl (.inr (.inr (.inl ⟨k,h⟩)))
  ·exact .inr (.inr (.inr (.inl ⟨k,h⟩)))
  ·exact .inl (.inr (.inr (.inr h)))
  ·exact .inr (.inr (.inr (.inr h)))
 ·rintro((⟨k,h⟩|h|⟨k,h⟩|h)|(⟨k,h⟩|h|⟨k,h⟩|h))
  ·exact .inl ⟨k,.inl h⟩
  ·exact .inr (.inl (.inl h))
  ·exact .inr (.inr (.inl ⟨k,.inl h⟩))
  ·exact .inr (.inr (.inr (.inl h)))
  ·exact .inl ⟨k,.inr h⟩
  ·exact .inr (.inl (.inr h))
  ·exact .inr (.inr (.inl ⟨k,.inr h⟩))
  ·exact .inr (.inr (.inr (.inr h)))
structure HOn(P:Ao)(D:AB->Prop)(ι:AB->Reg)(h:H)(φ:Foot)(w:AN):Prop where
 hd:∀id x,φ.Fi id->h.hdr id=AC x->BI P ι id w x
 ce:∀id k v,φ.Fc id k->Lv h id->h.cell id k=AC v->Cl D ι id w k v
 inj:∀i j,φ.Fi i->φ.Fi j->Wr h i->Lv h j->i≠j->∀b,(ι i).Own b->¬(ι j).Own b/\¬(ι j).Fz b
def CR(S:AB->Prop):AP Obj->AP Obj->Prop
 |some (.cells c e fr),o=>∃b,o=AC (.cells b e fr)/\b.size=c.size/\∀k,¬S k->b[k]?=c[k]?
 |a,o=>o=a
theorem CR.refl(S:AB->Prop)(a:AP Obj):CR S a a:=by
 unfold CR
 split
 ·exact⟨_,rfl,rfl,λ_ _=>rfl⟩
 ·rfl
theorem CR.mono{S S':AB->Prop}{a b:AP Obj}(h:CR S a b)(d:∀k,S k->S' k):CR S' a b:=by
 rcases a with _|a
 ·exact h
 ·cases a with
  |cells c e fr=>
   obtain⟨f,e,g,i⟩:=h;exact⟨f,e,g,λk j=>i k λx=>j (d k x)⟩
  |_=>exact h
theorem CR.trans{S S':AB->Prop}{a b c:AP Obj}(h:CR S a b)(d:CR S' b c):CR (λk=>S k\/S' k) a c:=by
 rcases a with _|a
 ·have h:b=none:=h;subst h;exact d
 ·cases a with
  |cells c0 e fr=>
   obtain⟨c1,rfl,j,l⟩:=h;obtain⟨c2,e,f,g⟩:=d;exact⟨c2,e,f.trans j,λk i=>(g k λx=>i (.inr x)).trans (l k λx=>i (.inl x))⟩
  |_=>(have h:b=_:=h);subst h;exact d
theorem CR.eq{S:AB->Prop}{a b:AP Obj}(h:CR S a b)(d:∀k,¬S k):b=a:=by
 rcases a with _|a
 ·exact h
 ·cases a with
  |cells c e fr=>
   obtain⟨f,e,i,g⟩:=h;have:f=_:=PH λk=>g k (d k)
   rw[e,this]
  |_=>exact h
structure Post(P:Ao)(D N:AB->Prop)(ι:AB->Reg)(h:H)(w:AN)(φ:Foot)(ι':AB->Reg)(h':H)(w':AN):Prop where
 io:∀id,¬N id->ι' id=ι id
 size:w.heap.size<=w'.heap.size
 os:w'.os=w.os
 out:w'.output=w.output
 hdr:∀id x,φ.Wi id\/N id->h'.hdr id=AC x->BI P ι' id w' x
 cel:∀id k v,φ.Wc id k\/N id->Lv h' id->h'.cell id k=AC v->Cl (λi=>D i\/N i) ι' id w' k v
 ahdr:∀id,¬N id->¬φ.Wi id->h'.hdr id=h.hdr id
 acel:∀id k,¬N id->¬φ.Wc id k->h'.cell id k=h.cell id k
 cfr:∀b,b<w.heap.size->(∀id,φ.Wi id->Wr h id->¬(ι id).Own b)->CR (λo=>∃id k,φ.Wc id k/\Wr h id/\(ι id).Own b/\(ι id).base+k=o) w.heap[b]? w'.heap[b]?
 fresh:∀id,N id->Lv h' id->∀b,(ι' id).Own b->(w.heap.size<=b/\b<w'.heap.size)\/∃k,φ.Wi k/\¬N k/\Wr h k/\¬Lv h' k/\(ι k).Own b
 freshF:∀id,N id->Lv h' id->∀b,(ι' id).Fz b->(w.heap.size<=b/\b<w'.heap.size)\/(∃k,φ.Wi k/\¬N k/\Wr h k/\¬Lv h' k/\(ι k).Own b)\/∃k,φ.Fi k/\¬N k/\Lv h k/\(ι k).Fz b
 dist:∀i j,N i->N j->Wr h' i->Lv h' j->i≠j->∀b,(ι' i).Own b->¬(ι' j).Own b/\¬(ι' j).Fz b
 nl:∀id,N id->h.hdr id=AF
 wl:∀id k,φ.Wc id k->¬N id->Lv h id
 wrm:∀id,¬N id->Wr h' id->Wr h id
 wrow:∀id k,φ.Wc id k->¬φ.Wi id->¬N id->∃l e ro,h.hdr id=AC (.row l e ro)
theorem Post.refl(P:Ao)(D N:AB->Prop)(ι:AB->Reg)(h:H)(w:AN)(a:∀id,¬N id):Post P D N ι h w .nil ι h w where
 io:=λ_ _=>rfl
 size:=Ak _
 os:=AL
 out:=AL
 hdr:=λid x hx=>by rcases hx with hx|hx;cases hx;exact Aq hx (a id)
 cel:=λid k v hx=>by rcases hx with(hx|hx)|hx;cases hx;cases hx;exact Aq hx (a id)
 ahdr:=λ_ _ _=>rfl
 acel:=λ_ _ _ _=>rfl
 cfr:=λ_ _ _=>CR.refl _ _
 fresh:=λid hx=>Aq hx (a id)
 freshF:=λid hx=>Aq hx (a id)
 dist:=λi _ hx=>Aq hx (a i)
 nl:=λid hx=>Aq hx (a id)
 wl:=λid k hx=>by rcases hx with hx|hx<;>cases hx
 wrm:=λ_ _ hx=>hx
 wrow:=λid k hx=>by rcases hx with hx|hx<;>cases hx
theorem DK.keep{fz:AB->AP (Aa AJ)}{w w':AN}(h:DK fz w)(a:∀b c,fz b=AC c->w'.heap[b]?=w.heap[b]?):DK fz w':=λb c e=>by
 obtain⟨d,fr,f⟩:=h b c e;exact⟨d,fr,by rw[a b c e];exact f⟩
theorem BI.keep{P:Ao}{ι ι':AB->Reg}{id:AB}{w w':AN}{x:Hd}{S:AB->AB->Prop}(h:BI P ι id w x)(f:ι' id=ι id)(a:∀b,(ι id).Own b\/(ι id).Fz b->CR (S b) w.heap[b]? w'.heap[b]?)(g:(∃l e v,x=.row l e v)\/∀b,(ι id).Own b\/(ι id).Fz b->∀k,¬S b k):BI P ι' id w' x:=by
 cases x with
 |row len j v=>
  have m:=h.own_row;obtain⟨c,el,fr,e,h1,h2,p,n⟩:=h;have a:=a _ (.inl m);rw[e]at a;obtain⟨y,z,q,_⟩:=a;refine⟨y,el,fr,by rw[f];exact z,by rw[f,q];exact h1,by rw[f];exact h2,by rw[f];exact p,λA=> ?_⟩;obtain⟨g1,r,g3⟩:=n A;exact⟨g1,λi u=>by rw[f,q];exact r i u,λo B=>g3 o (q▸B)⟩
 |iter s C=>
  obtain⟨e,D,h1,h2⟩:=h;have a:=a _ (.inl ⟨h1,rfl⟩);rw[e]at a;exact⟨by rw[f];exact a,by rw[f];exact⟨D,h1,h2⟩⟩
 |dat t E=>
  have g:=g.resolve_left (by rintro⟨_,_,_,h⟩;cases h);obtain⟨h1,h2,n,p⟩:=h;simp only[BI,f];exact⟨h1,h2,n,p.keep λb c d=>(a b (.inr ⟨c,d⟩)).eq (g b (.inr ⟨c,d⟩))⟩
 |vec t E j=>
  have g:=g.resolve_left (by rintro⟨_,_,_,h⟩;cases h);obtain⟨h1,h2,n⟩:=h;simp only[BI,f];refine⟨h1,h2.keep λb c d=>(a b (.inr ⟨c,d⟩)).eq (g b (.inr ⟨c,d⟩)),n.imp_right ?_⟩;rintro⟨g1,r,cap,c,fr,g3,g4,F,G⟩;exact⟨g1,r,cap,c,fr,g3,g4,by rw[(a _ (.inl ⟨g1,rfl⟩)).eq (g _ (.inl ⟨g1,rfl⟩))];exact F,G⟩
theorem Cl.keep{D D':AB->Prop}{ι ι':AB->Reg}{id k:AB}{w w':AN}{v:AJ}{S:AB->Prop}(h:Cl D ι id w k v)(b:ι' id=ι id)(f:∀i,D i->D' i)(a:∀i,D i->ι' i=ι i)(d:CR S w.heap[(ι id).blk]? w'.heap[(ι id).blk]?)(g:¬S ((ι id).base+k)):Cl D' ι' id w' k v:=by
 obtain⟨j,v',e,l⟩:=h;refine⟨by rw[b];exact j,v',?_,l.mono f a⟩;rw[b];simp only[C0]at e⊢
 split at e
 ·rename_i c el fr m;rw[m]at d;obtain⟨p,n,q,o⟩:=d;rw[n];simp only[Df,CI,BR]at e⊢;rw[o _ g];exact e
 ·cases e
theorem Wr.of_hdr{h a:H}{id:AB}(e:a.hdr id=h.hdr id)(x:Wr a id):Wr h id:=by
 obtain⟨y,b,c⟩:=x;exact⟨y,e▸b,c⟩
theorem Lv.of_hdr{h a:H}{id:AB}(e:a.hdr id=h.hdr id)(x:Lv a id):Lv h id:=by
 obtain⟨y,b⟩:=x;exact⟨y,e▸b⟩
end Go.Eng
end
end
section
noncomputable section
namespace Go.Eng
open Go
section
variable {P:Ao} {D N M:AB->Prop} {ι ι1 ι2:AB->Reg} {h h1 h2:H} {w w1 w2:AN} {φ ψ:Foot}
theorem Cl.lt{D:AB->Prop}{ι:AB->Reg}{id k:AB}{w:AN}{v:AJ}(h:Cl D ι id w k v):(ι id).blk<w.heap.size:=by
 obtain⟨_,v',e,_⟩:=h;simp only[C0]at e;rcases Cf (ι id).blk w.heap.size with a|b
 ·exact a
 ·rw[Jt b]at e;cases e
theorem Cl.more{D D':AB->Prop}{ι:AB->Reg}{id k:AB}{w:AN}{v:AJ}(h:Cl D ι id w k v)(a:∀i,D i->D' i):Cl D' ι id w k v:=
 let⟨b,v',e,c⟩:=h;⟨b,v',e,c.mono a λ_ _=>rfl⟩
theorem Post.lv(p:Post P D N ι h w φ ι1 h1 w1){id:AB}(a:¬N id)(c:Lv h1 id):Lv h id:=by
 by_cases b:φ.Wi id
 ·exact p.wl id 0 (b.wc 0) a
 ·exact c.of_hdr (p.ahdr id a b)
theorem Post.inj(H0:HOn P D ι h (φ.add ψ) w)(p:Post P D N ι h w φ ι1 h1 w1){i j:AB}(E:(φ.add ψ).Fi i\/N i)(F:(φ.add ψ).Fi j\/N j)(q:Wr h1 i)(t:Lv h1 j)(f:i≠j)(b:AB)(d:(ι1 i).Own b):¬(ι1 j).Own b/\¬(ι1 j).Fz b:=by
 have old:∀a,¬N a->(φ.add ψ).Fi a->Lv h1 a->∃y,h.hdr a=AC y/\BI P ι a w y:=λa u H v=>by
  obtain⟨y,r⟩:=p.lv u v;exact⟨y,r,H0.hd a y H r⟩
 have mixed:∀a c,N a->¬N c->(φ.add ψ).Fi c->Lv h1 a->Lv h1 c->a≠c->∀b,((ι1 a).Own b->¬(ι1 c).Own b/\¬(ι1 c).Fz b)/\(Wr h1 c->(ι1 c).Own b->¬(ι1 a).Fz b):=by
  intro a c u A fc v B I b;rw[p.io c A];obtain⟨y,r,g⟩:=old c A fc B;refine⟨λd=> ?_,λwc z d=> ?_⟩
  ·rcases p.fresh a u v b d with⟨h1,_⟩|⟨k,C,G,n,dk,e⟩
   ·exact⟨λx=>by have:=g.lt (.inl x);omega,λx=>by have:=g.lt (.inr x);omega⟩
   ·exact H0.inj k c (Foot.add_Fi.2 (.inl C.fi)) fc n ⟨y,r⟩ (λe=>dk (e▸B)) b e
  ·rcases p.freshF a u v b d with⟨h1,_⟩|⟨k,C,G,n,dk,e⟩|⟨k,J,G,K,e⟩
   ·have:=g.lt (.inl z);omega
   ·exact(H0.inj k c (Foot.add_Fi.2 (.inl C.fi)) fc n ⟨y,r⟩ (λe=>dk (e▸B)) b e).1 z
   ·by_cases s:k=c
    ·subst s;exact g.self z e
    ·exact(H0.inj c k fc (Foot.add_Fi.2 (.inl J)) (p.wrm c A wc) K (ES s) b z).2 e
 by_cases o:N i
 ·by_cases l:N j
  ·exact p.dist i j o l q t f b d
  ·exact(mixed i j o l (F.resolve_right l) q.lv t f b).1 d
 ·by_cases l:N j
  ·have m:=mixed j i l o (E.resolve_right o) t q.lv f.symm b;exact⟨λx=>(m.1 x).1 d,m.2 q d⟩
  ·rw[p.io i o]at d;rw[p.io j l];exact H0.inj i j (E.resolve_right o) (F.resolve_right l) (p.wrm i o q) (p.lv l t) f b d
theorem Post.hon(H0:HOn P D ι h (φ.add ψ) w)(p:Post P D N ι h w φ ι1 h1 w1)(u:∀id,N id->¬D id):HOn P (λi=>D i\/N i) ι1 h1 ψ w1 where
 hd:=by
  intro id x fi e;by_cases j:φ.Wi id\/N id
  ·exact p.hdr id x j e
  ·have m:¬φ.Wi id:=λx=>j (.inl x)
   have n:¬N id:=λx=>j (.inr x)
   rw[p.ahdr id n m]at e;have f:=Foot.add_Fi.2 (.inr fi:φ.Fi id\/ψ.Fi id);have c:=H0.hd id x f e;refine c.keep (S:=λb o=>∃a k,φ.Wc a k/\Wr h a/\(ι a).Own b/\(ι a).base+k=o) (p.io id n) (λb s=>p.cfr b (c.lt s) λk t q d=> ?_) ?_
   ·have:=H0.inj k id (Foot.add_Fi.2 (.inl t.fi)) f q ⟨x,e⟩ (λe=>m (e▸t)) b d;exact s.elim this.1 this.2
   ·by_cases A:∃l e B,x=.row l e B
    ·exact .inl A
    ·refine .inr λb s o=> ?_
     rintro⟨a,k,wc,wr,C,_⟩;by_cases d:a=id
     ·subst d;obtain⟨l,L,B,E⟩:=p.wrow _ _ wc m n;rw[e]at E;cases E;exact A ⟨_,_,_,rfl⟩
     ·have:=H0.inj a id (Foot.add_Fi.2 (.inl wc.fi)) f wr ⟨x,e⟩ d b C;exact s.elim this.1 this.2
 ce:=by
  intro id k v fc lv e;by_cases j:φ.Wc id k\/N id
  ·exact p.cel id k v j lv e
  ·have m:¬φ.Wc id k:=λx=>j (.inl x)
   have n:¬N id:=λx=>j (.inr x)
   have y:¬φ.Wi id:=λx=>m (x.wc k)
   rw[p.acel id k n m]at e;have r:=p.lv n lv;have c:=H0.ce id k v (Foot.add_Fc.2 (.inr fc)) r e;have f:=Foot.add_Fi.2 (.inr fc.fi:φ.Fi id\/ψ.Fi id);have g:(ι id).Own (ι id).blk:=⟨c.1,rfl⟩
   refine c.keep (p.io id n) (λ_=>.inl) (λi F=>p.io i λG=>u i G F) (p.cfr _ c.lt λk t q d=> ?_) ?_
   ·exact(H0.inj k id (Foot.add_Fi.2 (.inl t.fi)) f q r (λe=>y (e▸t)) _ d).1 g
   ·rintro⟨a,H,wc,wr,s,C⟩;by_cases d:a=id
    ·subst d;have:H=k:=by omega
     subst this;exact m wc
    ·exact(H0.inj a id (Foot.add_Fi.2 (.inl wc.fi)) f wr r d _ s).1 g
 inj:=λ_ _ fi I J K z=>p.inj H0 (.inl (Foot.add_Fi.2 (.inr fi))) (.inl (Foot.add_Fi.2 (.inr I))) J K z
theorem Post.trans(H0:HOn P D ι h (φ.add ψ) w)(p:Post P D N ι h w φ ι1 h1 w1)(q:Post P (λi=>D i\/N i) M ι1 h1 w1 ψ ι2 h2 w2)(hM:∀id,M id->¬(D id\/N id))(hl:∀id,M id->h.hdr id=AF):Post P D (λi=>N i\/M i) ι h w (φ.add ψ) ι2 h2 w2 where
 io:=λid g=>(q.io id λx=>g (.inr x)).trans (p.io id λx=>g (.inl x))
 size:=Ea p.size q.size
 os:=q.os.trans p.os
 out:=q.out.trans p.out
 hdr:=by
  intro id x hw e;by_cases V:ψ.Wi id\/M id
  ·exact q.hdr id x V e
  ·have E:¬ψ.Wi id:=λx=>V (.inl x)
   have F:¬M id:=λx=>V (.inr x)
   rw[q.ahdr id F E]at e;have H:φ.Wi id\/N id:=by
    rcases hw with hw|hw|hw
    ·exact .inl ((Foot.add_Wi.1 hw).resolve_right E)
    ·exact .inr hw
    ·exact Aq hw F
   have n:=p.hdr id x H e;have Z:(φ.add ψ).Fi id\/N id:=H.imp (λx=>Foot.add_Fi.2 (.inl x.fi)) λx=>x
   refine n.keep (S:=λb o=>∃t k,ψ.Wc t k/\Wr h1 t/\(ι1 t).Own b/\(ι1 t).base+k=o) (q.io id F) (λb f=>q.cfr b (n.lt f) λk z c O=> ?_) ?_
   ·have:=p.inj H0 (.inl (Foot.add_Fi.2 (.inr z.fi))) Z c ⟨x,e⟩ (λe=>E (e▸z)) b O;exact f.elim this.1 this.2
   ·by_cases hx:∃l e ro,x=.row l e ro
    ·exact .inl hx
    ·refine .inr λb f o=> ?_
     rintro⟨t,k,wc,wr,Y,_⟩;by_cases O:t=id
     ·subst O;obtain⟨l,K,ro,hr⟩:=q.wrow _ _ wc E F;rw[e]at hr;cases hr;exact hx ⟨_,_,_,rfl⟩
     ·have:=p.inj H0 (.inl (Foot.add_Fi.2 (.inr wc.fi))) Z wr ⟨x,e⟩ O b Y;exact f.elim this.1 this.2
 cel:=by
  intro id k v hw lv e;by_cases V:ψ.Wc id k\/M id
  ·exact(q.cel id k v V lv e).more λi hi=>by rcases hi with(hi|hi)|hi<;>simp[hi]
  ·have E:¬ψ.Wc id k:=λx=>V (.inl x)
   have F:¬M id:=λx=>V (.inr x)
   have nwi:¬ψ.Wi id:=λx=>E (x.wc k)
   rw[q.acel id k F E]at e;have W:=q.lv F lv;have H:φ.Wc id k\/N id:=by
    rcases hw with hw|hw|hw
    ·exact .inl ((Foot.add_Wc.1 hw).resolve_right E)
    ·exact .inr hw
    ·exact Aq hw F
   have n:=p.cel id k v H W e;have Z:(φ.add ψ).Fi id\/N id:=H.imp (λx=>Foot.add_Fi.2 (.inl x.fi)) λx=>x
   have R:(ι1 id).Own (ι1 id).blk:=⟨n.1,rfl⟩
   refine n.keep (q.io id F) (λi hi=>by rcases hi with hi|hi<;>simp[hi]) (λi hi=>q.io i λu=>hM i u hi) (q.cfr _ n.lt λk z c O=> ?_) ?_
   ·exact(p.inj H0 (.inl (Foot.add_Fi.2 (.inr z.fi))) Z c W (λe=>nwi (e▸z)) _ O).1 R
   ·rintro⟨t,r,wc,wr,f,Y⟩;by_cases O:t=id
    ·subst O;have:r=k:=by omega
     subst this;exact E wc
    ·exact(p.inj H0 (.inl (Foot.add_Fi.2 (.inr wc.fi))) Z wr W O _ f).1 R
 ahdr:=λid g hw=>(q.ahdr id (λx=>g (.inr x)) λx=>hw (Foot.add_Wi.2 (.inr x))).trans (p.ahdr id (λx=>g (.inl x)) λx=>hw (Foot.add_Wi.2 (.inl x)))
 acel:=λid k g hw=>(q.acel id k (λx=>g (.inr x)) λx=>hw (Foot.add_Wc.2 (.inr x))).trans (p.acel id k (λx=>g (.inl x)) λx=>hw (Foot.add_Wc.2 (.inl x)))
 cfr:=by
  intro b f X;have far:∀id,N id->Lv h1 id->¬(ι1 id).Own b:=by
   intro id d lv Y;rcases p.fresh id d lv b Y with⟨h1,_⟩|⟨k,z,_,c,_,e⟩
   ·omega
   ·exact X k (Foot.add_Wi.2 (.inl z)) c e
  have a1:=p.cfr b f λid wi wr=>X id (Foot.add_Wi.2 (.inl wi)) wr
  have a2:=q.cfr b (Wf f p.size) λid wi wr=>by
   by_cases d:N id
   ·exact far id d wr.lv
   ·rw[p.io id d];exact X id (Foot.add_Wi.2 (.inr wi)) (p.wrm id d wr)
  refine(a1.trans a2).mono λo Y=> ?_
  rcases Y with⟨id,k,wc,wr,h1,h2⟩|⟨id,k,wc,wr,h1,h2⟩
  ·exact⟨id,k,Foot.add_Wc.2 (.inl wc),wr,h1,h2⟩
  ·by_cases d:N id
   ·exact Aq h1 (far id d wr.lv)
   ·rw[p.io id d]at h1 h2;exact⟨id,k,Foot.add_Wc.2 (.inr wc),p.wrm id d wr,h1,h2⟩
 fresh:=by
  have notM:∀k,Wr h k->¬M k:=λk wr u=>by obtain⟨y,Q⟩:=wr.lv;rw[hl k u]at Q;cases Q
  intro id g lv b f;by_cases u:M id
  ·rcases q.fresh id u lv b f with⟨h1,h2⟩|⟨k,z,mk,c,dk,e⟩
   ·exact .inl ⟨Ea p.size h1,h2⟩
   ·by_cases C:N k
    ·rcases p.fresh k C c.lv b e with⟨h1,h2⟩|⟨r,A,s,a,B,K⟩
     ·exact .inl ⟨by omega,by have:=q.size;omega⟩
     ·exact .inr ⟨r,Foot.add_Wi.2 (.inl A),λx=>x.elim s (notM r a),a,λl=>B (q.lv (notM r a) l),K⟩
    ·exact .inr ⟨k,Foot.add_Wi.2 (.inr z),λx=>x.elim C mk,p.wrm k C c,dk,by rw[p.io k C]at e;exact e⟩
  ·have d:N id:=g.resolve_right u;rw[q.io id u]at f;rcases p.fresh id d (q.lv u lv) b f with⟨h1,h2⟩|⟨r,A,s,a,B,K⟩
   ·exact .inl ⟨h1,Wf h2 q.size⟩
   ·exact .inr ⟨r,Foot.add_Wi.2 (.inl A),λx=>x.elim s (notM r a),a,λl=>B (q.lv (notM r a) l),K⟩
 freshF:=by
  have I:∀k,Lv h k->¬M k:=λk wr u=>by obtain⟨y,Q⟩:=wr;rw[hl k u]at Q;cases Q
  have notM:∀k,Wr h k->¬M k:=λk wr=>I k wr.lv
  have back:∀id,N id->¬M id->Lv h1 id->∀b,(ι1 id).Fz b->(w.heap.size<=b/\b<w2.heap.size)\/(∃k,(φ.add ψ).Wi k/\¬(N k\/M k)/\Wr h k/\¬Lv h2 k/\(ι k).Own b)\/∃k,(φ.add ψ).Fi k/\¬(N k\/M k)/\Lv h k/\(ι k).Fz b:=by
   intro id d F lv b f;rcases p.freshF id d lv b f with⟨h1,h2⟩|⟨r,A,s,a,B,K⟩|⟨r,fk',s,lk',K⟩
   ·exact .inl ⟨h1,Wf h2 q.size⟩
   ·exact .inr (.inl ⟨r,Foot.add_Wi.2 (.inl A),λx=>x.elim s (notM r a),a,λl=>B (q.lv (notM r a) l),K⟩)
   ·exact .inr (.inr ⟨r,Foot.add_Fi.2 (.inl fk'),λx=>x.elim s (I r lk'),lk',K⟩)
  intro id g lv b f;by_cases u:M id
  ·rcases q.freshF id u lv b f with⟨h1,h2⟩|⟨k,z,mk,c,dk,e⟩|⟨k,fk,mk,lk,e⟩
   ·exact .inl ⟨Ea p.size h1,h2⟩
   ·by_cases C:N k
    ·rcases p.fresh k C c.lv b e with⟨h1,h2⟩|⟨r,A,s,a,B,K⟩
     ·exact .inl ⟨by omega,by have:=q.size;omega⟩
     ·exact .inr (.inl ⟨r,Foot.add_Wi.2 (.inl A),λx=>x.elim s (notM r a),a,λl=>B (q.lv (notM r a) l),K⟩)
    ·exact .inr (.inl ⟨k,Foot.add_Wi.2 (.inr z),λx=>x.elim C mk,p.wrm k C c,dk,by rw[p.io k C]at e;exact e⟩)
   ·by_cases C:N k
    ·exact back k C mk lk b e
    ·exact .inr (.inr ⟨k,Foot.add_Fi.2 (.inr fk),λx=>x.elim C mk,p.lv C lk,by rw[p.io k C]at e;exact e⟩)
  ·have d:N id:=g.resolve_right u;rw[q.io id u]at f;exact back id d u (q.lv u lv) b f
 dist:=by
  have mixed:∀i j,M i->N j->¬M j->Lv h2 i->Lv h2 j->i≠j->∀b,((ι2 i).Own b->¬(ι2 j).Own b/\¬(ι2 j).Fz b)/\(Wr h2 j->(ι2 j).Own b->¬(ι2 i).Fz b):=by
   intro i j L nj G T U J b;rw[q.io j G];obtain⟨y,Q⟩:=q.lv G U;have n:=p.hdr j y (.inr nj) Q;refine⟨λf=> ?_,λwc hc f=> ?_⟩
   ·rcases q.fresh i L T b f with⟨h1,_⟩|⟨k,z,_,c,dk,e⟩
    ·exact⟨λx=>by have:=n.lt (.inl x);omega,λx=>by have:=n.lt (.inr x);omega⟩
    ·exact p.inj H0 (.inl (Foot.add_Fi.2 (.inr z.fi))) (.inr nj) c ⟨y,Q⟩ (λe=>dk (e▸U)) b e
   ·rcases q.freshF i L T b f with⟨h1,_⟩|⟨k,z,_,c,dk,e⟩|⟨k,fk,_,lk,e⟩
    ·have:=n.lt (.inl hc);omega
    ·exact(p.inj H0 (.inl (Foot.add_Fi.2 (.inr z.fi))) (.inr nj) c ⟨y,Q⟩ (λe=>dk (e▸U)) b e).1 hc
    ·by_cases hkj:k=j
     ·subst hkj;exact n.self hc e
     ·exact(p.inj H0 (.inr nj) (.inl (Foot.add_Fi.2 (.inr fk))) (q.wrm j G wc) lk (ES hkj) b hc).2 e
  intro i j hi hj T U J b f;by_cases L:M i
  ·by_cases G:M j
   ·exact q.dist i j L G T U J b f
   ·exact(mixed i j L (hj.resolve_right G) G T.lv U J b).1 f
  ·by_cases G:M j
   ·have m:=mixed j i G (hi.resolve_right L) L U T.lv J.symm b;exact⟨λx=>(m.1 x).1 f,m.2 T f⟩
   ·rw[q.io i L]at f;rw[q.io j G];exact p.dist i j (hi.resolve_right L) (hj.resolve_right G) (q.wrm i L T) (q.lv G U) J b f
 nl:=λid g=>g.elim (p.nl id) (hl id)
 wl:=by
  intro id k hw g;have nn:¬N id:=λx=>g (.inl x)
  rcases Foot.add_Wc.1 hw with hw|hw
  ·exact p.wl id k hw nn
  ·exact p.lv nn (q.wl id k hw λx=>g (.inr x))
 wrm:=λid g wr=>p.wrm id (λx=>g (.inl x)) (q.wrm id (λx=>g (.inr x)) wr)
 wrow:=by
  intro id k hw hwi g;have nn:¬N id:=λx=>g (.inl x)
  have F:¬M id:=λx=>g (.inr x)
  have E:¬φ.Wi id:=λx=>hwi (Foot.add_Wi.2 (.inl x))
  rcases Foot.add_Wc.1 hw with hw|hw
  ·exact p.wrow id k hw E nn
  ·have:=q.wrow id k hw (λx=>hwi (Foot.add_Wi.2 (.inr x))) F;rw[p.ahdr id nn E]at this;exact this
end
end Go.Eng
end
end
section
noncomputable section
namespace Go.Eng
open Go
inductive OT where
 |d (t:Ty)
 |vec (t:Ty) (e:AQ)
 |unit
 |pair (a b:OT)
 |ptr (a:OT) (e:AQ)
 |con (vs:AE AJ)
@[reducible] def OT.Den:OT->Type
 | .d t=>t.Den
 | .vec t _=>AE t.Den
 | .unit=>Unit
 | .pair a b=>a.Den×b.Den
 | .ptr a _=>a.Den
 | .con _=>Unit
def OT.sz:OT->AB
 | .d t=>t.sz
 | .vec _ _=>1
 | .unit=>0
 | .pair a b=>a.sz+b.sz
 | .ptr _ _=>1
 | .con vs=>vs.length
def OT.agg:OT->AH
 | .d t=>t.agg
 | .unit=>AD
 | .pair _ _=>AD
 | .con _=>AD
 |_=>AK
@[reducible] def DX:AE OT->Type
 |[]=>Unit
 |t::ts=>t.Den×DX ts
def b9(P:Ao)(w:AN)(fz:AB->AP (Aa AJ)):(t:OT)->t.Den->AE AJ->AE AB->Prop
 | .d t,x,f,own=>own=[]/\Cw fz t x f
 | .vec t e,i,f,own=>∃r:Reg,f=[r.sv]/\own=(bif r.own then [r.blk]else [])/\BI P (λ_=>r) 0 w (.vec t i e)/\∀b c,r.fz b=AC c->fz b=AC c
 | .unit,_,f,own=>f=[]/\own=[]
 | .pair a b,x,f,own=>∃c1 c2 g h,f=c1++c2/\own=g++h/\b9 P w fz a x.1 c1 g/\b9 P w fz b x.2 c2 h
 | .ptr a e,x,f,own=>∃(r:Reg) (us:AE AJ) (g:AE AB),f=[.pointer (AC ⟨r.blk,r.base,AF⟩)]/\own=r.blk::g/\BI P (λ_=>r) 0 w (.row us.length e AK)/\
  (∀(k:AB) u,us[k]?=AC u->w.cell? ⟨r.blk,r.base+k,AF⟩=AC u)/\b9 P w fz a x us g
 | .con vs,_,f,own=>own=[]/\f=vs/\vs.all (Au 2)=AD
def UB(P:Ao)(w:AN)(fz:AB->AP (Aa AJ))(r:Reg)(a:OT)(e:AQ)(x:a.Den)(own:AE AB):Prop:=
 ∃us:AE AJ,BI P (λ_=>r) 0 w (.row us.length e AK)/\(∀(k:AB) u,us[k]?=AC u->w.cell? ⟨r.blk,r.base+k,AF⟩=AC u)/\b9 P w fz a x us own
def UC(P:Ao)(w:AN)(fz:AB->AP (Aa AJ)):(rs:AE OT)->DX rs->AE AJ->AE AB->Prop
 |[],_,vs,own=>vs=[]/\own=[]
 |r::rs,y,vs,own=>∃v a b c,vs=v::a/\own=b++c/\((r.agg=AD/\∃d:Aa AJ,v=.agg d/\b9 P w fz r y.1 d.toList b)\/(r.agg=AK/\b9 P w fz r y.1 [v] b))/\UC P w fz rs y.2 a c
structure OSpec where
 rb:AH
 ri:AB
 root:OT
 re:AQ
 ts:AE OT
 rs:AE OT
 pre:root.Den->DX ts->AH
 g:root.Den->DX ts->root.Den×DX rs
def Iw(rb:AH)(r:Reg):AE AB:=bif rb then [r.blk]else []
def kq(rb:AH)(r:Reg):AE AJ:=bif rb then [.pointer (AC ⟨r.blk,r.base,AF⟩)]else []
def EI(k:AB)(a l:AE AJ):AE AJ:=l.take k++(a++l.drop k)
theorem pU(k:AB)(l:AE AJ):EI k [] l=l:=by simp[EI]
theorem kr(k:AB)(b:AE AJ)(a:AJ)(l:AE AJ):EI (k+1) b (a::l)=a::EI k b l:=by simp[EI]
def YC:AB->AE AJ->AP (AJ×AE AJ)
 |0,v::r=>AC (v,r)
 |k+1,v::r=>match YC k r with
  |some (u,a)=>AC (u,v::a)
  |none=>AF
 |_,[]=>AF
end Go.Eng
end
end
section
noncomputable section
namespace Go.Eng
open Go
inductive AO where
 |row (cells:AE AJ) (elem:AQ) (ro:AH)
 |iter (s:Cg) (pos:AB)
 |dat (t:Ty) (xs:AE t.Den)
 |vec (t:Ty) (xs:AE t.Den) (elem:AQ)
def AO.hd:AO->Hd
 | .row b e c=>.row b.length e c
 | .iter s p=>.iter s p
 | .dat t a=>.dat t a
 | .vec t a e=>.vec t a e
structure St where
 heap:Tr AO
 next:AB
 pc:AE AH
 ora:AE AB
def FZ:AE AH->Prop
 |[]=>True
 |p::a=>p=AD/\FZ a
def St.Ok(σ:St):Prop:=FZ σ.pc
def Fs:AP AO->AB->AP AJ
 |some (.row a _ _),k=>a[k]?
 |_,_=>AF
def St.H(σ:St):H:=⟨λid=>(σ.heap.get id).map AO.hd,λid k=>Fs (σ.heap.get id) k⟩
def St.wf(σ:St):Prop:=∀id,σ.next<=id->σ.heap.get id=AF
def St.rng(σ σ':St)(id:AB):Prop:=σ.next<=id/\id<σ'.next
def St.new(σ:St)(o:AO):St:=⟨σ.heap.set σ.next (AC o),σ.next+1,σ.pc,σ.ora⟩
def St.put(σ:St)(id:AB)(o:AP AO):St:=⟨σ.heap.set id o,σ.next,σ.pc,σ.ora⟩
theorem St.lv_lt{σ:St}(b:σ.wf){id:AB}(h:Lv σ.H id):id<σ.next:=by
 rcases Cf id σ.next with c|d
 ·exact c
 ·obtain⟨x,a⟩:=h;simp only[St.H]at a;rw[b id d]at a;cases a
theorem St.hdr_none{σ:St}(a:σ.wf)(id:AB)(b:σ.next<=id):σ.H.hdr id=none:=by simp only[St.H,a id b,Option.map_none]
theorem St.new_wf{σ:St}(a:σ.wf)(o:AO):(σ.new o).wf:=by
 intro id h;simp only[St.new]at h⊢;rw[Tr.set_get,AY (by omega)];exact a id (by omega)
theorem St.put_wf{σ:St}(a:σ.wf){id:AB}(b:id<σ.next)(o:AP AO):(σ.put id o).wf:=by
 intro j h;simp only[St.put]at h⊢;rw[Tr.set_get,AY (by omega)];exact a j (by omega)
theorem St.new_hdr(σ:St)(o:AO)(j:AB):(σ.new o).H.hdr j=if j=σ.next then AC o.hd else σ.H.hdr j:=by
 simp only[St.H,St.new,Tr.set_get];split<;>rfl
theorem St.new_cell(σ:St)(o:AO)(j k:AB):(σ.new o).H.cell j k=if j=σ.next then Fs (AC o) k else σ.H.cell j k:=by
 simp only[St.H,St.new,Tr.set_get];split<;>rfl
theorem St.put_hdr(σ:St)(id:AB)(o:AP AO)(j:AB):(σ.put id o).H.hdr j=if j=id then o.map AO.hd else σ.H.hdr j:=by
 simp only[St.H,St.put,Tr.set_get];split<;>rfl
theorem St.put_cell(σ:St)(id:AB)(o:AP AO)(j k:AB):(σ.put id o).H.cell j k=if j=id then Fs o k else σ.H.cell j k:=by
 simp only[St.H,St.put,Tr.set_get];split<;>rfl
theorem St.hdr_of{σ:St}{id:AB}{o:AO}(h:σ.heap.get id=AC o):σ.H.hdr id=AC o.hd:=by simp[St.H,h]
theorem St.cell_of{σ:St}{id:AB}{a:AE AJ}{e:AQ}{b:AH}(h:σ.heap.get id=AC (.row a e b))(k:AB):σ.H.cell id k=a[k]?:=by simp[St.H,h,Fs]
theorem St.lv_of{σ:St}{id:AB}{o:AO}(h:σ.heap.get id=AC o):Lv σ.H id:=⟨_,St.hdr_of h⟩
structure R where
 v:AJ
 σ:St
 φ:Foot
structure AFr(σ σ':St)(φ:Foot):Prop where
 h:∀id,¬σ.rng σ' id->¬φ.Wi id->σ'.H.hdr id=σ.H.hdr id
 c:∀id k,¬σ.rng σ' id->¬φ.Wc id k->σ'.H.cell id k=σ.H.cell id k
 ok:σ'.Ok->σ.Ok
theorem AFr.refl(σ:St)(φ:Foot):AFr σ σ φ:=⟨λ_ _ _=>rfl,λ_ _ _ _=>rfl,λh=>h⟩
theorem AFr.new(σ:St)(o:AO)(φ:Foot):AFr σ (σ.new o) φ:=
 ⟨λid a _=>by rw[St.new_hdr,AY λe=>a (by subst e;simp[St.rng,St.new])],λid k a _=>by rw[St.new_cell,AY λe=>a (by subst e;simp[St.rng,St.new])],λh=>h⟩
theorem AFr.put{σ:St}{id:AB}{c b:AE AJ}{a:AQ}{φ:Foot}(d:σ.heap.get id=AC (.row c a AK))(f:b.length=c.length)(g:∀k,(id,k)∉φ.wc->b[k]?=c[k]?):
   AFr σ (σ.put id (AC (.row b a AK))) φ:=
 ⟨λj _ _=>by
   rw[St.put_hdr]
   split
   ·rename_i e;subst e;rw[St.hdr_of d];simp[AO.hd,f]
   ·rfl,
  λj k _ i=>by
   rw[St.put_cell]
   split
   ·rename_i e;subst e;rw[St.cell_of d];exact g k λl=>i (.inl l)
   ·rfl,λh=>h⟩
theorem AFr.whole{σ:St}{id:AB}{o:AP AO}{φ:Foot}(b:id∈φ.wh):AFr σ (σ.put id o) φ:=
 ⟨λj _ a=>by rw[St.put_hdr,AY λe=>a (by subst e;exact b)],λj k _ a=>by rw[St.put_cell,AY λe=>a (by subst e;exact .inr b)],λh=>h⟩
theorem AFr.giveUp{σ:St}{id:AB}{o:AO}{φ:Foot}(i:id∈φ.wh):AFr σ ((σ.put id AF).new o) φ:=by
 have a:=AFr.whole (σ:=σ) (o:=AF) (φ:=φ) i;have b:=AFr.new (σ.put id AF) o φ;have g:∀j,¬σ.rng ((σ.put id AF).new o) j->¬(σ.put id AF).rng ((σ.put id AF).new o) j:=λj l=>l
 have d:∀j,¬σ.rng (σ.put id AF) j:=λj=>by simp only[St.rng,St.put];omega
 exact⟨λj f e=>(b.h j (g j f) e).trans (a.h j (d j) e),λj k f e=>(b.c j k (g j f) e).trans (a.c j k (d j) e),λh=>h⟩
theorem AFr.trans{σ σ1 σ2:St}{φ ψ:Foot}(h1:AFr σ σ1 φ)(h2:AFr σ1 σ2 ψ)(f:σ.next<=σ1.next)(g:σ1.next<=σ2.next):AFr σ σ2 (φ.add ψ):=by
 have d:∀j,¬σ.rng σ2 j->¬σ.rng σ1 j:=λj=>by simp only[St.rng];omega
 have e:∀j,¬σ.rng σ2 j->¬σ1.rng σ2 j:=λj=>by simp only[St.rng];omega
 exact⟨λj a b=>(h2.h j (e j a) λx=>b (Foot.add_Wi.2 (.inr x))).trans (h1.h j (d j a) λx=>b (Foot.add_Wi.2 (.inl x))),
  λj k a b=>(h2.c j k (e j a) λx=>b (Foot.add_Wc.2 (.inr x))).trans (h1.c j k (d j a) λx=>b (Foot.add_Wc.2 (.inl x))),λh=>h1.ok (h2.ok h)⟩
def St.assume(σ:St)(p:AH):St:=⟨σ.heap,σ.next,p::σ.pc,σ.ora⟩
def St.decide(σ:St)(p:AH)(ds:AE AB):St:=⟨σ.heap,σ.next,p::σ.pc,ds⟩
theorem St.assume_ok{σ:St}{p:AH}:(σ.assume p).Ok↔p=AD/\σ.Ok:=Iff.rfl
theorem AFr.assume{σ σ':St}{φ:Foot}(a:AFr σ σ' φ)(p:AH):AFr σ (σ'.assume p) φ:=⟨a.h,a.c,λh=>a.ok h.2⟩
theorem AFr.decide{σ σ':St}{φ:Foot}(a:AFr σ σ' φ)(p:AH)(ds:AE AB):AFr σ (σ'.decide p ds) φ:=⟨a.h,a.c,λh=>a.ok h.2⟩
def Ab(P:Ao)(D:AB->Prop)(ι:AB->Reg)(σ:St)(w:AN)(e:Sem AJ)(r:R):Prop:=
 σ.next<=r.σ.next/\(σ.wf->r.σ.wf/\AFr σ r.σ r.φ)/\(σ.wf->(∀id,σ.rng r.σ id->¬D id)->HOn P D ι σ.H r.φ w->
  ∃v' ι' w',e.run P w=.ok v' w'/\VR (λi=>D i\/σ.rng r.σ i) ι' r.v v'/\Post P D (σ.rng r.σ) ι σ.H w r.φ ι' r.σ.H w')
theorem St.rng_self(σ:St)(id:AB):¬σ.rng σ id:=by simp only[St.rng];omega
theorem Post.same{P:Ao}{D N:AB->Prop}{ι:AB->Reg}{h:H}{w w':AN}{φ:Foot}(a:∀id,¬N id)(h1:w'.heap=w.heap)(h2:w'.os=w.os)(e:w'.output=w.output)(d:φ.wc=[])(c:φ.wh=[]):Post P D N ι h w φ ι h w' where
 io:=λ_ _=>rfl
 size:=by rw[h1];exact Ak _
 os:=h2
 out:=e
 hdr:=λid x hx=>by rcases hx with hx|hx;simp[Foot.Wi,c]at hx;exact Aq hx (a id)
 cel:=λid k v hx=>by rcases hx with hx|hx;simp[Foot.Wc,d,c]at hx;exact Aq hx (a id)
 ahdr:=λ_ _ _=>rfl
 acel:=λ_ _ _ _=>rfl
 cfr:=λb _ _=>by rw[h1];exact CR.refl _ _
 fresh:=λid hx=>Aq hx (a id)
 freshF:=λid hx=>Aq hx (a id)
 dist:=λi _ hx=>Aq hx (a i)
 nl:=λid hx=>Aq hx (a id)
 wl:=λid k hx=>by simp[Foot.Wc,d,c]at hx
 wrm:=λ_ _ hx=>hx
 wrow:=λid k hx=>by simp[Foot.Wc,d,c]at hx
theorem Ab.same{P:Ao}{D:AB->Prop}{ι:AB->Reg}{σ:St}{w w':AN}{e:Sem AJ}{v v':AJ}{φ:Foot}(h:HOn P D ι σ.H φ w->e.run P w=.ok v' w'/\VR D ι v v'/\w'.heap=w.heap/\w'.os=w.os/\w'.output=w.output)(a:φ.wc=[])(b:φ.wh=[]):
  Ab P D ι σ w e ⟨v,σ,φ⟩:=by
 refine⟨Ak _,λc=>⟨c,AFr.refl _ _⟩,λ_ _ d=> ?_⟩;obtain⟨h1,h2,f,g,i⟩:=h d;exact⟨v',ι,w',h1,h2.mono (λ_=>.inl) λ_ _=>rfl,Post.same (St.rng_self σ) f g i a b⟩
theorem Ab.pure{P:Ao}{D:AB->Prop}{ι:AB->Reg}{σ:St}{w:AN}{e:Sem AJ}{v v':AJ}(h:e.run P w=.ok v' w)(a:VR D ι v v'):Ab P D ι σ w e ⟨v,σ,.nil⟩:=
 Ab.same (λ_=>⟨h,a,rfl,rfl,rfl⟩) rfl rfl
def FR(ι:AB->Reg)(id:AB)(r:Reg):AB->Reg:=λj=>if j=id then r else ι j
theorem Am(ι:AB->Reg)(id:AB)(r:Reg):FR ι id r id=r:=by simp[FR]
theorem FS(ι:AB->Reg){id j:AB}(r:Reg)(h:j≠id):FR ι id r j=ι j:=by simp[FR,h]
theorem Kl(a b c d x:AB):¬(rg a b c d).Fz x:=by rintro⟨c,h⟩;simp[rg]at h
theorem SF{ι:AB->Reg}{id a b c d:AB}:(FR ι id (rg a b c d) id).own=AD/\∀x,¬(FR ι id (rg a b c d) id).Fz x:=by rw[Am];exact⟨rfl,Kl a b c d⟩
theorem St.rng_new{σ:St}{o:AO}{id:AB}:σ.rng (σ.new o) id↔id=σ.next:=by simp only[St.rng,St.new];omega
theorem BD(w:AN)(o:Obj){b:AB}(h:b<w.heap.size):(w.heap.push o)[b]?=w.heap[b]?:=by
 rw[RM,AY (by omega)]
theorem BN(w:AN)(o:Obj):(w.heap.push o)[w.heap.size]?=AC o:=by
 rw[RM,Ae rfl]
theorem Post.new{P:Ao}{D:AB->Prop}{ι:AB->Reg}{σ:St}{w w':AN}{m:AE AJ}{c:Aa AJ}{a:AQ}{fr:AB×AB}{esz:AB}{φ:Foot}(s:σ.wf)(t:¬D σ.next)(l:m.length<=c.size)(r:∀i,P.info? a=AC i->esz=i.size/\c.size%i.size=0)(u:∀o,o<c.size->¬(fr.1<=o/\o<fr.2))(y:∀(k:AB) v,m[k]?=AC v->∃v',c[k]?=AC v'/\VR D ι v v')(h1:w'.heap=w.heap.push (.cells c a fr))(h2:w'.os=w.os)(z:w'.output=w.output)(p:φ.wc=[])(n:φ.wh=[]):
  Post P D (σ.rng (σ.new (.row m a AK))) ι σ.H w φ (FR ι σ.next (rg w.heap.size 0 c.size esz)) (σ.new (.row m a AK)).H w' where
 io:=λid d=>FS _ _ λe=>d (St.rng_new.2 e)
 size:=by rw[h1];simp
 os:=h2
 out:=z
 hdr:=by
  rintro id x (hx|hx) e
  ·simp[Foot.Wi,n]at hx
  ·obtain rfl:=St.rng_new.1 hx;rw[St.new_hdr,Ae rfl]at e;cases e;simp only[BI,AO.hd,Am];exact⟨c,a,fr,by rw[h1];exact BN _ _,by simp[rg],l,⟨rfl,λb ⟨c,h⟩=>by simp[rg]at h⟩,λ_=>⟨rfl,λi g=>⟨(r i g).1,by simp[rg],(r i g).2⟩,u⟩⟩
 cel:=by
  rintro id k v (hx|hx) lv e
  ·simp[Foot.Wc,p,n]at hx
  ·obtain rfl:=St.rng_new.1 hx;rw[St.new_cell,Ae rfl]at e;obtain⟨v',A,B⟩:=y k v e;refine⟨by rw[Am];rfl,v',?_,B.mono (λ_=>.inl) λi g=>FS _ _ λe=>t (e▸g)⟩;simp only[C0,Am,h1,rg,BN,Df,CI,BR,Nat.zero_add];exact A
 ahdr:=λid d _=>by rw[St.new_hdr,AY λe=>d (St.rng_new.2 e)]
 acel:=λid k d _=>by rw[St.new_cell,AY λe=>d (St.rng_new.2 e)]
 cfr:=λb f _=>by rw[h1,BD _ _ f];exact CR.refl _ _
 fresh:=λid d _ b f=>by
  obtain rfl:=St.rng_new.1 d;rw[Am]at f;obtain⟨_,rfl⟩:=f;left;rw[h1];simp[rg]
 freshF:=λid d _ b f=>by
  obtain rfl:=St.rng_new.1 d;rw[Am]at f;obtain⟨_,f⟩:=f;simp[rg]at f
 dist:=λi j g C _ _ q=>by
  obtain rfl:=St.rng_new.1 g;exact Aq (St.rng_new.1 C).symm q
 nl:=λid d=>by
  obtain rfl:=St.rng_new.1 d;simp[St.H,s σ.next (Ak _)]
 wl:=λid k hx=>by simp[Foot.Wc,p,n]at hx
 wrm:=λid d hx=>by
  refine hx.of_hdr ?_;rw[St.new_hdr,AY λe=>d (St.rng_new.2 e)]
 wrow:=λid k hx=>by simp[Foot.Wc,p,n]at hx
theorem Post.newIter{P:Ao}{D:AB->Prop}{ι:AB->Reg}{σ:St}{w:AN}{s:Cg}{f:AB}(l:σ.wf):
  Post P D (σ.rng (σ.new (.iter s f))) ι σ.H w .nil (FR ι σ.next (rg w.heap.size 0 0 0)) (σ.new (.iter s f)).H { w with heap:=w.heap.push (.stringIter s f)} where
 io:=λid a=>FS _ _ λe=>a (St.rng_new.2 e)
 size:=by simp
 os:=AL
 out:=AL
 hdr:=by
  rintro id x (hx|hx) e
  ·cases hx
  ·obtain rfl:=St.rng_new.1 hx;rw[St.new_hdr,Ae rfl]at e;cases e;simp only[BI,AO.hd,Am];exact⟨BN _ _,rfl,rfl,λb ⟨c,h⟩=>by simp[rg]at h⟩
 cel:=by
  rintro id k v (hx|hx) lv e
  ·rcases hx with hx|hx<;>cases hx
  ·obtain rfl:=St.rng_new.1 hx;rw[St.new_cell,Ae rfl]at e;cases e
 ahdr:=λid a _=>by rw[St.new_hdr,AY λe=>a (St.rng_new.2 e)]
 acel:=λid k a _=>by rw[St.new_cell,AY λe=>a (St.rng_new.2 e)]
 cfr:=λb d _=>by rw[BD _ _ d];exact CR.refl _ _
 fresh:=λid a _ b d=>by
  obtain rfl:=St.rng_new.1 a;rw[Am]at d;obtain⟨_,rfl⟩:=d;left;simp[rg]
 freshF:=λid a _ b d=>by
  obtain rfl:=St.rng_new.1 a;rw[Am]at d;obtain⟨_,d⟩:=d;simp[rg]at d
 dist:=λi j m n _ _ g=>by
  obtain rfl:=St.rng_new.1 m;exact Aq (St.rng_new.1 n).symm g
 nl:=λid a=>by
  obtain rfl:=St.rng_new.1 a;simp[St.H,l σ.next (Ak _)]
 wl:=λid k hx=>by rcases hx with hx|hx<;>cases hx
 wrm:=λid a hx=>by
  refine hx.of_hdr ?_;rw[St.new_hdr,AY λe=>a (St.rng_new.2 e)]
 wrow:=λid k hx=>by rcases hx with hx|hx<;>cases hx
theorem Post.setIter{P:Ao}{D:AB->Prop}{ι:AB->Reg}{σ:St}{w:AN}{s:Cg}{d a id:AB}(f:σ.heap.get id=AC (.iter s d))(hd:BI P ι id w (.iter s d)):
  Post P D (σ.rng (σ.put id (AC (.iter s a)))) ι σ.H w ⟨[],[],[],[id]⟩ ι (σ.put id (AC (.iter s a))).H { w with heap:=w.heap.setIfInBounds (ι id).blk (.stringIter s a)} where
 io:=λ_ _=>rfl
 size:=by simp
 os:=AL
 out:=AL
 hdr:=by
  rintro j x (hx|hx) e
  ·have:j=id:=by simpa[Foot.Wi]using hx
   subst this;rw[St.put_hdr,Ae rfl]at e;cases e;refine⟨?_,hd.2⟩;have:=BX hd.1;simp[this]
  ·simp only[St.rng,St.put]at hx;omega
 cel:=by
  rintro j k v (hx|hx) lv e
  ·have:j=id:=by simpa[Foot.Wc]using hx
   subst this;rw[St.put_cell,Ae rfl]at e;cases e
  ·simp only[St.rng,St.put]at hx;omega
 ahdr:=λj _ hx=>by rw[St.put_hdr,AY λe=>hx (by simp[Foot.Wi,e])]
 acel:=λj k _ hx=>by rw[St.put_cell,AY λe=>hx (by simp[Foot.Wc,e])]
 cfr:=λb g hx=>by
  have:(ι id).blk≠b:=λe=>hx id (by simp[Foot.Wi]) ⟨_,St.hdr_of f,trivial⟩ ⟨hd.2.2.1,e⟩
  simp only[Uv,AY this];exact CR.refl _ _
 fresh:=λj c=>by simp only[St.rng,St.put]at c;omega
 freshF:=λj c=>by simp only[St.rng,St.put]at c;omega
 dist:=λi j c=>by simp only[St.rng,St.put]at c;omega
 nl:=λj c=>by simp only[St.rng,St.put]at c;omega
 wl:=λj k hx _=>by
  have:j=id:=by simpa[Foot.Wc]using hx
  subst this;exact St.lv_of f
 wrm:=λj _ hx=>by
  by_cases e:j=id
  ·subst e;exact⟨_,St.hdr_of f,trivial⟩
  ·exact hx.of_hdr (by rw[St.put_hdr,AY e])
 wrow:=λj k hx c=>Aq (by rcases hx with hx|hx;cases hx;exact hx) c
def Cp:Aa AJ->AB->AE AJ->Aa AJ
 |c,_,[]=>c
 |c,o,v::vs=>Cp (c.setIfInBounds o v) (o+1) vs
theorem Ad:∀(vs:AE AJ) (c:Aa AJ) (o:AB),(Cp c o vs).size=c.size
 |[],_,_=>rfl
 |v::vs,c,o=>by rw[Cp,Ad vs];simp
theorem DL:∀(vs:AE AJ) (c:Aa AJ) (o k:AB),o+vs.length<=c.size->(Cp c o vs)[k]?=if o<=k/\k<o+vs.length then vs[k-o]? else c[k]?
 |[],c,o,k,_=>by rw[Cp,AY (by simp only[List.length_nil];omega)]
 |v::vs,c,o,k,h=>by
  simp only[B7]at h⊢;rw[Cp,DL vs _ _ _ (by simp;omega)];by_cases b:k=o
  ·subst b;rw[AY (by omega),Ae (by omega)];simp only[Uv,Ae,Nat.sub_self,List.getElem?_cons_zero];rw[Ae (by omega)]
  ·by_cases a:o<=k/\k<o+(vs.length+1)
   ·rw[Ae (by omega),Ae a,show k-o=(k-(o+1))+1 by omega,List.getElem?_cons_succ]
   ·rw[AY (by omega),AY a,FG (by omega)]
def WQ:AE AJ->AH
 |[.chan (AC (_+1)),_]=>AD
 |_=>AK
def oneC:AJ->AH
 | .agg _| .chan (AC _)=>AK
 | .tuple a=>WQ a.toList
 |_=>AD
def kt:AJ->AH
 | .agg _| .tuple _| .chan (AC _)=>AK
 |_=>AD
theorem KS{v:AJ}(h:kt v=AD):v.oneCell'=true:=by cases v<;>first|rfl|cases h
theorem VR.no_chan{D:AB->Prop}{ι:AB->Reg}{v':AJ}{n:AB}(h:VR D ι (.chan (AC (n+1))) v'):False:=by cases h
theorem ANm{l:AE AJ}(h:WQ l=AD):∃n v,l=[.chan (AC (n+1)),v]:=by
 unfold WQ at h
 split at h
 ·exact⟨_,_,rfl⟩
 ·cases h
theorem VR.oneC{D:AB->Prop}{ι:AB->Reg}{v v':AJ}(h:VR D ι v v')(h1:oneC v=AD):kt v'=true:=by
 cases h with
 |sym _ h=>cases v'<;>first|rfl|cases h
 |err _ _ h=>cases v'<;>first|rfl|cases h
 |aint _ _=>rfl
 |tuple as bs b h=>
  obtain⟨n,v,c⟩:=ANm h1;have a:as[0]?=AC (.chan (AC (n+1))):=by rw[<-Array.getElem?_toList,c];rfl
  have d:bs[0]?=AC (bs[0]'(by rw[<-b];rcases Cf 0 as.size with h|h;exact h;rw[Jt h]at a;cases a)):=CX _;exact(h 0 _ _ a d).no_chan.elim
 |_=>first|rfl|cases h1
theorem Ft(P:Ao)(b o:AB)(e:AQ)(fr:AB×AB):∀(vs:AE AJ) (i:AB) (c:Aa AJ) (w:AN),w.heap[b]?=AC (.cells c e fr)->o+i+vs.length<=c.size->
  (∀v∈vs,kt v=AD)->(∀j,j<c.size->¬(fr.1<=j/\j<fr.2))->
  (Mv ⟨b,o,AF⟩ vs i).run P w=.ok () { w with heap:=w.heap.setIfInBounds b (.cells (Cp c (o+i) vs) e fr)}
 |[],i,c,w,h,_,_,_=>by
  have:w.heap.setIfInBounds b (.cells c e fr)=w.heap:=by
   apply PH;intro j;rw[Uv]
   split
   ·rename_i f;subst f
    split
    ·exact h.symm
    ·rename_i t;rw[Jt (by omega)]
   ·rfl
  simp only[Mv,Cp,this];rfl
 |v::vs,i,c,w,h,m,h1,k=>by
  simp only[B7]at m;have a:(⟨b,o,AF⟩:Addr).add i=⟨b,o+i,AF⟩:=by
   unfold Addr.add;split
   ·rename_i n;subst n;rfl
   ·rfl
  have p:w.cell? ⟨b,o+i,AF⟩=AC (c[o+i]'(by omega)):=by
   simp only[C0,h,Df,CI,BR];exact CX (by omega)
  have g:w.frozen? ⟨b,o+i,AF⟩=false:=by
   have:=k (o+i) (by omega);simp only[World.frozen?,h];simpa using this
  have hst:=run_store P w ⟨b,o+i,AF⟩ v .plain (KS (h1 v (by simp)));rw[p]at hst;simp only[g,CI,BR]at hst;have l:b<w.heap.size:=by
   rcases Cf b w.heap.size with q|r
   ·exact q
   ·rw[Jt r]at h;cases h
  have d:w.setCell ⟨b,o+i,AF⟩ v={ w with heap:=w.heap.setIfInBounds b (.cells (c.setIfInBounds (o+i) v) e fr)}:=by
   simp only[World.setCell];congr 1;apply PH;intro j;rw[Array.getElem?_modify,Uv]
   split
   ·rename_i f;subst f
    first|(rw[h];rfl)|simp[h,l]
   ·rfl
  simp only[Mv,Sem.run_bind,a,hst,Result.andThen_ok,d];rw[Ft P b o e fr vs (i+1) (c.setIfInBounds (o+i) v) _ (by simp[l]) (by simp;omega) (λx s=>h1 x (by simp[s])) (by simpa using k)];simp only[Cp,Array.setIfInBounds_setIfInBounds];rfl
theorem Post.write{P:Ao}{D:AB->Prop}{ι:AB->Reg}{σ:St}{w w':AN}{id:AB}{r d:AE AJ}{c i:Aa AJ}{a:AQ}{fr:AB×AB}{rc wc:AE (AB×AB)}{rh:AE AB}(m:σ.heap.get id=AC (.row r a AK))(hd:BI P ι id w (.row r.length a AK))(u:w.heap[(ι id).blk]?=AC (.cells c a fr))(h1:w'.heap=w.heap.setIfInBounds (ι id).blk (.cells i a fr))(h2:w'.os=w.os)(y:w'.output=w.output)(z:i.size=c.size)(A:d.length=r.length)(s:∀p,p∈wc->p.1=id)(g:∀o,(∀k,(id,k)∈wc->(ι id).base+k≠o)->i[o]?=c[o]?)(h:∀k v,(id,k)∈wc->d[k]?=AC v->∃v',i[(ι id).base+k]?=AC v'/\VR D ι v v')(B:∀k,(id,k)∉wc->d[k]?=r[k]?):
  Post P D (σ.rng (σ.put id (AC (.row d a AK)))) ι σ.H w ⟨rc,rh,wc,[]⟩ ι (σ.put id (AC (.row d a AK))).H w':=by
 have t:=hd.lt (.inl hd.own_row);have f:w'.heap[(ι id).blk]?=AC (.cells i a fr):=by rw[h1];simp[t]
 have l:∀j,¬σ.rng (σ.put id (AC (.row d a AK))) j:=λj=>by simp only[St.rng,St.put];omega
 have n:∀j,(σ.put id (AC (.row d a AK))).H.hdr j=σ.H.hdr j:=λj=>by
  rw[St.put_hdr]
  split
  ·rename_i e;subst e;rw[St.hdr_of m];simp[AO.hd,A]
  ·rfl
 have hid:∀j k,(⟨rc,rh,wc,[]⟩:Foot).Wc j k->j=id/\(j,k)∈wc:=λj k hx=>by
  have:(j,k)∈wc:=by simpa[Foot.Wc]using hx
  exact⟨s _ this,this⟩
 exact {
  io:=λ_ _=>rfl
  size:=by rw[h1];simp
  os:=h2
  out:=y
  hdr:=λj x hx=>by rcases hx with hx|hx;simp[Foot.Wi]at hx;exact Aq hx (l j)
  cel:=by
   rintro j k v (hx|hx) lv e
   ·obtain⟨rfl,q⟩:=hid j k hx;rw[St.put_cell,Ae rfl]at e;obtain⟨v',C,E⟩:=h k v q e;exact⟨hd.own_row.1,v',by simp only[C0,f,Df,CI,BR];exact C,E.mono (λ_=>.inl) λ_ _=>rfl⟩
   ·exact Aq hx (l j)
  ahdr:=λj _ _=>n j
  acel:=λj k _ hx=>by
   rw[St.put_cell]
   split
   ·rename_i e;subst e;rw[St.cell_of m];exact B k λq=>hx (.inl q)
   ·rfl
  cfr:=λb F _=>by
   by_cases e:b=(ι id).blk
   ·subst e;rw[u,f];refine⟨i,rfl,z,λo G=>g o λk q I=>G ⟨id,k,.inl q,⟨_,St.hdr_of m,rfl⟩,hd.own_row,I⟩⟩
   ·rw[h1,FG (ES e)];exact CR.refl _ _
  fresh:=λj hx=>Aq hx (l j)
  freshF:=λj hx=>Aq hx (l j)
  dist:=λj _ hx=>Aq hx (l j)
  nl:=λj hx=>Aq hx (l j)
  wl:=λj k hx _=>by
   obtain⟨rfl,_⟩:=hid j k hx;exact St.lv_of m
  wrm:=λj _ hx=>hx.of_hdr (n j)
  wrow:=λj k hx _ _=>by
   obtain⟨rfl,_⟩:=hid j k hx;exact⟨_,_,_,St.hdr_of m⟩}
theorem Post.giveUp{P:Ao}{D:AB->Prop}{ι:AB->Reg}{σ:St}{w w':AN}{id:AB}{A c:AE AJ}{a:AQ}{r:Reg}{rc:AE (AB×AB)}{rh:AE AB}(y:σ.wf)(q:σ.heap.get id=AC (.row A a AK))(h1:∀b,b<w.heap.size->b≠(ι id).blk->w'.heap[b]?=w.heap[b]?)(h2:w'.os=w.os)(B:w'.output=w.output)(C:w.heap.size<=w'.heap.size)(E:BI P (FR ι σ.next r) σ.next w' (.row c.length a AK))(F:∀(k:AB) v,c[k]?=AC v->Cl D (FR ι σ.next r) σ.next w' k v)(G:(w.heap.size<=r.blk/\r.blk<w'.heap.size)\/r.blk=(ι id).blk)(z:(ι id).own=AD)(s:∀b,¬r.Fz b):
  Post P D (σ.rng ((σ.put id AF).new (.row c a AK))) ι σ.H w ⟨rc,rh,[],[id]⟩ (FR ι σ.next r) ((σ.put id AF).new (.row c a AK)).H w':=by
 have hid:id<σ.next:=St.lv_lt y (St.lv_of q);have f:∀j,σ.rng ((σ.put id AF).new (.row c a AK)) j↔j=σ.next:=λj=>by simp only[St.rng,St.put,St.new];omega
 have n:(σ.put id AF).next=σ.next:=AL;have g:∀j,((σ.put id AF).new (.row c a AK)).H.hdr j=if j=σ.next then AC (.row c.length a AK)else if j=id then AF else σ.H.hdr j:=λj=>by
  rw[St.new_hdr,n,St.put_hdr];rfl
 have o:∀j k,((σ.put id AF).new (.row c a AK)).H.cell j k=if j=σ.next then c[k]? else if j=id then AF else σ.H.cell j k:=λj k=>by
  rw[St.new_cell,n,St.put_cell];rfl
 have t:∀j,(⟨rc,rh,[],[id]⟩:Foot).Wi j->j=id:=λj hx=>by simpa[Foot.Wi]using hx
 have p:∀j k,(⟨rc,rh,[],[id]⟩:Foot).Wc j k->j=id:=λj k hx=>by simpa[Foot.Wc]using hx
 have d:¬Lv ((σ.put id AF).new (.row c a AK)).H id:=by
  rintro⟨x,hx⟩;rw[g,AY (by omega),Ae rfl]at hx;cases hx
 exact {
  io:=λj hx=>FS _ _ λe=>hx ((f j).2 e)
  size:=C
  os:=h2
  out:=B
  hdr:=by
   rintro j x (hx|hx) e
   ·obtain rfl:=t j hx;exact Aq ⟨x,e⟩ d
   ·obtain rfl:=(f j).1 hx;rw[g,Ae rfl]at e;cases e;exact E
  cel:=by
   rintro j k v (hx|hx) lv e
   ·obtain rfl:=p j k hx;exact Aq lv d
   ·obtain rfl:=(f j).1 hx;rw[o,Ae rfl]at e;exact(F k v e).more λ_=>.inl
  ahdr:=λj hx l=>by rw[g,AY λe=>hx ((f j).2 e),AY λe=>l (by simp[Foot.Wi,e])]
  acel:=λj k hx l=>by rw[o,AY λe=>hx ((f j).2 e),AY λe=>l (by simp[Foot.Wc,e])]
  cfr:=λb m hx=>by
   have:(ι id).blk≠b:=λe=>hx id (by simp[Foot.Wi]) ⟨_,St.hdr_of q,rfl⟩ ⟨z,e⟩
   rw[h1 b m this.symm];exact CR.refl _ _
  fresh:=λj hx _ b m=>by
   obtain rfl:=(f j).1 hx;rw[Am]at m;obtain⟨_,rfl⟩:=m;exact G.imp_right λe=>⟨id,by simp[Foot.Wi],λh=>by have:=(f id).1 h;omega,⟨_,St.hdr_of q,rfl⟩,d,z,e.symm⟩
  freshF:=λj hx _ b m=>by
   obtain rfl:=(f j).1 hx;rw[Am]at m;exact Aq m (s b)
  dist:=λi j I J _ _ u=>Aq (((f i).1 I).trans ((f j).1 J).symm) u
  nl:=λj hx=>by
   obtain rfl:=(f j).1 hx;simp[St.H,y σ.next (Ak _)]
  wl:=λj k hx _=>by
   obtain rfl:=p j k hx;exact St.lv_of q
  wrm:=λj hx l=>by
   refine l.of_hdr ?_;rw[g,AY λe=>hx ((f j).2 e)]
   split
   ·rename_i e;subst e;exact Aq l.lv d
   ·rfl
  wrow:=λj k hx l=>Aq (by rcases hx with hx|hx;cases hx;exact hx) l}
