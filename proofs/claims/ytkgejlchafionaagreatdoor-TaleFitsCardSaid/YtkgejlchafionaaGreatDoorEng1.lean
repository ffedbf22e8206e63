/-
  The engine, part 1: an abstract evaluator over the model's code, proved sound. No condition.
-/
import Derived.Orders
import Derived.KernelRfl
import Derived.Laws.Sem
import Derived.Laws.Cells
class QA{α:Type}(b:α)(a:outParam α):Prop where
  h:b=a
instance{α:Type}(b:α):QA b b:=⟨rfl⟩
abbrev L8:=List UInt8
section
noncomputable section
namespace Go.Eng
open Go
inductive Tr (α:Type) where
 |lf:Tr α
 |nd:Option α->Tr α->Tr α->Tr α
def Tr.get {α:Type} (t:Tr α):Nat->Option α:=
 Tr.rec (motive:=λ_=>Nat->Option α) (λ_=>none) (λv _ _ gl a k=>Nat.rec v (λm _=>Nat.rec (gl (Nat.div m 2)) (λ_ _=>a (Nat.div m 2)) (Nat.mod m 2)) k) t
def Tr.single {α:Type} (x:Option α):Nat->Nat->Tr α:=
 λn=>Nat.rec (motive:=λ_=>Nat->Tr α) (λ_=>.lf) (λ_ a k=>Nat.rec (.nd x .lf .lf) (λm _=>Nat.rec (.nd none (a (Nat.div m 2)) .lf) (λ_ _=>.nd none .lf (a (Nat.div m 2))) (Nat.mod m 2)) k) n
def Tr.set {α:Type} (t:Tr α) (k:Nat) (x:Option α):Tr α:=
 Tr.rec (motive:=λ_=>Nat->Tr α) (λk=>Tr.single x (Nat.succ k) k) (λv l r a b k=>Nat.rec (.nd x l r) (λm _=>Nat.rec (.nd v (a (Nat.div m 2)) r) (λ_ _=>.nd v l (b (Nat.div m 2))) (Nat.mod m 2)) k) t k
theorem Cc {a b:Nat} (h:a=b):Nat.beq a b=true:=by subst h;simp
theorem UG {a b:Nat} (h:a≠b):Nat.beq a b=false:=by
 cases c:Nat.beq a b
 ·rfl
 ·exact absurd (Nat.eq_of_beq_eq_true c) h
theorem Tr.get_lf {α:Type} (k:Nat):(Tr.lf:Tr α).get k=none:=rfl
theorem Tr.get_0 {α:Type} (v:Option α) (l r:Tr α):(Tr.nd v l r).get 0=v:=rfl
theorem zI (m:Nat):(∃q,m=2*q/\Nat.mod m 2=0/\Nat.div m 2=q)\/∃q,m=2*q+1/\Nat.mod m 2=1/\Nat.div m 2=q:=by
 rcases Nat.mod_two_eq_zero_or_one m with h|h
 ·exact .inl ⟨m/2,by omega,h,rfl⟩
 ·exact .inr ⟨m/2,by omega,h,rfl⟩
theorem Tr.get_l {α:Type} (v:Option α) (l r:Tr α) (q:Nat):(Tr.nd v l r).get (2*q+1)=l.get q:=by
 show(Nat.rec (l.get (Nat.div (2*q) 2)) (λ_ _=>r.get (Nat.div (2*q) 2)) (Nat.mod (2*q) 2):Option α)=_;rw[show Nat.mod (2*q) 2=0 from Nat.mul_mod_right 2 q,show Nat.div (2*q) 2=q by show 2*q/2=q;omega];rfl
theorem Tr.get_r {α:Type} (v:Option α) (l r:Tr α) (q:Nat):(Tr.nd v l r).get (2*q+2)=r.get q:=by
 show(Nat.rec (l.get (Nat.div (2*q+1) 2)) (λ_ _=>r.get (Nat.div (2*q+1) 2)) (Nat.mod (2*q+1) 2):Option α)=_;rw[show Nat.mod (2*q+1) 2=1 by show(2*q+1)%2=1;omega,show Nat.div (2*q+1) 2=q by show(2*q+1)/2=q;omega];rfl
theorem Tr.case (k:Nat):k=0\/(∃q,k=2*q+1/\q<k)\/∃q,k=2*q+2/\q<k:=by
 rcases k with _|m
 ·exact .inl rfl
 ·rcases zI m with⟨q,h,_⟩|⟨q,h,_⟩
  ·exact .inr (.inl ⟨q,by omega,by omega⟩)
  ·exact .inr (.inr ⟨q,by omega,by omega⟩)
theorem Tr.single_0 {α:Type} (x:Option α) (n:Nat):Tr.single x (n+1) 0=.nd x .lf .lf:=rfl
theorem Tr.single_l {α:Type} (x:Option α) (n q:Nat):Tr.single x (n+1) (2*q+1)=.nd none (Tr.single x n q) .lf:=by
 show(Nat.rec (.nd none (Tr.single x n (Nat.div (2*q) 2)) .lf) (λ_ _=>.nd none .lf (Tr.single x n (Nat.div (2*q) 2))) (Nat.mod (2*q) 2):Tr α)=_;rw[show Nat.mod (2*q) 2=0 from Nat.mul_mod_right 2 q,show Nat.div (2*q) 2=q by show 2*q/2=q;omega];rfl
theorem Tr.single_r {α:Type} (x:Option α) (n q:Nat):Tr.single x (n+1) (2*q+2)=.nd none .lf (Tr.single x n q):=by
 show(Nat.rec (.nd none (Tr.single x n (Nat.div (2*q+1) 2)) .lf) (λ_ _=>.nd none .lf (Tr.single x n (Nat.div (2*q+1) 2))) (Nat.mod (2*q+1) 2):Tr α)=_;rw[show Nat.mod (2*q+1) 2=1 by show(2*q+1)%2=1;omega,show Nat.div (2*q+1) 2=q by show(2*q+1)/2=q;omega];rfl
theorem Tr.single_get {α:Type} (x:Option α):∀(n k j:Nat),k<n->(Tr.single x n k).get j=if j=k then x else none
 |0,_,_,h=>by omega
 |n+1,k,j,h=>by
  rcases Tr.case k with rfl|⟨q,rfl,a⟩|⟨q,rfl,a⟩
  ·rw[Tr.single_0];rcases Tr.case j with rfl|⟨p,rfl,_⟩|⟨p,rfl,_⟩
   ·rfl
   ·rw[Tr.get_l,Tr.get_lf,if_neg (by omega)]
   ·rw[Tr.get_r,Tr.get_lf,if_neg (by omega)]
  ·rw[Tr.single_l];rcases Tr.case j with rfl|⟨p,rfl,_⟩|⟨p,rfl,_⟩
   ·rw[Tr.get_0,if_neg (by omega)]
   ·rw[Tr.get_l,Tr.single_get x n q p (by omega)];by_cases e:p=q
    ·rw[if_pos e,if_pos (by omega)]
    ·rw[if_neg e,if_neg (by omega)]
   ·rw[Tr.get_r,Tr.get_lf,if_neg (by omega)]
  ·rw[Tr.single_r];rcases Tr.case j with rfl|⟨p,rfl,_⟩|⟨p,rfl,_⟩
   ·rw[Tr.get_0,if_neg (by omega)]
   ·rw[Tr.get_l,Tr.get_lf,if_neg (by omega)]
   ·rw[Tr.get_r,Tr.single_get x n q p (by omega)];by_cases e:p=q
    ·rw[if_pos e,if_pos (by omega)]
    ·rw[if_neg e,if_neg (by omega)]
theorem Tr.set_0 {α:Type} (v:Option α) (l r:Tr α) (x:Option α):(Tr.nd v l r).set 0 x=.nd x l r:=rfl
theorem Tr.set_l {α:Type} (v:Option α) (l r:Tr α) (x:Option α) (q:Nat):(Tr.nd v l r).set (2*q+1) x=.nd v (l.set q x) r:=by
 show(Nat.rec (.nd v (l.set (Nat.div (2*q) 2) x) r) (λ_ _=>.nd v l (r.set (Nat.div (2*q) 2) x)) (Nat.mod (2*q) 2):Tr α)=_;rw[show Nat.mod (2*q) 2=0 from Nat.mul_mod_right 2 q,show Nat.div (2*q) 2=q by show 2*q/2=q;omega];rfl
theorem Tr.set_r {α:Type} (v:Option α) (l r:Tr α) (x:Option α) (q:Nat):(Tr.nd v l r).set (2*q+2) x=.nd v l (r.set q x):=by
 show(Nat.rec (.nd v (l.set (Nat.div (2*q+1) 2) x) r) (λ_ _=>.nd v l (r.set (Nat.div (2*q+1) 2) x)) (Nat.mod (2*q+1) 2):Tr α)=_;rw[show Nat.mod (2*q+1) 2=1 by show(2*q+1)%2=1;omega,show Nat.div (2*q+1) 2=q by show(2*q+1)/2=q;omega];rfl
theorem Tr.set_get {α:Type} (t:Tr α):∀(k j:Nat) (x:Option α),(t.set k x).get j=if j=k then x else t.get j:=by
 induction t with
 |lf=>
  intro k j x;show(Tr.single x (Nat.succ k) k).get j=_;rw[Tr.single_get x _ _ _ (Nat.lt_succ_self k),Tr.get_lf]
 |nd v l r a b=>
  intro k j x;rcases Tr.case k with rfl|⟨q,rfl,_⟩|⟨q,rfl,_⟩
  ·rw[Tr.set_0];rcases Tr.case j with rfl|⟨p,rfl,_⟩|⟨p,rfl,_⟩
   ·rfl
   ·rw[Tr.get_l,Tr.get_l,if_neg (by omega)]
   ·rw[Tr.get_r,Tr.get_r,if_neg (by omega)]
  ·rw[Tr.set_l];rcases Tr.case j with rfl|⟨p,rfl,_⟩|⟨p,rfl,_⟩
   ·rw[Tr.get_0,Tr.get_0,if_neg (by omega)]
   ·rw[Tr.get_l,Tr.get_l,a];by_cases e:p=q
    ·rw[if_pos e,if_pos (by omega)]
    ·rw[if_neg e,if_neg (by omega)]
   ·rw[Tr.get_r,Tr.get_r,if_neg (by omega)]
  ·rw[Tr.set_r];rcases Tr.case j with rfl|⟨p,rfl,_⟩|⟨p,rfl,_⟩
   ·rw[Tr.get_0,Tr.get_0,if_neg (by omega)]
   ·rw[Tr.get_l,Tr.get_l,if_neg (by omega)]
   ·rw[Tr.get_r,Tr.get_r,b];by_cases e:p=q
    ·rw[if_pos e,if_pos (by omega)]
    ·rw[if_neg e,if_neg (by omega)]
inductive Ty where
 |int (k:IntKind)
 |byte
 |bool
 |str
 |unit
 |pair (a b:Ty)
 |slice (a:Ty)
 |err
 |fn (f:Nat)
 |fv
 |f64
 |cx
 |ref (a:Ty)
 |clo (f:Nat) (a:Ty)
 deriving DecidableEq
@[reducible] def Ty.Den:Ty->Type
 | .int _=>Int
 | .byte=>UInt8
 | .bool=>Bool
 | .str=>L8
 | .unit=>Unit
 | .pair a b=>a.Den×b.Den
 | .slice a=>List a.Den
 | .err=>Bool
 | .fn _=>Unit
 | .fv=>Nat
 | .f64=>Nat
 | .cx=>Nat×Nat
 | .ref a=>a.Den
 | .clo _ a=>a.Den
def Ty.sz:Ty->Nat
 | .unit=>0
 | .pair a b=>a.sz+b.sz
 |_=>1
def bs (l:L8):ByteArray:=⟨⟨l⟩⟩
def ew (b:Bool):Value->Bool
 | .nilIface=>b
 | .iface _ _=> !b
 |_=>false
def Bj (fz:Nat->Option (Array Value)):(t:Ty)->t.Den->List Value->Prop
 | .int k,n,d=>d=[.int k n]
 | .byte,b,d=>d=[.int .u8 b.toNat]
 | .bool,b,d=>d=[.bool b]
 | .str,s,d=>d=[.string (bs s)]
 | .unit,_,d=>d=[]
 | .pair a b,x,d=>∃c1 c2,d=c1++c2/\Bj fz a x.1 c1/\Bj fz b x.2 c2
 | .slice a,g,d=>(∃sv,d=[sv]/\(((∃q c,sv=.slice q 0 c)/\g=[])\/∃(b o c:Nat) (e:Array Value),sv=.slice (some ⟨b,o,none⟩) g.length c/\fz b=some e/\o+g.length*a.sz<=e.size/\g.length<=c/\
  ∀i x,g[i]?=some x->Bj fz a x ((e.toList.drop (o+i*a.sz)).take a.sz)))
 | .err,b,d=>∃v,d=[v]/\ew b v=true
 | .fn f,_,d=>d=[.func (.func f) #[] #[]]
 | .fv,f,d=>d=[.func (.func f) #[] #[]]
 | .f64,n,d=>d=[.float .f64 n]
 | .cx,x,d=>d=[.complex .f64 x.1 x.2]
 | .ref a,x,d=>∃(b o:Nat) (e:Array Value),d=[.pointer (some ⟨b,o,none⟩)]/\fz b=some e/\o+a.sz<=e.size/\Bj fz a x ((e.toList.drop o).take a.sz)
 | .clo f a,x,d=>∃h:List Value,d=[.func (.func f) #[] h.toArray]/\Bj fz a x h
def gy (fz:Nat->Option (Array Value)) (t:Ty) (d:List t.Den) (sv:Value):Prop:=
 ((∃q c,sv=.slice q 0 c)/\d=[])\/∃(b o c:Nat) (a:Array Value),sv=.slice (some ⟨b,o,none⟩) d.length c/\fz b=some a/\o+d.length*t.sz<=a.size/\d.length<=c/\
    ∀i x,d[i]?=some x->Bj fz t x ((a.toList.drop (o+i*t.sz)).take t.sz)
def Co (fz:Nat->Option (Array Value)) (t:Ty) (b:List t.Den) (a:List Value):Prop:=
 ∀i x,b[i]?=some x->i*t.sz+t.sz<=a.length/\Bj fz t x ((a.drop (i*t.sz)).take t.sz)
@[reducible] def AA:List Ty->Type
 |[]=>Unit
 |t::ts=>t.Den×AA ts
structure PSpec where
 ts:List Ty
 rs:List Ty
 pre:AA ts->Bool
 g:AA ts->AA rs
def Ty.agg:Ty->Bool
 | .unit=>true
 | .pair _ _=>true
 |_=>false
def mT (fz:Nat->Option (Array Value)) (t:Ty) (x:t.Den) (v:Value):Prop:=(t.agg=true/\∃a,v=.agg a/\Bj fz t x a.toList)\/(t.agg=false/\Bj fz t x [v])
def Bc (fz:Nat->Option (Array Value)):(ts:List Ty)->AA ts->List Value->Prop
 |[],_,vs=>vs=[]
 |t::ts,x,vs=>∃v r,vs=v::r/\mT fz t x.1 v/\Bc fz ts x.2 r
def De:List Value->Value
 |[v]=>v
 |vs=>.tuple vs.toArray
theorem Bj.mono {fz j:Nat->Option (Array Value)} (h:∀b c,fz b=some c->j b=some c):∀(t:Ty) (x:t.Den) (g:List Value),Bj fz t x g->Bj j t x g:=by
 intro t
 induction t with
 |pair a b n p=>
  intro x g d;simp only[Bj] at d⊢;obtain⟨c1,c2,rfl,h1,h2⟩:=d;exact⟨c1,c2,rfl,n _ _ h1,p _ _ h2⟩
 |slice a k=>
  intro x g d;simp only[Bj] at d⊢;obtain⟨sv,rfl,d⟩:=d;refine⟨sv,rfl,d.imp_right ?_⟩;rintro⟨b,o,c,e,l,m,q,r,s⟩;exact⟨b,o,c,e,l,h b e m,q,r,λi x u=>k _ _ (s i x u)⟩
 |ref a k=>
  intro x g d;simp only[Bj] at d⊢;obtain⟨b,o,e,l,m,q,r⟩:=d;exact⟨b,o,e,l,h b e m,q,k _ _ r⟩
 |clo f a k=>
  intro x g d;simp only[Bj] at d⊢;obtain⟨v,l,m⟩:=d;exact⟨v,l,k _ _ m⟩
 |_=>intro x g d;exact d
theorem gy.mono {fz a:Nat->Option (Array Value)} (h:∀b c,fz b=some c->a b=some c) {t:Ty} {e:List t.Den} {u:Value} (f:gy fz t e u):gy a t e u:=by
 refine f.imp_right ?_;rintro⟨b,o,c,d,g,j,k,l,m⟩;exact⟨b,o,c,d,g,h b d j,k,l,λi x n=>Bj.mono h _ _ _ (m i x n)⟩
theorem mT.mono {fz d:Nat->Option (Array Value)} (h:∀b c,fz b=some c->d b=some c) {t:Ty} {x:t.Den} {v:Value} (f:mT fz t x v):mT d t x v:=
 f.imp (λ⟨a,g,e,r⟩=>⟨a,g,e,Bj.mono h _ _ _ r⟩) λ⟨a,r⟩=>⟨a,Bj.mono h _ _ _ r⟩
theorem Bc.mono {fz a:Nat->Option (Array Value)} (h:∀b c,fz b=some c->a b=some c):∀{ts:List Ty} {x:AA ts} {vs:List Value},Bc fz ts x vs->Bc a ts x vs
 |[],_,_,d=>d
 |_::_,_,_,⟨v,r,e,h1,h2⟩=>⟨v,r,e,h1.mono h,Bc.mono h h2⟩
structure Reg where
 blk:Nat
 base:Nat
 room:Nat
 esz:Nat
 own:Bool
 fz:Nat->Option (Array Value)
 sv:Value
def rg (blk base room esz:Nat):Reg:=⟨blk,base,room,esz,true,λ_=>none,.nilIface⟩
@[simp] theorem zJ (a b c d:Nat):(rg a b c d).blk=a:=rfl
@[simp] theorem xh (a b c d:Nat):(rg a b c d).base=b:=rfl
@[simp] theorem xi (a b c d:Nat):(rg a b c d).room=c:=rfl
@[simp] theorem zK (a b c d:Nat):(rg a b c d).esz=d:=rfl
@[simp] theorem zL (a b c d:Nat):(rg a b c d).own=true:=rfl
def Reg.Own (r:Reg) (b:Nat):Prop:=r.own=true/\r.blk=b
def Reg.Fz (r:Reg) (b:Nat):Prop:=∃c,r.fz b=some c
def Ew:Nat:=9223372036854775808
def junk:Value:=.chan (some 0)
@[reducible] def sy (v:Value):Value:=.tuple #[.chan (some 1),v]
@[reducible] def dt (id:Nat):Value:=.tuple #[.chan (some 2),.pointer (some ⟨id,0,none⟩)]
@[reducible] def er (b:Bool):Value:=.tuple #[.chan (some 3),.bool b]
@[reducible] def ai (k:IntKind):Value:=.tuple #[.chan (some 4),.int k 0]
@[reducible] def pf (id m:Nat):Value:=.tuple #[.chan (some 5),.slice (some ⟨id,0,none⟩) m 0]
def IX:Value->Bool
 | .bool _| .int .. | .string _| .float .. | .complex .. =>true
 |_=>false
inductive VR (D:Nat->Prop) (ι:Nat->Reg):Value->Value->Prop where
 |junk (v'):VR D ι junk v'
 |sym (v) (h:IX v=true):VR D ι (sy v) v
 |err (b v) (h:ew b v=true):VR D ι (er b) v
 |aint (k n):VR D ι (ai k) (.int k n)
 |dat (id a l c) (h:D id) (e:(ι id).sv=.slice a l c):VR D ι (dt id) (.slice a l c)
 |pfx (id m a l c) (h:D id) (e:(ι id).sv=.slice a l c) (h1:m<=l):VR D ι (pf id m) (.slice a m c)
 |pel (id i j b o l c) (h:D id) (e:(ι id).sv=.slice (some ⟨b,o,none⟩) l c):VR D ι (.pointer (some ⟨id,i,some j⟩)) (.pointer (some ⟨b,o+i*(ι id).esz+j,none⟩))
 |bool (b):VR D ι (.bool b) (.bool b)
 |int (k n):VR D ι (.int k n) (.int k n)
 |float (k n):VR D ι (.float k n) (.float k n)
 |complex (k a b):VR D ι (.complex k a b) (.complex k a b)
 |string (s):VR D ι (.string s) (.string s)
 |ptrN:VR D ι (.pointer none) (.pointer none)
 |ptr (id off) (h:D id):VR D ι (.pointer (some ⟨id,off,none⟩)) (.pointer (some ⟨(ι id).blk,(ι id).base+off,none⟩))
 |slN (l c):VR D ι (.slice none l c) (.slice none l c)
 |slK (id off l c) (h:D id) (hc:c≠Ew):VR D ι (.slice (some ⟨id,off,none⟩) l c) (.slice (some ⟨(ι id).blk,(ι id).base+off,none⟩) l c)
 |slU (id off l c) (h:D id) (h1:l<=c) (h2:off+c*(ι id).esz<=(ι id).room):VR D ι (.slice (some ⟨id,off,none⟩) l Ew) (.slice (some ⟨(ι id).blk,(ι id).base+off,none⟩) l c)
 |slE (id off o' c) (h:D id) (h1:off<=(ι id).room) (h2:c=0\/(o'=off/\off+c*(ι id).esz<=(ι id).room)):VR D ι (.slice (some ⟨id,off,some 0⟩) 0 Ew) (.slice (some ⟨(ι id).blk,(ι id).base+o',none⟩) 0 c)
 |mapN:VR D ι (.map none) (.map none)
 |chanN:VR D ι (.chan none) (.chan none)
 |nilFunc:VR D ι .nilFunc .nilFunc
 |nilIface:VR D ι .nilIface .nilIface
 |iface (t v v') (h:VR D ι v v'):VR D ι (.iface t v) (.iface t v')
 |agg (as bs:Array Value) (hs:as.size=bs.size) (h:∀(i:Nat) v v',as[i]?=some v->bs[i]?=some v'->VR D ι v v'):VR D ι (.agg as) (.agg bs)
 |tuple (as bs:Array Value) (hs:as.size=bs.size) (h:∀(i:Nat) v v',as[i]?=some v->bs[i]?=some v'->VR D ι v v'):VR D ι (.tuple as) (.tuple bs)
 |func (fn) (as bs cs ds:Array Value) (hs:as.size=bs.size) (hs':cs.size=ds.size) (h:∀(i:Nat) v v',as[i]?=some v->bs[i]?=some v'->VR D ι v v')
  (h':∀(i:Nat) v v',cs[i]?=some v->ds[i]?=some v'->VR D ι v v'):VR D ι (.func fn as cs) (.func fn bs ds)
def AR (D:Nat->Prop) (ι:Nat->Reg) (as bs:Array Value):Prop:=
 as.size=bs.size/\∀(i:Nat) v v',as[i]?=some v->bs[i]?=some v'->VR D ι v v'
theorem VR.mono {D D':Nat->Prop} {ι ι':Nat->Reg} {v v':Value} (h:VR D ι v v') (d:∀id,D id->D' id) (f:∀id,D id->ι' id=ι id):VR D' ι' v v':=by
 induction h with
 |junk v=>exact .junk v
 |sym v h=>exact .sym v h
 |err b v h=>exact .err b v h
 |aint k n=>exact .aint k n
 |dat id a l c h e=>rw[<-f id h] at e;exact .dat id a l c (d _ h) e
 |pfx id m a l c h e h1=>rw[<-f id h] at e;exact .pfx id m a l c (d _ h) e h1
 |pel id i j b o l c h e=>rw[<-f id h] at e⊢;exact .pel id i j b o l c (d _ h) e
 |bool b=>exact .bool b
 |int k n=>exact .int k n
 |float k n=>exact .float k n
 |complex k a b=>exact .complex k a b
 |string s=>exact .string s
 |ptrN=>exact .ptrN
 |ptr id off h=>rw[<-f id h];exact .ptr id off (d _ h)
 |slN l c=>exact .slN l c
 |slK id off l c h u=>rw[<-f id h];exact .slK id off l c (d _ h) u
 |slU id off l c h h1 h2=>rw[<-f id h] at h2⊢;exact .slU id off l c (d _ h) h1 h2
 |slE id off w c h h1 h2=>rw[<-f id h] at h1 h2⊢;exact .slE id off w c (d _ h) h1 h2
 |mapN=>exact .mapN
 |chanN=>exact .chanN
 |nilFunc=>exact .nilFunc
 |nilIface=>exact .nilIface
 |iface t v v' _ g=>exact .iface t v v' g
 |agg as bs p _ g=>exact .agg as bs p g
 |tuple as bs p _ g=>exact .tuple as bs p g
 |func fn as bs x ds p q _ _ g r=>exact .func fn as bs x ds p q g r
theorem AR.mono {D D':Nat->Prop} {ι ι':Nat->Reg} {a b:Array Value} (h:AR D ι a b) (c:∀id,D id->D' id) (d:∀id,D id->ι' id=ι id):AR D' ι' a b:=
 ⟨h.1,λi v v' e f=>(h.2 i v v' e f).mono c d⟩
def AW:Nat->Value->Bool
 |0,_=>false
 |n+1,v=>match v with
  | .bool _| .int .. | .float .. | .complex .. | .string _| .pointer none| .slice none _ _| .map none| .chan none| .nilFunc| .nilIface=>true
  | .iface _ v=>AW n v
  | .agg a=>a.toList.all (AW n)
  | .tuple a=>a.toList.all (AW n)
  | .func _ as bs=>as.toList.all (AW n)&&bs.toList.all (AW n)
  |_=>false
theorem Ar {D:Nat->Prop} {ι:Nat->Reg}:∀(n:Nat) (v:Value),AW n v=true->VR D ι v v:=by
 intro n
 induction n with
 |zero=>intro v h;simp[AW] at h
 |succ n g=>
  intro v h;have d:∀as:Array Value,as.toList.all (AW n)=true->∀(i:Nat) v v',as[i]?=some v->as[i]?=some v'->VR D ι v v':=by
   intro as j i v v' e m;rw[e] at m;cases m;rw[List.all_eq_true] at j;exact g v (j v (by rw[Array.mem_toList_iff];exact Array.mem_of_getElem? e))
  cases v with
  |bool b=>exact .bool b
  |int k n=>exact .int k n
  |float k n=>exact .float k n
  |complex k a b=>exact .complex k a b
  |string s=>exact .string s
  |pointer a=>cases a with
   |none=>exact .ptrN
   |some a=>simp[AW] at h
  |slice a l c=>cases a with
   |none=>exact .slN l c
   |some a=>simp[AW] at h
  |map r=>cases r with
   |none=>exact .mapN
   |some a=>simp[AW] at h
  |chan r=>cases r with
   |none=>exact .chanN
   |some a=>simp[AW] at h
  |func fn as bs=>
   simp only[AW,Bool.and_eq_true] at h;exact .func fn as as bs bs rfl rfl (d as h.1) (d bs h.2)
  |nilFunc=>exact .nilFunc
  |iface t v=>exact .iface t v v (g v (by simpa[AW] using h))
  |nilIface=>exact .nilIface
  |agg f=>exact .agg f f rfl (d f (by simpa[AW] using h))
  |tuple f=>exact .tuple f f rfl (d f (by simpa[AW] using h))
theorem Df {D:Nat->Prop} {ι:Nat->Reg}:∀(n:Nat) (v v':Value),AW n v=true->VR D ι v v'->v'=v:=by
 intro n
 induction n with
 |zero=>intro v v' h;simp[AW] at h
 |succ n s=>
  intro v v' h w;have f:∀as bs:Array Value,as.toList.all (AW n)=true->as.size=bs.size->(∀(i:Nat) v v',as[i]?=some v->bs[i]?=some v'->VR D ι v v')->bs=as:=by
   intro as bs u g p;refine Array.ext g.symm λi h1 h2=> ?_
   rw[List.all_eq_true] at u;exact s _ _ (u _ (by rw[Array.mem_toList_iff];exact Array.getElem_mem h2)) (p i _ _ (Array.getElem?_eq_getElem h2) (Array.getElem?_eq_getElem h1))
  cases w with
  |junk v=>simp[AW,junk] at h
  |sym v d=>cases n<;>simp[AW] at h
  |err b v d=>cases n<;>simp[AW] at h
  |aint k m=>cases n<;>simp[AW] at h
  |dat id a l c d e=>cases n<;>simp[AW] at h
  |pfx id m a l c d e h1=>cases n<;>simp[AW] at h
  |pel id i j b o l c d e=>simp[AW] at h
  |ptr id off d=>simp[AW] at h
  |slK id off l c d y=>simp[AW] at h
  |slU id off l c d h1 h2=>simp[AW] at h
  |slE id off z c d h1 h2=>simp[AW] at h
  |iface t v v' d=>rw[s v v' (by simpa[AW] using h) d]
  |agg as bs g p=>rw[f as bs (by simpa[AW] using h) g p]
  |tuple as bs g p=>rw[f as bs (by simpa[AW] using h) g p]
  |func fn as bs x ds g q p r=>
   simp only[AW,Bool.and_eq_true] at h;rw[f as bs h.1 g p,f x ds h.2 q r]
  |_=>rfl
inductive Hd where
 |row (len:Nat) (elem:TypeId) (ro:Bool)
 |iter (s:ByteArray) (pos:Nat)
 |dat (t:Ty) (xs:List t.Den)
 |vec (t:Ty) (xs:List t.Den) (elem:TypeId)
structure H where
 hdr:Nat->Option Hd
 cell:Nat->Nat->Option Value
def Lv (h:H) (id:Nat):Prop:=∃x,h.hdr id=some x
def Hd.wr:Hd->Prop
 | .row _ _ a=>a=false
 | .iter _ _=>True
 | .dat _ _=>False
 | .vec _ _ _=>True
def Wr (h:H) (id:Nat):Prop:=∃x,h.hdr id=some x/\x.wr
theorem Wr.lv {h:H} {id:Nat} (x:Wr h id):Lv h id:=let⟨y,e,_⟩:=x;⟨y,e⟩
def Ty.slk:Ty->Nat
 | .byte=>0
 |_=>1
def Bs (fz:Nat->Option (Array Value)) (w:World):Prop:=∀b c,fz b=some c->∃e fr,w.heap[b]?=some (.cells c e fr)
def Am (P:Program) (ι:Nat->Reg) (id:Nat) (w:World):Hd->Prop
 | .row len a g=>∃(c:Array Value) (e:TypeId) (fr:Nat×Nat),w.heap[(ι id).blk]?=some (.cells c e fr)/\(ι id).base+(ι id).room=c.size/\len<=(ι id).room/\
  ((ι id).own=true/\∀b,¬(ι id).Fz b)/\
  (g=false->e=a/\(∀i,P.info? a=some i->(ι id).esz=i.size/\(ι id).base%i.size=0/\c.size%i.size=0)/\∀o,o<c.size->¬(fr.1<=o/\o<fr.2))
 | .iter s f=>w.heap[(ι id).blk]?=some (.stringIter s f)/\(ι id).base=0/\(ι id).own=true/\∀b,¬(ι id).Fz b
 | .dat t d=>gy (ι id).fz t d (ι id).sv/\(ι id).esz=t.sz/\(ι id).own=false/\Bs (ι id).fz w
 | .vec t d a=>(ι id).esz=t.sz/\Bs (ι id).fz w/\((ι id).own=false/\d=[]/\(∃q,(ι id).sv=.slice q 0 0)\/
  (ι id).own=true/\¬(ι id).Fz (ι id).blk/\∃(cap:Nat) (c:Array Value) (fr:Nat×Nat),(ι id).sv=.slice (some ⟨(ι id).blk,(ι id).base,none⟩) d.length cap/\d.length<=cap/\
   w.heap[(ι id).blk]?=some (.cells c a fr)/\(ι id).base+(ι id).room=c.size/\cap*t.sz<=(ι id).room/\
   (∀i,P.info? a=some i->t.sz=i.size/\(ι id).base%i.size=0/\c.size%i.size=0)/\(∀o,o<c.size+t.slk->¬(fr.1<=o/\o<fr.2))/\
   Co (ι id).fz t d (c.toList.drop (ι id).base))
def BL (D:Nat->Prop) (ι:Nat->Reg) (id:Nat) (w:World) (k:Nat) (v:Value):Prop:=
 (ι id).own=true/\∃v',w.cell? ⟨(ι id).blk,(ι id).base+k,none⟩=some v'/\VR D ι v v'
theorem Ap {w:World} {b:Nat} {o:Obj} (e:w.heap[b]?=some o):b<w.heap.size:=by
 rcases Nat.lt_or_ge b w.heap.size with h|h
 ·exact h
 ·rw[Array.getElem?_eq_none h] at e;cases e
theorem Am.lt {P:Program} {ι:Nat->Reg} {id:Nat} {w:World} {x:Hd} (h:Am P ι id w x) {b:Nat} (a:(ι id).Own b\/(ι id).Fz b):b<w.heap.size:=by
 cases x with
 |row len d n=>
  obtain⟨c,f,fr,e,_,_,⟨_,g⟩,_⟩:=h;rcases a with⟨_,rfl⟩|a
  ·exact Ap e
  ·exact absurd a (g b)
 |iter s k=>
  obtain⟨e,_,_,g⟩:=h;rcases a with⟨_,rfl⟩|a
  ·exact Ap e
  ·exact absurd a (g b)
 |dat t l=>
  obtain⟨_,_,m,i⟩:=h;rcases a with⟨h,_⟩|⟨c,a⟩
  ·rw[m] at h;cases h
  ·obtain⟨e,fr,f⟩:=i b c a;exact Ap f
 |vec t l d=>
  obtain⟨_,i,h⟩:=h;rcases a with⟨j,rfl⟩|⟨c,a⟩
  ·rcases h with⟨h,_⟩|⟨_,_,cap,c,fr,_,_,e,_⟩
   ·rw[h] at j;cases j
   ·exact Ap e
  ·obtain⟨e,fr,f⟩:=i b c a;exact Ap f
theorem Am.self {P:Program} {ι:Nat->Reg} {id:Nat} {w:World} {x:Hd} (h:Am P ι id w x) {b:Nat} (d:(ι id).Own b):¬(ι id).Fz b:=by
 cases x with
 |row len a k=>obtain⟨c,l,fr,e,_,_,⟨_,f⟩,_⟩:=h;exact f b
 |iter s i=>obtain⟨e,_,_,f⟩:=h;exact f b
 |dat t j=>obtain⟨_,_,g,_⟩:=h;rw[d.1] at g;cases g
 |vec t j a=>
  obtain⟨_,_,h⟩:=h;rcases h with⟨h,_⟩|⟨_,h,_⟩
  ·rw[d.1] at h;cases h
  ·rw[<-d.2];exact h
theorem Am.own_row {P:Program} {ι:Nat->Reg} {id:Nat} {w:World} {l:Nat} {e:TypeId} {a:Bool} (h:Am P ι id w (.row l e a)):(ι id).Own (ι id).blk:=by
 obtain⟨_,_,_,_,_,_,⟨h,_⟩,_⟩:=h;exact⟨h,rfl⟩
structure Foot where
 rc:List (Nat×Nat)
 rh:List Nat
 wc:List (Nat×Nat)
 wh:List Nat
def Foot.nil:Foot:=⟨[],[],[],[]⟩
def Foot.add (a b:Foot):Foot:=⟨a.rc++b.rc,a.rh++b.rh,a.wc++b.wc,a.wh++b.wh⟩
def Foot.Wi (φ:Foot) (id:Nat):Prop:=id∈φ.wh
def Foot.Wc (φ:Foot) (id k:Nat):Prop:=(id,k)∈φ.wc\/id∈φ.wh
def Foot.Fc (φ:Foot) (id k:Nat):Prop:=(id,k)∈φ.rc\/id∈φ.rh\/(id,k)∈φ.wc\/id∈φ.wh
def Foot.Fi (φ:Foot) (id:Nat):Prop:=(∃k,(id,k)∈φ.rc)\/id∈φ.rh\/(∃k,(id,k)∈φ.wc)\/id∈φ.wh
theorem Foot.Wi.wc {φ:Foot} {id:Nat} (h:φ.Wi id) (k:Nat):φ.Wc id k:=.inr h
theorem Foot.Wc.fc {φ:Foot} {id k:Nat} (h:φ.Wc id k):φ.Fc id k:=by
 rcases h with h|h
 ·exact .inr (.inr (.inl h))
 ·exact .inr (.inr (.inr h))
theorem Foot.Fc.fi {φ:Foot} {id k:Nat} (h:φ.Fc id k):φ.Fi id:=by
 rcases h with h|h|h|h
 ·exact .inl ⟨_,h⟩
 ·exact .inr (.inl h)
 ·exact .inr (.inr (.inl ⟨_,h⟩))
 ·exact .inr (.inr (.inr h))
theorem Foot.Wi.fi {φ:Foot} {id:Nat} (h:φ.Wi id):φ.Fi id:=(h.wc 0).fc.fi
theorem Foot.Wc.fi {φ:Foot} {id k:Nat} (h:φ.Wc id k):φ.Fi id:=h.fc.fi
theorem Foot.add_Wi {a b:Foot} {id:Nat}:(a.add b).Wi id↔a.Wi id\/b.Wi id:=by simp[Foot.add,Foot.Wi]
theorem Foot.add_Wc {a b:Foot} {id k:Nat}:(a.add b).Wc id k↔a.Wc id k\/b.Wc id k:=by
 simp only[Foot.add,Foot.Wc,List.mem_append];constructor
 ·rintro((h|h)|(h|h))<;>simp[h]
 ·rintro((h|h)|(h|h))<;>simp[h]
theorem Foot.add_Fc {a b:Foot} {id k:Nat}:(a.add b).Fc id k↔a.Fc id k\/b.Fc id k:=by
 simp only[Foot.add,Foot.Fc,List.mem_append];constructor
 ·rintro((h|h)|(h|h)|(h|h)|(h|h))<;>simp[h]
 ·rintro((h|h|h|h)|(h|h|h|h))<;>simp[h]
theorem Foot.add_Fi {a b:Foot} {id:Nat}:(a.add b).Fi id↔a.Fi id\/b.Fi id:=by
 simp only[Foot.add,Foot.Fi,List.mem_append];constructor
 ·rintro(⟨k,h|h⟩|(h|h)|⟨k,h|h⟩|(h|h))
  ·exact .inl (.inl ⟨k,h⟩)
  ·exact .inr (.inl ⟨k,h⟩)
  ·exact .inl (.inr (.inl h))
  ·exact .inr (.inr (.inl h))
  ·exact .inl (.inr (.inr (.inl ⟨k,h⟩)))
  ·exact .inr (.inr (.inr (.inl ⟨k,h⟩)))
  ·exact .inl (.inr (.inr (.inr h)))
  ·exact .inr (.inr (.inr (.inr h)))
 ·rintro((⟨k,h⟩|h|⟨k,h⟩|h)|(⟨k,h⟩|h|⟨k,h⟩|h))
  ·exact .inl ⟨k,.inl h⟩
  ·exact .inr (.inl (.inl h))
  ·exact .inr (.inr (.inl ⟨k,.inl h⟩))
  ·exact .inr (.inr (.inr (.inl h)))
  ·exact .inl ⟨k,.inr h⟩
  ·exact .inr (.inl (.inr h))
  ·exact .inr (.inr (.inl ⟨k,.inr h⟩))
  ·exact .inr (.inr (.inr (.inr h)))
structure HOn (P:Program) (D:Nat->Prop) (ι:Nat->Reg) (h:H) (φ:Foot) (w:World):Prop where
 hd:∀id x,φ.Fi id->h.hdr id=some x->Am P ι id w x
 ce:∀id k v,φ.Fc id k->Lv h id->h.cell id k=some v->BL D ι id w k v
 inj:∀i j,φ.Fi i->φ.Fi j->Wr h i->Lv h j->i≠j->∀b,(ι i).Own b->¬(ι j).Own b/\¬(ι j).Fz b
def BC (S:Nat->Prop):Option Obj->Option Obj->Prop
 |some (.cells c e fr),o=>∃b,o=some (.cells b e fr)/\b.size=c.size/\∀k,¬S k->b[k]?=c[k]?
 |a,o=>o=a
theorem BC.refl (S:Nat->Prop) (a:Option Obj):BC S a a:=by
 unfold BC
 split
 ·exact⟨_,rfl,rfl,λ_ _=>rfl⟩
 ·rfl
theorem BC.mono {S S':Nat->Prop} {a b:Option Obj} (h:BC S a b) (d:∀k,S k->S' k):BC S' a b:=by
 rcases a with _|a
 ·exact h
 ·cases a with
  |cells c e fr=>
   obtain⟨f,e,g,i⟩:=h;exact⟨f,e,g,λk j=>i k λx=>j (d k x)⟩
  |_=>exact h
theorem BC.trans {S S':Nat->Prop} {a b c:Option Obj} (h:BC S a b) (d:BC S' b c):BC (λk=>S k\/S' k) a c:=by
 rcases a with _|a
 ·have h:b=none:=h;subst h;exact d
 ·cases a with
  |cells c0 e fr=>
   obtain⟨c1,rfl,j,l⟩:=h;obtain⟨c2,e,f,g⟩:=d;exact⟨c2,e,f.trans j,λk i=>(g k λx=>i (.inr x)).trans (l k λx=>i (.inl x))⟩
  |_=>(have h:b=_:=h);subst h;exact d
theorem BC.eq {S:Nat->Prop} {a b:Option Obj} (h:BC S a b) (d:∀k,¬S k):b=a:=by
 rcases a with _|a
 ·exact h
 ·cases a with
  |cells c e fr=>
   obtain⟨f,e,i,g⟩:=h;have:f=_:=Array.ext_getElem? λk=>g k (d k)
   rw[e,this]
  |_=>exact h
structure Post (P:Program) (D N:Nat->Prop) (ι:Nat->Reg) (h:H) (w:World) (φ:Foot) (ι':Nat->Reg) (h':H) (w':World):Prop where
 io:∀id,¬N id->ι' id=ι id
 size:w.heap.size<=w'.heap.size
 os:w'.os=w.os
 out:w'.output=w.output
 hdr:∀id x,φ.Wi id\/N id->h'.hdr id=some x->Am P ι' id w' x
 cel:∀id k v,φ.Wc id k\/N id->Lv h' id->h'.cell id k=some v->BL (λi=>D i\/N i) ι' id w' k v
 ahdr:∀id,¬N id->¬φ.Wi id->h'.hdr id=h.hdr id
 acel:∀id k,¬N id->¬φ.Wc id k->h'.cell id k=h.cell id k
 cfr:∀b,b<w.heap.size->(∀id,φ.Wi id->Wr h id->¬(ι id).Own b)->BC (λo=>∃id k,φ.Wc id k/\Wr h id/\(ι id).Own b/\(ι id).base+k=o) w.heap[b]? w'.heap[b]?
 fresh:∀id,N id->Lv h' id->∀b,(ι' id).Own b->(w.heap.size<=b/\b<w'.heap.size)\/∃k,φ.Wi k/\¬N k/\Wr h k/\¬Lv h' k/\(ι k).Own b
 freshF:∀id,N id->Lv h' id->∀b,(ι' id).Fz b->(w.heap.size<=b/\b<w'.heap.size)\/(∃k,φ.Wi k/\¬N k/\Wr h k/\¬Lv h' k/\(ι k).Own b)\/∃k,φ.Fi k/\¬N k/\Lv h k/\(ι k).Fz b
 dist:∀i j,N i->N j->Wr h' i->Lv h' j->i≠j->∀b,(ι' i).Own b->¬(ι' j).Own b/\¬(ι' j).Fz b
 nl:∀id,N id->h.hdr id=none
 wl:∀id k,φ.Wc id k->¬N id->Lv h id
 wrm:∀id,¬N id->Wr h' id->Wr h id
 wrow:∀id k,φ.Wc id k->¬φ.Wi id->¬N id->∃l e ro,h.hdr id=some (.row l e ro)
theorem Post.refl (P:Program) (D N:Nat->Prop) (ι:Nat->Reg) (h:H) (w:World) (a:∀id,¬N id):Post P D N ι h w .nil ι h w where
 io:=λ_ _=>rfl
 size:=Nat.le_refl _
 os:=rfl
 out:=rfl
 hdr:=λid x hx=>by rcases hx with hx|hx;cases hx;exact absurd hx (a id)
 cel:=λid k v hx=>by rcases hx with(hx|hx)|hx;cases hx;cases hx;exact absurd hx (a id)
 ahdr:=λ_ _ _=>rfl
 acel:=λ_ _ _ _=>rfl
 cfr:=λ_ _ _=>BC.refl _ _
 fresh:=λid hx=>absurd hx (a id)
 freshF:=λid hx=>absurd hx (a id)
 dist:=λi _ hx=>absurd hx (a i)
 nl:=λid hx=>absurd hx (a id)
 wl:=λid k hx=>by rcases hx with hx|hx<;>cases hx
 wrm:=λ_ _ hx=>hx
 wrow:=λid k hx=>by rcases hx with hx|hx<;>cases hx
theorem Bs.keep {fz:Nat->Option (Array Value)} {w w':World} (h:Bs fz w) (a:∀b c,fz b=some c->w'.heap[b]?=w.heap[b]?):Bs fz w':=λb c e=>by
 obtain⟨d,fr,f⟩:=h b c e;exact⟨d,fr,by rw[a b c e];exact f⟩
theorem Am.keep {P:Program} {ι ι':Nat->Reg} {id:Nat} {w w':World} {x:Hd} {S:Nat->Nat->Prop} (h:Am P ι id w x) (f:ι' id=ι id) (a:∀b,(ι id).Own b\/(ι id).Fz b->BC (S b) w.heap[b]? w'.heap[b]?)
  (g:(∃l e v,x=.row l e v)\/∀b,(ι id).Own b\/(ι id).Fz b->∀k,¬S b k):Am P ι' id w' x:=by
 cases x with
 |row len j v=>
  have m:=h.own_row;obtain⟨c,y,fr,e,h1,h2,p,n⟩:=h;have a:=a _ (.inl m);rw[e] at a;obtain⟨z,A,q,_⟩:=a;refine⟨z,y,fr,by rw[f];exact A,by rw[f,q];exact h1,by rw[f];exact h2,by rw[f];exact p,λB=> ?_⟩;obtain⟨g1,r,g3⟩:=n B;exact⟨g1,λi u=>by rw[f,q];exact r i u,λo C=>g3 o (q▸C)⟩
 |iter s D=>
  obtain⟨e,E,h1,h2⟩:=h;have a:=a _ (.inl ⟨h1,rfl⟩);rw[e] at a;exact⟨by rw[f];exact a,by rw[f];exact⟨E,h1,h2⟩⟩
 |dat t F=>
  have g:=g.resolve_left (by rintro⟨_,_,_,h⟩;cases h);obtain⟨h1,h2,n,p⟩:=h;simp only[Am,f];exact⟨h1,h2,n,p.keep λb c d=>(a b (.inr ⟨c,d⟩)).eq (g b (.inr ⟨c,d⟩))⟩
 |vec t F j=>
  have g:=g.resolve_left (by rintro⟨_,_,_,h⟩;cases h);obtain⟨h1,h2,n⟩:=h;simp only[Am,f];refine⟨h1,h2.keep λb c d=>(a b (.inr ⟨c,d⟩)).eq (g b (.inr ⟨c,d⟩)),n.imp_right ?_⟩;rintro⟨g1,r,cap,c,fr,g3,g4,G,H⟩;exact⟨g1,r,cap,c,fr,g3,g4,by rw[(a _ (.inl ⟨g1,rfl⟩)).eq (g _ (.inl ⟨g1,rfl⟩))];exact G,H⟩
theorem BL.keep {D D':Nat->Prop} {ι ι':Nat->Reg} {id k:Nat} {w w':World} {v:Value} {S:Nat->Prop} (h:BL D ι id w k v) (b:ι' id=ι id) (f:∀i,D i->D' i) (a:∀i,D i->ι' i=ι i)
  (d:BC S w.heap[(ι id).blk]? w'.heap[(ι id).blk]?) (g:¬S ((ι id).base+k)):BL D' ι' id w' k v:=by
 obtain⟨j,v',e,l⟩:=h;refine⟨by rw[b];exact j,v',?_,l.mono f a⟩;rw[b];simp only[World.cell?] at e⊢
 split at e
 ·rename_i c p fr m;rw[m] at d;obtain⟨q,n,r,o⟩:=d;rw[n];simp only[Option.isSome_none,Bool.false_eq_true,if_false] at e⊢;rw[o _ g];exact e
 ·cases e
theorem Wr.of_hdr {h a:H} {id:Nat} (e:a.hdr id=h.hdr id) (x:Wr a id):Wr h id:=by
 obtain⟨y,b,c⟩:=x;exact⟨y,e▸b,c⟩
theorem Lv.of_hdr {h a:H} {id:Nat} (e:a.hdr id=h.hdr id) (x:Lv a id):Lv h id:=by
 obtain⟨y,b⟩:=x;exact⟨y,e▸b⟩
end Go.Eng
end
end
section
noncomputable section
namespace Go.Eng
open Go
section
variable {P:Program} {D N M:Nat->Prop} {ι ι1 ι2:Nat->Reg} {h h1 h2:H} {w w1 w2:World} {φ ψ:Foot}
theorem BL.lt {D:Nat->Prop} {ι:Nat->Reg} {id k:Nat} {w:World} {v:Value} (h:BL D ι id w k v):(ι id).blk<w.heap.size:=by
 obtain⟨_,v',e,_⟩:=h;simp only[World.cell?] at e;rcases Nat.lt_or_ge (ι id).blk w.heap.size with a|b
 ·exact a
 ·rw[Array.getElem?_eq_none b] at e;cases e
theorem BL.more {D D':Nat->Prop} {ι:Nat->Reg} {id k:Nat} {w:World} {v:Value} (h:BL D ι id w k v) (a:∀i,D i->D' i):BL D' ι id w k v:=
 let⟨b,v',e,c⟩:=h;⟨b,v',e,c.mono a λ_ _=>rfl⟩
theorem Post.lv (p:Post P D N ι h w φ ι1 h1 w1) {id:Nat} (a:¬N id) (c:Lv h1 id):Lv h id:=by
 by_cases b:φ.Wi id
 ·exact p.wl id 0 (b.wc 0) a
 ·exact c.of_hdr (p.ahdr id a b)
theorem Post.inj (H0:HOn P D ι h (φ.add ψ) w) (p:Post P D N ι h w φ ι1 h1 w1) {i j:Nat} (E:(φ.add ψ).Fi i\/N i) (F:(φ.add ψ).Fi j\/N j)
  (q:Wr h1 i) (t:Lv h1 j) (f:i≠j) (b:Nat) (d:(ι1 i).Own b):¬(ι1 j).Own b/\¬(ι1 j).Fz b:=by
 have old:∀a,¬N a->(φ.add ψ).Fi a->Lv h1 a->∃y,h.hdr a=some y/\Am P ι a w y:=λa u H v=>by
  obtain⟨y,r⟩:=p.lv u v;exact⟨y,r,H0.hd a y H r⟩
 have mixed:∀a c,N a->¬N c->(φ.add ψ).Fi c->Lv h1 a->Lv h1 c->a≠c->∀b,((ι1 a).Own b->¬(ι1 c).Own b/\¬(ι1 c).Fz b)/\(Wr h1 c->(ι1 c).Own b->¬(ι1 a).Fz b):=by
  intro a c u A fc v B I b;rw[p.io c A];obtain⟨y,r,g⟩:=old c A fc B;refine⟨λd=> ?_,λwc z d=> ?_⟩
  ·rcases p.fresh a u v b d with⟨h1,_⟩|⟨k,C,G,n,dk,e⟩
   ·exact⟨λx=>by have:=g.lt (.inl x);omega,λx=>by have:=g.lt (.inr x);omega⟩
   ·exact H0.inj k c (Foot.add_Fi.2 (.inl C.fi)) fc n ⟨y,r⟩ (λe=>dk (e▸B)) b e
  ·rcases p.freshF a u v b d with⟨h1,_⟩|⟨k,C,G,n,dk,e⟩|⟨k,J,G,K,e⟩
   ·have:=g.lt (.inl z);omega
   ·exact(H0.inj k c (Foot.add_Fi.2 (.inl C.fi)) fc n ⟨y,r⟩ (λe=>dk (e▸B)) b e).1 z
   ·by_cases s:k=c
    ·subst s;exact g.self z e
    ·exact(H0.inj c k fc (Foot.add_Fi.2 (.inl J)) (p.wrm c A wc) K (Ne.symm s) b z).2 e
 by_cases o:N i
 ·by_cases l:N j
  ·exact p.dist i j o l q t f b d
  ·exact(mixed i j o l (F.resolve_right l) q.lv t f b).1 d
 ·by_cases l:N j
  ·have m:=mixed j i l o (E.resolve_right o) t q.lv f.symm b;exact⟨λx=>(m.1 x).1 d,m.2 q d⟩
  ·rw[p.io i o] at d;rw[p.io j l];exact H0.inj i j (E.resolve_right o) (F.resolve_right l) (p.wrm i o q) (p.lv l t) f b d
theorem Post.hon (H0:HOn P D ι h (φ.add ψ) w) (p:Post P D N ι h w φ ι1 h1 w1) (u:∀id,N id->¬D id):HOn P (λi=>D i\/N i) ι1 h1 ψ w1 where
 hd:=by
  intro id x fi e;by_cases j:φ.Wi id\/N id
  ·exact p.hdr id x j e
  ·have m:¬φ.Wi id:=λx=>j (.inl x)
   have n:¬N id:=λx=>j (.inr x)
   rw[p.ahdr id n m] at e;have f:=Foot.add_Fi.2 (.inr fi:φ.Fi id\/ψ.Fi id);have c:=H0.hd id x f e;refine c.keep (S:=λb o=>∃a k,φ.Wc a k/\Wr h a/\(ι a).Own b/\(ι a).base+k=o) (p.io id n) (λb s=>p.cfr b (c.lt s) λk t q d=> ?_) ?_
   ·have:=H0.inj k id (Foot.add_Fi.2 (.inl t.fi)) f q ⟨x,e⟩ (λe=>m (e▸t)) b d;exact s.elim this.1 this.2
   ·by_cases A:∃l e B,x=.row l e B
    ·exact .inl A
    ·refine .inr λb s o=> ?_
     rintro⟨a,k,wc,wr,C,_⟩;by_cases d:a=id
     ·subst d;obtain⟨l,L,B,E⟩:=p.wrow _ _ wc m n;rw[e] at E;cases E;exact A ⟨_,_,_,rfl⟩
     ·have:=H0.inj a id (Foot.add_Fi.2 (.inl wc.fi)) f wr ⟨x,e⟩ d b C;exact s.elim this.1 this.2
 ce:=by
  intro id k v fc lv e;by_cases j:φ.Wc id k\/N id
  ·exact p.cel id k v j lv e
  ·have m:¬φ.Wc id k:=λx=>j (.inl x)
   have n:¬N id:=λx=>j (.inr x)
   have y:¬φ.Wi id:=λx=>m (x.wc k)
   rw[p.acel id k n m] at e;have r:=p.lv n lv;have c:=H0.ce id k v (Foot.add_Fc.2 (.inr fc)) r e;have f:=Foot.add_Fi.2 (.inr fc.fi:φ.Fi id\/ψ.Fi id);have g:(ι id).Own (ι id).blk:=⟨c.1,rfl⟩
   refine c.keep (p.io id n) (λ_=>.inl) (λi F=>p.io i λG=>u i G F) (p.cfr _ c.lt λk t q d=> ?_) ?_
   ·exact(H0.inj k id (Foot.add_Fi.2 (.inl t.fi)) f q r (λe=>y (e▸t)) _ d).1 g
   ·rintro⟨a,H,wc,wr,s,C⟩;by_cases d:a=id
    ·subst d;have:H=k:=by omega
     subst this;exact m wc
    ·exact(H0.inj a id (Foot.add_Fi.2 (.inl wc.fi)) f wr r d _ s).1 g
 inj:=λ_ _ fi I J K z=>p.inj H0 (.inl (Foot.add_Fi.2 (.inr fi))) (.inl (Foot.add_Fi.2 (.inr I))) J K z
theorem Post.trans (H0:HOn P D ι h (φ.add ψ) w) (p:Post P D N ι h w φ ι1 h1 w1) (q:Post P (λi=>D i\/N i) M ι1 h1 w1 ψ ι2 h2 w2)
  (hM:∀id,M id->¬(D id\/N id)) (hl:∀id,M id->h.hdr id=none):Post P D (λi=>N i\/M i) ι h w (φ.add ψ) ι2 h2 w2 where
 io:=λid g=>(q.io id λx=>g (.inr x)).trans (p.io id λx=>g (.inl x))
 size:=Nat.le_trans p.size q.size
 os:=q.os.trans p.os
 out:=q.out.trans p.out
 hdr:=by
  intro id x hw e;by_cases V:ψ.Wi id\/M id
  ·exact q.hdr id x V e
  ·have E:¬ψ.Wi id:=λx=>V (.inl x)
   have F:¬M id:=λx=>V (.inr x)
   rw[q.ahdr id F E] at e;have H:φ.Wi id\/N id:=by
    rcases hw with hw|hw|hw
    ·exact .inl ((Foot.add_Wi.1 hw).resolve_right E)
    ·exact .inr hw
    ·exact absurd hw F
   have n:=p.hdr id x H e;have Z:(φ.add ψ).Fi id\/N id:=H.imp (λx=>Foot.add_Fi.2 (.inl x.fi)) λx=>x
   refine n.keep (S:=λb o=>∃t k,ψ.Wc t k/\Wr h1 t/\(ι1 t).Own b/\(ι1 t).base+k=o) (q.io id F) (λb f=>q.cfr b (n.lt f) λk z c O=> ?_) ?_
   ·have:=p.inj H0 (.inl (Foot.add_Fi.2 (.inr z.fi))) Z c ⟨x,e⟩ (λe=>E (e▸z)) b O;exact f.elim this.1 this.2
   ·by_cases hx:∃l e ro,x=.row l e ro
    ·exact .inl hx
    ·refine .inr λb f o=> ?_
     rintro⟨t,k,wc,wr,Y,_⟩;by_cases O:t=id
     ·subst O;obtain⟨l,K,ro,hr⟩:=q.wrow _ _ wc E F;rw[e] at hr;cases hr;exact hx ⟨_,_,_,rfl⟩
     ·have:=p.inj H0 (.inl (Foot.add_Fi.2 (.inr wc.fi))) Z wr ⟨x,e⟩ O b Y;exact f.elim this.1 this.2
 cel:=by
  intro id k v hw lv e;by_cases V:ψ.Wc id k\/M id
  ·exact(q.cel id k v V lv e).more λi hi=>by rcases hi with(hi|hi)|hi<;>simp[hi]
  ·have E:¬ψ.Wc id k:=λx=>V (.inl x)
   have F:¬M id:=λx=>V (.inr x)
   have nwi:¬ψ.Wi id:=λx=>E (x.wc k)
   rw[q.acel id k F E] at e;have W:=q.lv F lv;have H:φ.Wc id k\/N id:=by
    rcases hw with hw|hw|hw
    ·exact .inl ((Foot.add_Wc.1 hw).resolve_right E)
    ·exact .inr hw
    ·exact absurd hw F
   have n:=p.cel id k v H W e;have Z:(φ.add ψ).Fi id\/N id:=H.imp (λx=>Foot.add_Fi.2 (.inl x.fi)) λx=>x
   have R:(ι1 id).Own (ι1 id).blk:=⟨n.1,rfl⟩
   refine n.keep (q.io id F) (λi hi=>by rcases hi with hi|hi<;>simp[hi]) (λi hi=>q.io i λu=>hM i u hi) (q.cfr _ n.lt λk z c O=> ?_) ?_
   ·exact(p.inj H0 (.inl (Foot.add_Fi.2 (.inr z.fi))) Z c W (λe=>nwi (e▸z)) _ O).1 R
   ·rintro⟨t,r,wc,wr,f,Y⟩;by_cases O:t=id
    ·subst O;have:r=k:=by omega
     subst this;exact E wc
    ·exact(p.inj H0 (.inl (Foot.add_Fi.2 (.inr wc.fi))) Z wr W O _ f).1 R
 ahdr:=λid g hw=>(q.ahdr id (λx=>g (.inr x)) λx=>hw (Foot.add_Wi.2 (.inr x))).trans (p.ahdr id (λx=>g (.inl x)) λx=>hw (Foot.add_Wi.2 (.inl x)))
 acel:=λid k g hw=>(q.acel id k (λx=>g (.inr x)) λx=>hw (Foot.add_Wc.2 (.inr x))).trans (p.acel id k (λx=>g (.inl x)) λx=>hw (Foot.add_Wc.2 (.inl x)))
 cfr:=by
  intro b f X;have far:∀id,N id->Lv h1 id->¬(ι1 id).Own b:=by
   intro id d lv Y;rcases p.fresh id d lv b Y with⟨h1,_⟩|⟨k,z,_,c,_,e⟩
   ·omega
   ·exact X k (Foot.add_Wi.2 (.inl z)) c e
  have a1:=p.cfr b f λid wi wr=>X id (Foot.add_Wi.2 (.inl wi)) wr
  have a2:=q.cfr b (Nat.lt_of_lt_of_le f p.size) λid wi wr=>by
   by_cases d:N id
   ·exact far id d wr.lv
   ·rw[p.io id d];exact X id (Foot.add_Wi.2 (.inr wi)) (p.wrm id d wr)
  refine(a1.trans a2).mono λo Y=> ?_
  rcases Y with⟨id,k,wc,wr,h1,h2⟩|⟨id,k,wc,wr,h1,h2⟩
  ·exact⟨id,k,Foot.add_Wc.2 (.inl wc),wr,h1,h2⟩
  ·by_cases d:N id
   ·exact absurd h1 (far id d wr.lv)
   ·rw[p.io id d] at h1 h2;exact⟨id,k,Foot.add_Wc.2 (.inr wc),p.wrm id d wr,h1,h2⟩
 fresh:=by
  have notM:∀k,Wr h k->¬M k:=λk wr u=>by obtain⟨y,Q⟩:=wr.lv;rw[hl k u] at Q;cases Q
  intro id g lv b f;by_cases u:M id
  ·rcases q.fresh id u lv b f with⟨h1,h2⟩|⟨k,z,mk,c,dk,e⟩
   ·exact .inl ⟨Nat.le_trans p.size h1,h2⟩
   ·by_cases C:N k
    ·rcases p.fresh k C c.lv b e with⟨h1,h2⟩|⟨r,A,s,a,B,K⟩
     ·exact .inl ⟨by omega,by have:=q.size;omega⟩
     ·exact .inr ⟨r,Foot.add_Wi.2 (.inl A),λx=>x.elim s (notM r a),a,λl=>B (q.lv (notM r a) l),K⟩
    ·exact .inr ⟨k,Foot.add_Wi.2 (.inr z),λx=>x.elim C mk,p.wrm k C c,dk,by rw[p.io k C] at e;exact e⟩
  ·have d:N id:=g.resolve_right u;rw[q.io id u] at f;rcases p.fresh id d (q.lv u lv) b f with⟨h1,h2⟩|⟨r,A,s,a,B,K⟩
   ·exact .inl ⟨h1,Nat.lt_of_lt_of_le h2 q.size⟩
   ·exact .inr ⟨r,Foot.add_Wi.2 (.inl A),λx=>x.elim s (notM r a),a,λl=>B (q.lv (notM r a) l),K⟩
 freshF:=by
  have I:∀k,Lv h k->¬M k:=λk wr u=>by obtain⟨y,Q⟩:=wr;rw[hl k u] at Q;cases Q
  have notM:∀k,Wr h k->¬M k:=λk wr=>I k wr.lv
  have back:∀id,N id->¬M id->Lv h1 id->∀b,(ι1 id).Fz b->(w.heap.size<=b/\b<w2.heap.size)\/(∃k,(φ.add ψ).Wi k/\¬(N k\/M k)/\Wr h k/\¬Lv h2 k/\(ι k).Own b)\/∃k,(φ.add ψ).Fi k/\¬(N k\/M k)/\Lv h k/\(ι k).Fz b:=by
   intro id d F lv b f;rcases p.freshF id d lv b f with⟨h1,h2⟩|⟨r,A,s,a,B,K⟩|⟨r,fk',s,lk',K⟩
   ·exact .inl ⟨h1,Nat.lt_of_lt_of_le h2 q.size⟩
   ·exact .inr (.inl ⟨r,Foot.add_Wi.2 (.inl A),λx=>x.elim s (notM r a),a,λl=>B (q.lv (notM r a) l),K⟩)
   ·exact .inr (.inr ⟨r,Foot.add_Fi.2 (.inl fk'),λx=>x.elim s (I r lk'),lk',K⟩)
  intro id g lv b f;by_cases u:M id
  ·rcases q.freshF id u lv b f with⟨h1,h2⟩|⟨k,z,mk,c,dk,e⟩|⟨k,fk,mk,lk,e⟩
   ·exact .inl ⟨Nat.le_trans p.size h1,h2⟩
   ·by_cases C:N k
    ·rcases p.fresh k C c.lv b e with⟨h1,h2⟩|⟨r,A,s,a,B,K⟩
     ·exact .inl ⟨by omega,by have:=q.size;omega⟩
     ·exact .inr (.inl ⟨r,Foot.add_Wi.2 (.inl A),λx=>x.elim s (notM r a),a,λl=>B (q.lv (notM r a) l),K⟩)
    ·exact .inr (.inl ⟨k,Foot.add_Wi.2 (.inr z),λx=>x.elim C mk,p.wrm k C c,dk,by rw[p.io k C] at e;exact e⟩)
   ·by_cases C:N k
    ·exact back k C mk lk b e
    ·exact .inr (.inr ⟨k,Foot.add_Fi.2 (.inr fk),λx=>x.elim C mk,p.lv C lk,by rw[p.io k C] at e;exact e⟩)
  ·have d:N id:=g.resolve_right u;rw[q.io id u] at f;exact back id d u (q.lv u lv) b f
 dist:=by
  have mixed:∀i j,M i->N j->¬M j->Lv h2 i->Lv h2 j->i≠j->∀b,((ι2 i).Own b->¬(ι2 j).Own b/\¬(ι2 j).Fz b)/\(Wr h2 j->(ι2 j).Own b->¬(ι2 i).Fz b):=by
   intro i j L nj G T U J b;rw[q.io j G];obtain⟨y,Q⟩:=q.lv G U;have n:=p.hdr j y (.inr nj) Q;refine⟨λf=> ?_,λwc hc f=> ?_⟩
   ·rcases q.fresh i L T b f with⟨h1,_⟩|⟨k,z,_,c,dk,e⟩
    ·exact⟨λx=>by have:=n.lt (.inl x);omega,λx=>by have:=n.lt (.inr x);omega⟩
    ·exact p.inj H0 (.inl (Foot.add_Fi.2 (.inr z.fi))) (.inr nj) c ⟨y,Q⟩ (λe=>dk (e▸U)) b e
   ·rcases q.freshF i L T b f with⟨h1,_⟩|⟨k,z,_,c,dk,e⟩|⟨k,fk,_,lk,e⟩
    ·have:=n.lt (.inl hc);omega
    ·exact(p.inj H0 (.inl (Foot.add_Fi.2 (.inr z.fi))) (.inr nj) c ⟨y,Q⟩ (λe=>dk (e▸U)) b e).1 hc
    ·by_cases hkj:k=j
     ·subst hkj;exact n.self hc e
     ·exact(p.inj H0 (.inr nj) (.inl (Foot.add_Fi.2 (.inr fk))) (q.wrm j G wc) lk (Ne.symm hkj) b hc).2 e
  intro i j hi hj T U J b f;by_cases L:M i
  ·by_cases G:M j
   ·exact q.dist i j L G T U J b f
   ·exact(mixed i j L (hj.resolve_right G) G T.lv U J b).1 f
  ·by_cases G:M j
   ·have m:=mixed j i G (hi.resolve_right L) L U T.lv J.symm b;exact⟨λx=>(m.1 x).1 f,m.2 T f⟩
   ·rw[q.io i L] at f;rw[q.io j G];exact p.dist i j (hi.resolve_right L) (hj.resolve_right G) (q.wrm i L T) (q.lv G U) J b f
 nl:=λid g=>g.elim (p.nl id) (hl id)
 wl:=by
  intro id k hw g;have nn:¬N id:=λx=>g (.inl x)
  rcases Foot.add_Wc.1 hw with hw|hw
  ·exact p.wl id k hw nn
  ·exact p.lv nn (q.wl id k hw λx=>g (.inr x))
 wrm:=λid g wr=>p.wrm id (λx=>g (.inl x)) (q.wrm id (λx=>g (.inr x)) wr)
 wrow:=by
  intro id k hw hwi g;have nn:¬N id:=λx=>g (.inl x)
  have F:¬M id:=λx=>g (.inr x)
  have E:¬φ.Wi id:=λx=>hwi (Foot.add_Wi.2 (.inl x))
  rcases Foot.add_Wc.1 hw with hw|hw
  ·exact p.wrow id k hw E nn
  ·have:=q.wrow id k hw (λx=>hwi (Foot.add_Wi.2 (.inr x))) F;rw[p.ahdr id nn E] at this;exact this
end
end Go.Eng
end
end
section
noncomputable section
namespace Go.Eng
open Go
inductive OT where
 |d (t:Ty)
 |vec (t:Ty) (e:TypeId)
 |unit
 |pair (a b:OT)
 |ptr (a:OT) (e:TypeId)
 |con (vs:List Value)
@[reducible] def OT.Den:OT->Type
 | .d t=>t.Den
 | .vec t _=>List t.Den
 | .unit=>Unit
 | .pair a b=>a.Den×b.Den
 | .ptr a _=>a.Den
 | .con _=>Unit
def OT.sz:OT->Nat
 | .d t=>t.sz
 | .vec _ _=>1
 | .unit=>0
 | .pair a b=>a.sz+b.sz
 | .ptr _ _=>1
 | .con vs=>vs.length
def OT.agg:OT->Bool
 | .d t=>t.agg
 | .unit=>true
 | .pair _ _=>true
 | .con _=>true
 |_=>false
@[reducible] def Bz:List OT->Type
 |[]=>Unit
 |t::ts=>t.Den×Bz ts
def U3 (P:Program) (w:World) (fz:Nat->Option (Array Value)):(t:OT)->t.Den->List Value->List Nat->Prop
 | .d t,x,f,own=>own=[]/\Bj fz t x f
 | .vec t e,j,f,own=>∃r:Reg,f=[r.sv]/\own=(bif r.own then [r.blk] else [])/\Am P (λ_=>r) 0 w (.vec t j e)/\∀b c,r.fz b=some c->fz b=some c
 | .unit,_,f,own=>f=[]/\own=[]
 | .pair a b,x,f,own=>∃c1 c2 g i,f=c1++c2/\own=g++i/\U3 P w fz a x.1 c1 g/\U3 P w fz b x.2 c2 i
 | .ptr a e,x,f,own=>∃(r:Reg) (h:List Value) (g:List Nat),f=[.pointer (some ⟨r.blk,r.base,none⟩)]/\own=r.blk::g/\Am P (λ_=>r) 0 w (.row h.length e false)/\
  (∀(k:Nat) u,h[k]?=some u->w.cell? ⟨r.blk,r.base+k,none⟩=some u)/\U3 P w fz a x h g
 | .con vs,_,f,own=>own=[]/\f=vs/\vs.all (AW 2)=true
def OW (P:Program) (w:World) (fz:Nat->Option (Array Value)) (r:Reg) (a:OT) (e:TypeId) (x:a.Den) (own:List Nat):Prop:=
 ∃b:List Value,Am P (λ_=>r) 0 w (.row b.length e false)/\(∀(k:Nat) u,b[k]?=some u->w.cell? ⟨r.blk,r.base+k,none⟩=some u)/\U3 P w fz a x b own
def OX (P:Program) (w:World) (fz:Nat->Option (Array Value)):(rs:List OT)->Bz rs->List Value->List Nat->Prop
 |[],_,vs,own=>vs=[]/\own=[]
 |r::rs,y,vs,own=>∃v a b c,vs=v::a/\own=b++c/\((r.agg=true/\∃d:Array Value,v=.agg d/\U3 P w fz r y.1 d.toList b)\/(r.agg=false/\U3 P w fz r y.1 [v] b))/\OX P w fz rs y.2 a c
structure OSpec where
 rb:Bool
 ri:Nat
 root:OT
 re:TypeId
 ts:List OT
 rs:List OT
 pre:root.Den->Bz ts->Bool
 g:root.Den->Bz ts->root.Den×Bz rs
def FF (rb:Bool) (r:Reg):List Nat:=bif rb then [r.blk] else []
def aV (rb:Bool) (r:Reg):List Value:=bif rb then [.pointer (some ⟨r.blk,r.base,none⟩)] else []
def Dm (k:Nat) (a l:List Value):List Value:=l.take k++(a++l.drop k)
theorem ABd (k:Nat) (l:List Value):Dm k [] l=l:=by simp[Dm]
theorem aW (k:Nat) (b:List Value) (a:Value) (l:List Value):Dm (k+1) b (a::l)=a::Dm k b l:=by simp[Dm]
def UH:Nat->List Value->Option (Value×List Value)
 |0,v::r=>some (v,r)
 |k+1,v::r=>match UH k r with
  |some (u,a)=>some (u,v::a)
  |none=>none
 |_,[]=>none
end Go.Eng
end
end
section
noncomputable section
namespace Go.Eng
open Go
inductive AO where
 |row (cells:List Value) (elem:TypeId) (ro:Bool)
 |iter (s:ByteArray) (pos:Nat)
 |dat (t:Ty) (xs:List t.Den)
 |vec (t:Ty) (xs:List t.Den) (elem:TypeId)
def AO.hd:AO->Hd
 | .row b e c=>.row b.length e c
 | .iter s p=>.iter s p
 | .dat t a=>.dat t a
 | .vec t a e=>.vec t a e
structure St where
 heap:Tr AO
 next:Nat
 pc:List Bool
 ora:List Nat
def C5:List Bool->Prop
 |[]=>True
 |p::a=>p=true/\C5 a
def St.Ok (σ:St):Prop:=C5 σ.pc
def DH:Option AO->Nat->Option Value
 |some (.row a _ _),k=>a[k]?
 |_,_=>none
def St.H (σ:St):H:=⟨λid=>(σ.heap.get id).map AO.hd,λid k=>DH (σ.heap.get id) k⟩
def St.wf (σ:St):Prop:=∀id,σ.next<=id->σ.heap.get id=none
def St.rng (σ σ':St) (id:Nat):Prop:=σ.next<=id/\id<σ'.next
def St.new (σ:St) (o:AO):St:=⟨σ.heap.set σ.next (some o),σ.next+1,σ.pc,σ.ora⟩
def St.put (σ:St) (id:Nat) (o:Option AO):St:=⟨σ.heap.set id o,σ.next,σ.pc,σ.ora⟩
theorem St.lv_lt {σ:St} (b:σ.wf) {id:Nat} (h:Lv σ.H id):id<σ.next:=by
 rcases Nat.lt_or_ge id σ.next with c|d
 ·exact c
 ·obtain⟨x,a⟩:=h;simp only[St.H] at a;rw[b id d] at a;cases a
theorem St.hdr_none {σ:St} (a:σ.wf) (id:Nat) (b:σ.next<=id):σ.H.hdr id=none:=by simp only[St.H,a id b,Option.map_none]
theorem St.new_wf {σ:St} (a:σ.wf) (o:AO):(σ.new o).wf:=by
 intro id h;simp only[St.new] at h⊢;rw[Tr.set_get,if_neg (by omega)];exact a id (by omega)
theorem St.put_wf {σ:St} (a:σ.wf) {id:Nat} (b:id<σ.next) (o:Option AO):(σ.put id o).wf:=by
 intro j h;simp only[St.put] at h⊢;rw[Tr.set_get,if_neg (by omega)];exact a j (by omega)
theorem St.new_hdr (σ:St) (o:AO) (j:Nat):(σ.new o).H.hdr j=if j=σ.next then some o.hd else σ.H.hdr j:=by
 simp only[St.H,St.new,Tr.set_get];split<;>rfl
theorem St.new_cell (σ:St) (o:AO) (j k:Nat):(σ.new o).H.cell j k=if j=σ.next then DH (some o) k else σ.H.cell j k:=by
 simp only[St.H,St.new,Tr.set_get];split<;>rfl
theorem St.put_hdr (σ:St) (id:Nat) (o:Option AO) (j:Nat):(σ.put id o).H.hdr j=if j=id then o.map AO.hd else σ.H.hdr j:=by
 simp only[St.H,St.put,Tr.set_get];split<;>rfl
theorem St.put_cell (σ:St) (id:Nat) (o:Option AO) (j k:Nat):(σ.put id o).H.cell j k=if j=id then DH o k else σ.H.cell j k:=by
 simp only[St.H,St.put,Tr.set_get];split<;>rfl
theorem St.hdr_of {σ:St} {id:Nat} {o:AO} (h:σ.heap.get id=some o):σ.H.hdr id=some o.hd:=by simp[St.H,h]
theorem St.cell_of {σ:St} {id:Nat} {a:List Value} {e:TypeId} {b:Bool} (h:σ.heap.get id=some (.row a e b)) (k:Nat):σ.H.cell id k=a[k]?:=by simp[St.H,h,DH]
theorem St.lv_of {σ:St} {id:Nat} {o:AO} (h:σ.heap.get id=some o):Lv σ.H id:=⟨_,St.hdr_of h⟩
structure R where
 v:Value
 σ:St
 φ:Foot
structure AFr (σ σ':St) (φ:Foot):Prop where
 h:∀id,¬σ.rng σ' id->¬φ.Wi id->σ'.H.hdr id=σ.H.hdr id
 c:∀id k,¬σ.rng σ' id->¬φ.Wc id k->σ'.H.cell id k=σ.H.cell id k
 ok:σ'.Ok->σ.Ok
theorem AFr.refl (σ:St) (φ:Foot):AFr σ σ φ:=⟨λ_ _ _=>rfl,λ_ _ _ _=>rfl,λh=>h⟩
theorem AFr.new (σ:St) (o:AO) (φ:Foot):AFr σ (σ.new o) φ:=
 ⟨λid a _=>by rw[St.new_hdr,if_neg λe=>a (by subst e;simp[St.rng,St.new])],λid k a _=>by rw[St.new_cell,if_neg λe=>a (by subst e;simp[St.rng,St.new])],λh=>h⟩
theorem AFr.put {σ:St} {id:Nat} {c b:List Value} {a:TypeId} {φ:Foot} (d:σ.heap.get id=some (.row c a false)) (f:b.length=c.length) (g:∀k,(id,k)∉φ.wc->b[k]?=c[k]?):
   AFr σ (σ.put id (some (.row b a false))) φ:=
 ⟨λj _ _=>by
   rw[St.put_hdr]
   split
   ·rename_i e;subst e;rw[St.hdr_of d];simp[AO.hd,f]
   ·rfl,
  λj k _ i=>by
   rw[St.put_cell]
   split
   ·rename_i e;subst e;rw[St.cell_of d];exact g k λl=>i (.inl l)
   ·rfl,λh=>h⟩
theorem AFr.whole {σ:St} {id:Nat} {o:Option AO} {φ:Foot} (b:id∈φ.wh):AFr σ (σ.put id o) φ:=
 ⟨λj _ a=>by rw[St.put_hdr,if_neg λe=>a (by subst e;exact b)],λj k _ a=>by rw[St.put_cell,if_neg λe=>a (by subst e;exact .inr b)],λh=>h⟩
theorem AFr.giveUp {σ:St} {id:Nat} {o:AO} {φ:Foot} (i:id∈φ.wh):AFr σ ((σ.put id none).new o) φ:=by
 have a:=AFr.whole (σ:=σ) (o:=none) (φ:=φ) i;have b:=AFr.new (σ.put id none) o φ;have g:∀j,¬σ.rng ((σ.put id none).new o) j->¬(σ.put id none).rng ((σ.put id none).new o) j:=λj l=>l
 have d:∀j,¬σ.rng (σ.put id none) j:=λj=>by simp only[St.rng,St.put];omega
 exact⟨λj f e=>(b.h j (g j f) e).trans (a.h j (d j) e),λj k f e=>(b.c j k (g j f) e).trans (a.c j k (d j) e),λh=>h⟩
theorem AFr.trans {σ σ1 σ2:St} {φ ψ:Foot} (h1:AFr σ σ1 φ) (h2:AFr σ1 σ2 ψ) (f:σ.next<=σ1.next) (g:σ1.next<=σ2.next):AFr σ σ2 (φ.add ψ):=by
 have d:∀j,¬σ.rng σ2 j->¬σ.rng σ1 j:=λj=>by simp only[St.rng];omega
 have e:∀j,¬σ.rng σ2 j->¬σ1.rng σ2 j:=λj=>by simp only[St.rng];omega
 exact⟨λj a b=>(h2.h j (e j a) λx=>b (Foot.add_Wi.2 (.inr x))).trans (h1.h j (d j a) λx=>b (Foot.add_Wi.2 (.inl x))),
  λj k a b=>(h2.c j k (e j a) λx=>b (Foot.add_Wc.2 (.inr x))).trans (h1.c j k (d j a) λx=>b (Foot.add_Wc.2 (.inl x))),λh=>h1.ok (h2.ok h)⟩
def St.assume (σ:St) (p:Bool):St:=⟨σ.heap,σ.next,p::σ.pc,σ.ora⟩
def St.decide (σ:St) (p:Bool) (ds:List Nat):St:=⟨σ.heap,σ.next,p::σ.pc,ds⟩
theorem St.assume_ok {σ:St} {p:Bool}:(σ.assume p).Ok↔p=true/\σ.Ok:=Iff.rfl
theorem AFr.assume {σ σ':St} {φ:Foot} (a:AFr σ σ' φ) (p:Bool):AFr σ (σ'.assume p) φ:=⟨a.h,a.c,λh=>a.ok h.2⟩
theorem AFr.decide {σ σ':St} {φ:Foot} (a:AFr σ σ' φ) (p:Bool) (ds:List Nat):AFr σ (σ'.decide p ds) φ:=⟨a.h,a.c,λh=>a.ok h.2⟩
def AF (P:Program) (D:Nat->Prop) (ι:Nat->Reg) (σ:St) (w:World) (e:Sem Value) (r:R):Prop:=
 σ.next<=r.σ.next/\(σ.wf->r.σ.wf/\AFr σ r.σ r.φ)/\(σ.wf->(∀id,σ.rng r.σ id->¬D id)->HOn P D ι σ.H r.φ w->
  ∃v' ι' w',e.run P w=.ok v' w'/\VR (λi=>D i\/σ.rng r.σ i) ι' r.v v'/\Post P D (σ.rng r.σ) ι σ.H w r.φ ι' r.σ.H w')
theorem St.rng_self (σ:St) (id:Nat):¬σ.rng σ id:=by simp only[St.rng];omega
theorem Post.same {P:Program} {D N:Nat->Prop} {ι:Nat->Reg} {h:H} {w w':World} {φ:Foot} (a:∀id,¬N id) (h1:w'.heap=w.heap) (h2:w'.os=w.os) (e:w'.output=w.output)
  (d:φ.wc=[]) (c:φ.wh=[]):Post P D N ι h w φ ι h w' where
 io:=λ_ _=>rfl
 size:=by rw[h1];exact Nat.le_refl _
 os:=h2
 out:=e
 hdr:=λid x hx=>by rcases hx with hx|hx;simp[Foot.Wi,c] at hx;exact absurd hx (a id)
 cel:=λid k v hx=>by rcases hx with hx|hx;simp[Foot.Wc,d,c] at hx;exact absurd hx (a id)
 ahdr:=λ_ _ _=>rfl
 acel:=λ_ _ _ _=>rfl
 cfr:=λb _ _=>by rw[h1];exact BC.refl _ _
 fresh:=λid hx=>absurd hx (a id)
 freshF:=λid hx=>absurd hx (a id)
 dist:=λi _ hx=>absurd hx (a i)
 nl:=λid hx=>absurd hx (a id)
 wl:=λid k hx=>by simp[Foot.Wc,d,c] at hx
 wrm:=λ_ _ hx=>hx
 wrow:=λid k hx=>by simp[Foot.Wc,d,c] at hx
theorem AF.same {P:Program} {D:Nat->Prop} {ι:Nat->Reg} {σ:St} {w w':World} {e:Sem Value} {v v':Value} {φ:Foot}
  (h:HOn P D ι σ.H φ w->e.run P w=.ok v' w'/\VR D ι v v'/\w'.heap=w.heap/\w'.os=w.os/\w'.output=w.output) (a:φ.wc=[]) (b:φ.wh=[]):
  AF P D ι σ w e ⟨v,σ,φ⟩:=by
 refine⟨Nat.le_refl _,λc=>⟨c,AFr.refl _ _⟩,λ_ _ d=> ?_⟩;obtain⟨h1,h2,f,g,i⟩:=h d;exact⟨v',ι,w',h1,h2.mono (λ_=>.inl) λ_ _=>rfl,Post.same (St.rng_self σ) f g i a b⟩
theorem AF.pure {P:Program} {D:Nat->Prop} {ι:Nat->Reg} {σ:St} {w:World} {e:Sem Value} {v v':Value}
  (h:e.run P w=.ok v' w) (a:VR D ι v v'):AF P D ι σ w e ⟨v,σ,.nil⟩:=
 AF.same (λ_=>⟨h,a,rfl,rfl,rfl⟩) rfl rfl
def EG (ι:Nat->Reg) (id:Nat) (r:Reg):Nat->Reg:=λj=>if j=id then r else ι j
theorem AV (ι:Nat->Reg) (id:Nat) (r:Reg):EG ι id r id=r:=by simp[EG]
theorem Dz (ι:Nat->Reg) {id j:Nat} (r:Reg) (h:j≠id):EG ι id r j=ι j:=by simp[EG,h]
theorem Ii (a b c d x:Nat):¬(rg a b c d).Fz x:=by rintro⟨c,h⟩;simp[rg] at h
theorem MV {ι:Nat->Reg} {id a b c d:Nat}:(EG ι id (rg a b c d) id).own=true/\∀x,¬(EG ι id (rg a b c d) id).Fz x:=by rw[AV];exact⟨rfl,Ii a b c d⟩
theorem St.rng_new {σ:St} {o:AO} {id:Nat}:σ.rng (σ.new o) id↔id=σ.next:=by simp only[St.rng,St.new];omega
theorem Af (w:World) (o:Obj) {b:Nat} (h:b<w.heap.size):(w.heap.push o)[b]?=w.heap[b]?:=by
 rw[Array.getElem?_push,if_neg (by omega)]
theorem Al (w:World) (o:Obj):(w.heap.push o)[w.heap.size]?=some o:=by
 rw[Array.getElem?_push,if_pos rfl]
theorem Post.new {P:Program} {D:Nat->Prop} {ι:Nat->Reg} {σ:St} {w w':World} {m:List Value} {c:Array Value} {a:TypeId} {fr:Nat×Nat} {esz:Nat} {φ:Foot} (s:σ.wf)
  (t:¬D σ.next) (l:m.length<=c.size) (r:∀i,P.info? a=some i->esz=i.size/\c.size%i.size=0) (u:∀o,o<c.size->¬(fr.1<=o/\o<fr.2))
  (y:∀(k:Nat) v,m[k]?=some v->∃v',c[k]?=some v'/\VR D ι v v') (h1:w'.heap=w.heap.push (.cells c a fr)) (h2:w'.os=w.os) (z:w'.output=w.output)
  (p:φ.wc=[]) (n:φ.wh=[]):
  Post P D (σ.rng (σ.new (.row m a false))) ι σ.H w φ (EG ι σ.next (rg w.heap.size 0 c.size esz)) (σ.new (.row m a false)).H w' where
 io:=λid d=>Dz _ _ λe=>d (St.rng_new.2 e)
 size:=by rw[h1];simp
 os:=h2
 out:=z
 hdr:=by
  rintro id x (hx|hx) e
  ·simp[Foot.Wi,n] at hx
  ·obtain rfl:=St.rng_new.1 hx;rw[St.new_hdr,if_pos rfl] at e;cases e;simp only[Am,AO.hd,AV];exact⟨c,a,fr,by rw[h1];exact Al _ _,by simp[rg],l,⟨rfl,λb ⟨c,h⟩=>by simp[rg] at h⟩,λ_=>⟨rfl,λi g=>⟨(r i g).1,by simp[rg],(r i g).2⟩,u⟩⟩
 cel:=by
  rintro id k v (hx|hx) lv e
  ·simp[Foot.Wc,p,n] at hx
  ·obtain rfl:=St.rng_new.1 hx;rw[St.new_cell,if_pos rfl] at e;obtain⟨v',A,B⟩:=y k v e;refine⟨by rw[AV];rfl,v',?_,B.mono (λ_=>.inl) λi g=>Dz _ _ λe=>t (e▸g)⟩;simp only[World.cell?,AV,h1,rg,Al,Option.isSome_none,Bool.false_eq_true,if_false,Nat.zero_add];exact A
 ahdr:=λid d _=>by rw[St.new_hdr,if_neg λe=>d (St.rng_new.2 e)]
 acel:=λid k d _=>by rw[St.new_cell,if_neg λe=>d (St.rng_new.2 e)]
 cfr:=λb f _=>by rw[h1,Af _ _ f];exact BC.refl _ _
 fresh:=λid d _ b f=>by
  obtain rfl:=St.rng_new.1 d;rw[AV] at f;obtain⟨_,rfl⟩:=f;left;rw[h1];simp[rg]
 freshF:=λid d _ b f=>by
  obtain rfl:=St.rng_new.1 d;rw[AV] at f;obtain⟨_,f⟩:=f;simp[rg] at f
 dist:=λi j g C _ _ q=>by
  obtain rfl:=St.rng_new.1 g;exact absurd (St.rng_new.1 C).symm q
 nl:=λid d=>by
  obtain rfl:=St.rng_new.1 d;simp[St.H,s σ.next (Nat.le_refl _)]
 wl:=λid k hx=>by simp[Foot.Wc,p,n] at hx
 wrm:=λid d hx=>by
  refine hx.of_hdr ?_;rw[St.new_hdr,if_neg λe=>d (St.rng_new.2 e)]
 wrow:=λid k hx=>by simp[Foot.Wc,p,n] at hx
theorem Post.newIter {P:Program} {D:Nat->Prop} {ι:Nat->Reg} {σ:St} {w:World} {s:ByteArray} {f:Nat} (l:σ.wf):
  Post P D (σ.rng (σ.new (.iter s f))) ι σ.H w .nil (EG ι σ.next (rg w.heap.size 0 0 0)) (σ.new (.iter s f)).H { w with heap:=w.heap.push (.stringIter s f)} where
 io:=λid a=>Dz _ _ λe=>a (St.rng_new.2 e)
 size:=by simp
 os:=rfl
 out:=rfl
 hdr:=by
  rintro id x (hx|hx) e
  ·cases hx
  ·obtain rfl:=St.rng_new.1 hx;rw[St.new_hdr,if_pos rfl] at e;cases e;simp only[Am,AO.hd,AV];exact⟨Al _ _,rfl,rfl,λb ⟨c,h⟩=>by simp[rg] at h⟩
 cel:=by
  rintro id k v (hx|hx) lv e
  ·rcases hx with hx|hx<;>cases hx
  ·obtain rfl:=St.rng_new.1 hx;rw[St.new_cell,if_pos rfl] at e;cases e
 ahdr:=λid a _=>by rw[St.new_hdr,if_neg λe=>a (St.rng_new.2 e)]
 acel:=λid k a _=>by rw[St.new_cell,if_neg λe=>a (St.rng_new.2 e)]
 cfr:=λb d _=>by rw[Af _ _ d];exact BC.refl _ _
 fresh:=λid a _ b d=>by
  obtain rfl:=St.rng_new.1 a;rw[AV] at d;obtain⟨_,rfl⟩:=d;left;simp[rg]
 freshF:=λid a _ b d=>by
  obtain rfl:=St.rng_new.1 a;rw[AV] at d;obtain⟨_,d⟩:=d;simp[rg] at d
 dist:=λi j m n _ _ g=>by
  obtain rfl:=St.rng_new.1 m;exact absurd (St.rng_new.1 n).symm g
 nl:=λid a=>by
  obtain rfl:=St.rng_new.1 a;simp[St.H,l σ.next (Nat.le_refl _)]
 wl:=λid k hx=>by rcases hx with hx|hx<;>cases hx
 wrm:=λid a hx=>by
  refine hx.of_hdr ?_;rw[St.new_hdr,if_neg λe=>a (St.rng_new.2 e)]
 wrow:=λid k hx=>by rcases hx with hx|hx<;>cases hx
theorem Post.setIter {P:Program} {D:Nat->Prop} {ι:Nat->Reg} {σ:St} {w:World} {s:ByteArray} {d a id:Nat} (f:σ.heap.get id=some (.iter s d)) (hd:Am P ι id w (.iter s d)):
  Post P D (σ.rng (σ.put id (some (.iter s a)))) ι σ.H w ⟨[],[],[],[id]⟩ ι (σ.put id (some (.iter s a))).H { w with heap:=w.heap.setIfInBounds (ι id).blk (.stringIter s a)} where
 io:=λ_ _=>rfl
 size:=by simp
 os:=rfl
 out:=rfl
 hdr:=by
  rintro j x (hx|hx) e
  ·have:j=id:=by simpa[Foot.Wi] using hx
   subst this;rw[St.put_hdr,if_pos rfl] at e;cases e;refine⟨?_,hd.2⟩;have:=Ap hd.1;simp[this]
  ·simp only[St.rng,St.put] at hx;omega
 cel:=by
  rintro j k v (hx|hx) lv e
  ·have:j=id:=by simpa[Foot.Wc] using hx
   subst this;rw[St.put_cell,if_pos rfl] at e;cases e
  ·simp only[St.rng,St.put] at hx;omega
 ahdr:=λj _ hx=>by rw[St.put_hdr,if_neg λe=>hx (by simp[Foot.Wi,e])]
 acel:=λj k _ hx=>by rw[St.put_cell,if_neg λe=>hx (by simp[Foot.Wc,e])]
 cfr:=λb g hx=>by
  have:(ι id).blk≠b:=λe=>hx id (by simp[Foot.Wi]) ⟨_,St.hdr_of f,trivial⟩ ⟨hd.2.2.1,e⟩
  simp only[Array.getElem?_setIfInBounds,if_neg this];exact BC.refl _ _
 fresh:=λj c=>by simp only[St.rng,St.put] at c;omega
 freshF:=λj c=>by simp only[St.rng,St.put] at c;omega
 dist:=λi j c=>by simp only[St.rng,St.put] at c;omega
 nl:=λj c=>by simp only[St.rng,St.put] at c;omega
 wl:=λj k hx _=>by
  have:j=id:=by simpa[Foot.Wc] using hx
  subst this;exact St.lv_of f
 wrm:=λj _ hx=>by
  by_cases e:j=id
  ·subst e;exact⟨_,St.hdr_of f,trivial⟩
  ·exact hx.of_hdr (by rw[St.put_hdr,if_neg e])
 wrow:=λj k hx c=>absurd (by rcases hx with hx|hx;cases hx;exact hx) c
def BQ:Array Value->Nat->List Value->Array Value
 |c,_,[]=>c
 |c,o,v::vs=>BQ (c.setIfInBounds o v) (o+1) vs
theorem AJ:∀(vs:List Value) (c:Array Value) (o:Nat),(BQ c o vs).size=c.size
 |[],_,_=>rfl
 |v::vs,c,o=>by rw[BQ,AJ vs];simp
theorem Bo:∀(vs:List Value) (c:Array Value) (o k:Nat),o+vs.length<=c.size->(BQ c o vs)[k]?=if o<=k/\k<o+vs.length then vs[k-o]? else c[k]?
 |[],c,o,k,_=>by rw[BQ,if_neg (by simp only[List.length_nil];omega)]
 |v::vs,c,o,k,h=>by
  simp only[List.length_cons] at h⊢;rw[BQ,Bo vs _ _ _ (by simp;omega)];by_cases b:k=o
  ·subst b;rw[if_neg (by omega),if_pos (by omega)];simp only[Array.getElem?_setIfInBounds,if_pos,Nat.sub_self,List.getElem?_cons_zero];rw[if_pos (by omega)]
  ·by_cases a:o<=k/\k<o+(vs.length+1)
   ·rw[if_pos (by omega),if_pos a,show k-o=(k-(o+1))+1 by omega,List.getElem?_cons_succ]
   ·rw[if_neg (by omega),if_neg a,Array.getElem?_setIfInBounds_ne (by omega)]
def QX:List Value->Bool
 |[.chan (some (_+1)),_]=>true
 |_=>false
def oneC:Value->Bool
 | .agg _| .chan (some _)=>false
 | .tuple a=>QX a.toList
 |_=>true
def aX:Value->Bool
 | .agg _| .tuple _| .chan (some _)=>false
 |_=>true
theorem GW {v:Value} (h:aX v=true):v.oneCell'=true:=by cases v<;>first|rfl|cases h
theorem VR.no_chan {D:Nat->Prop} {ι:Nat->Reg} {v':Value} {n:Nat} (h:VR D ι (.chan (some (n+1))) v'):False:=by cases h
theorem Ws {l:List Value} (h:QX l=true):∃n v,l=[.chan (some (n+1)),v]:=by
 unfold QX at h
 split at h
 ·exact⟨_,_,rfl⟩
 ·cases h
theorem VR.oneC {D:Nat->Prop} {ι:Nat->Reg} {v v':Value} (h:VR D ι v v') (h1:oneC v=true):aX v'=true:=by
 cases h with
 |sym _ h=>cases v'<;>first|rfl|cases h
 |err _ _ h=>cases v'<;>first|rfl|cases h
 |aint _ _=>rfl
 |tuple as bs b h=>
  obtain⟨n,v,c⟩:=Ws h1;have a:as[0]?=some (.chan (some (n+1))):=by rw[<-Array.getElem?_toList,c];rfl
  have d:bs[0]?=some (bs[0]'(by rw[<-b];rcases Nat.lt_or_ge 0 as.size with h|h;exact h;rw[Array.getElem?_eq_none h] at a;cases a)):=Array.getElem?_eq_getElem _;exact(h 0 _ _ a d).no_chan.elim
 |_=>first|rfl|cases h1
theorem DI (P:Program) (b o:Nat) (e:TypeId) (fr:Nat×Nat):∀(vs:List Value) (i:Nat) (c:Array Value) (w:World),w.heap[b]?=some (.cells c e fr)->o+i+vs.length<=c.size->
  (∀v∈vs,aX v=true)->(∀j,j<c.size->¬(fr.1<=j/\j<fr.2))->
  (storeCells ⟨b,o,none⟩ vs i).run P w=.ok () { w with heap:=w.heap.setIfInBounds b (.cells (BQ c (o+i) vs) e fr)}
 |[],i,c,w,h,_,_,_=>by
  have:w.heap.setIfInBounds b (.cells c e fr)=w.heap:=by
   apply Array.ext_getElem?;intro j;rw[Array.getElem?_setIfInBounds]
   split
   ·rename_i f;subst f
    split
    ·exact h.symm
    ·rename_i t;rw[Array.getElem?_eq_none (by omega)]
   ·rfl
  simp only[storeCells,BQ,this];rfl
 |v::vs,i,c,w,h,m,h1,k=>by
  simp only[List.length_cons] at m;have a:(⟨b,o,none⟩:Addr).add i=⟨b,o+i,none⟩:=by
   unfold Addr.add;split
   ·rename_i n;subst n;rfl
   ·rfl
  have p:w.cell? ⟨b,o+i,none⟩=some (c[o+i]'(by omega)):=by
   simp only[World.cell?,h,Option.isSome_none,Bool.false_eq_true,if_false];exact Array.getElem?_eq_getElem (by omega)
  have g:w.frozen? ⟨b,o+i,none⟩=false:=by
   have:=k (o+i) (by omega);simp only[World.frozen?,h];simpa using this
  have SQ:=run_store P w ⟨b,o+i,none⟩ v .plain (GW (h1 v (by simp)));rw[p] at SQ;simp only[g,Bool.false_eq_true,if_false] at SQ;have l:b<w.heap.size:=by
   rcases Nat.lt_or_ge b w.heap.size with q|r
   ·exact q
   ·rw[Array.getElem?_eq_none r] at h;cases h
  have d:w.setCell ⟨b,o+i,none⟩ v={ w with heap:=w.heap.setIfInBounds b (.cells (c.setIfInBounds (o+i) v) e fr)}:=by
   simp only[World.setCell];congr 1;apply Array.ext_getElem?;intro j;rw[Array.getElem?_modify,Array.getElem?_setIfInBounds]
   split
   ·rename_i f;subst f
    first|(rw[h];rfl)|simp[h,l]
   ·rfl
  simp only[storeCells,Sem.run_bind,a,SQ,Result.andThen_ok,d];rw[DI P b o e fr vs (i+1) (c.setIfInBounds (o+i) v) _ (by simp[l]) (by simp;omega) (λx s=>h1 x (by simp[s])) (by simpa using k)];simp only[BQ,Array.setIfInBounds_setIfInBounds];rfl
theorem Post.write {P:Program} {D:Nat->Prop} {ι:Nat->Reg} {σ:St} {w w':World} {id:Nat} {r d:List Value} {c i:Array Value} {a:TypeId} {fr:Nat×Nat} {rc wc:List (Nat×Nat)} {rh:List Nat}
  (m:σ.heap.get id=some (.row r a false)) (hd:Am P ι id w (.row r.length a false)) (u:w.heap[(ι id).blk]?=some (.cells c a fr)) (h1:w'.heap=w.heap.setIfInBounds (ι id).blk (.cells i a fr))
  (h2:w'.os=w.os) (y:w'.output=w.output) (z:i.size=c.size) (A:d.length=r.length) (s:∀p,p∈wc->p.1=id)
  (g:∀o,(∀k,(id,k)∈wc->(ι id).base+k≠o)->i[o]?=c[o]?) (h:∀k v,(id,k)∈wc->d[k]?=some v->∃v',i[(ι id).base+k]?=some v'/\VR D ι v v')
  (B:∀k,(id,k)∉wc->d[k]?=r[k]?):
  Post P D (σ.rng (σ.put id (some (.row d a false)))) ι σ.H w ⟨rc,rh,wc,[]⟩ ι (σ.put id (some (.row d a false))).H w':=by
 have t:=hd.lt (.inl hd.own_row);have f:w'.heap[(ι id).blk]?=some (.cells i a fr):=by rw[h1];simp[t]
 have l:∀j,¬σ.rng (σ.put id (some (.row d a false))) j:=λj=>by simp only[St.rng,St.put];omega
 have n:∀j,(σ.put id (some (.row d a false))).H.hdr j=σ.H.hdr j:=λj=>by
  rw[St.put_hdr]
  split
  ·rename_i e;subst e;rw[St.hdr_of m];simp[AO.hd,A]
  ·rfl
 have hid:∀j k,(⟨rc,rh,wc,[]⟩:Foot).Wc j k->j=id/\(j,k)∈wc:=λj k hx=>by
  have:(j,k)∈wc:=by simpa[Foot.Wc] using hx
  exact⟨s _ this,this⟩
 exact {
  io:=λ_ _=>rfl
  size:=by rw[h1];simp
  os:=h2
  out:=y
  hdr:=λj x hx=>by rcases hx with hx|hx;simp[Foot.Wi] at hx;exact absurd hx (l j)
  cel:=by
   rintro j k v (hx|hx) lv e
   ·obtain⟨rfl,q⟩:=hid j k hx;rw[St.put_cell,if_pos rfl] at e;obtain⟨v',C,E⟩:=h k v q e;exact⟨hd.own_row.1,v',by simp only[World.cell?,f,Option.isSome_none,Bool.false_eq_true,if_false];exact C,E.mono (λ_=>.inl) λ_ _=>rfl⟩
   ·exact absurd hx (l j)
  ahdr:=λj _ _=>n j
  acel:=λj k _ hx=>by
   rw[St.put_cell]
   split
   ·rename_i e;subst e;rw[St.cell_of m];exact B k λq=>hx (.inl q)
   ·rfl
  cfr:=λb F _=>by
   by_cases e:b=(ι id).blk
   ·subst e;rw[u,f];refine⟨i,rfl,z,λo G=>g o λk q I=>G ⟨id,k,.inl q,⟨_,St.hdr_of m,rfl⟩,hd.own_row,I⟩⟩
   ·rw[h1,Array.getElem?_setIfInBounds_ne (Ne.symm e)];exact BC.refl _ _
  fresh:=λj hx=>absurd hx (l j)
  freshF:=λj hx=>absurd hx (l j)
  dist:=λj _ hx=>absurd hx (l j)
  nl:=λj hx=>absurd hx (l j)
  wl:=λj k hx _=>by
   obtain⟨rfl,_⟩:=hid j k hx;exact St.lv_of m
  wrm:=λj _ hx=>hx.of_hdr (n j)
  wrow:=λj k hx _ _=>by
   obtain⟨rfl,_⟩:=hid j k hx;exact⟨_,_,_,St.hdr_of m⟩}
theorem Post.giveUp {P:Program} {D:Nat->Prop} {ι:Nat->Reg} {σ:St} {w w':World} {id:Nat} {A c:List Value} {a:TypeId} {r:Reg} {rc:List (Nat×Nat)} {rh:List Nat} (y:σ.wf)
  (q:σ.heap.get id=some (.row A a false))
  (h1:∀b,b<w.heap.size->b≠(ι id).blk->w'.heap[b]?=w.heap[b]?) (h2:w'.os=w.os) (B:w'.output=w.output) (C:w.heap.size<=w'.heap.size)
  (E:Am P (EG ι σ.next r) σ.next w' (.row c.length a false)) (F:∀(k:Nat) v,c[k]?=some v->BL D (EG ι σ.next r) σ.next w' k v)
  (G:(w.heap.size<=r.blk/\r.blk<w'.heap.size)\/r.blk=(ι id).blk) (z:(ι id).own=true) (s:∀b,¬r.Fz b):
  Post P D (σ.rng ((σ.put id none).new (.row c a false))) ι σ.H w ⟨rc,rh,[],[id]⟩ (EG ι σ.next r) ((σ.put id none).new (.row c a false)).H w':=by
 have hid:id<σ.next:=St.lv_lt y (St.lv_of q);have f:∀j,σ.rng ((σ.put id none).new (.row c a false)) j↔j=σ.next:=λj=>by simp only[St.rng,St.put,St.new];omega
 have n:(σ.put id none).next=σ.next:=rfl;have g:∀j,((σ.put id none).new (.row c a false)).H.hdr j=if j=σ.next then some (.row c.length a false) else if j=id then none else σ.H.hdr j:=λj=>by
  rw[St.new_hdr,n,St.put_hdr];rfl
 have o:∀j k,((σ.put id none).new (.row c a false)).H.cell j k=if j=σ.next then c[k]? else if j=id then none else σ.H.cell j k:=λj k=>by
  rw[St.new_cell,n,St.put_cell];rfl
 have t:∀j,(⟨rc,rh,[],[id]⟩:Foot).Wi j->j=id:=λj hx=>by simpa[Foot.Wi] using hx
 have p:∀j k,(⟨rc,rh,[],[id]⟩:Foot).Wc j k->j=id:=λj k hx=>by simpa[Foot.Wc] using hx
 have d:¬Lv ((σ.put id none).new (.row c a false)).H id:=by
  rintro⟨x,hx⟩;rw[g,if_neg (by omega),if_pos rfl] at hx;cases hx
 exact {
  io:=λj hx=>Dz _ _ λe=>hx ((f j).2 e)
  size:=C
  os:=h2
  out:=B
  hdr:=by
   rintro j x (hx|hx) e
   ·obtain rfl:=t j hx;exact absurd ⟨x,e⟩ d
   ·obtain rfl:=(f j).1 hx;rw[g,if_pos rfl] at e;cases e;exact E
  cel:=by
   rintro j k v (hx|hx) lv e
   ·obtain rfl:=p j k hx;exact absurd lv d
   ·obtain rfl:=(f j).1 hx;rw[o,if_pos rfl] at e;exact(F k v e).more λ_=>.inl
  ahdr:=λj hx l=>by rw[g,if_neg λe=>hx ((f j).2 e),if_neg λe=>l (by simp[Foot.Wi,e])]
  acel:=λj k hx l=>by rw[o,if_neg λe=>hx ((f j).2 e),if_neg λe=>l (by simp[Foot.Wc,e])]
  cfr:=λb m hx=>by
   have:(ι id).blk≠b:=λe=>hx id (by simp[Foot.Wi]) ⟨_,St.hdr_of q,rfl⟩ ⟨z,e⟩
   rw[h1 b m this.symm];exact BC.refl _ _
  fresh:=λj hx _ b m=>by
   obtain rfl:=(f j).1 hx;rw[AV] at m;obtain⟨_,rfl⟩:=m;exact G.imp_right λe=>⟨id,by simp[Foot.Wi],λh=>by have:=(f id).1 h;omega,⟨_,St.hdr_of q,rfl⟩,d,z,e.symm⟩
  freshF:=λj hx _ b m=>by
   obtain rfl:=(f j).1 hx;rw[AV] at m;exact absurd m (s b)
  dist:=λi j I J _ _ u=>absurd (((f i).1 I).trans ((f j).1 J).symm) u
  nl:=λj hx=>by
   obtain rfl:=(f j).1 hx;simp[St.H,y σ.next (Nat.le_refl _)]
  wl:=λj k hx _=>by
   obtain rfl:=p j k hx;exact St.lv_of q
  wrm:=λj hx l=>by
   refine l.of_hdr ?_;rw[g,if_neg λe=>hx ((f j).2 e)]
   split
   ·rename_i e;subst e;exact absurd l.lv d
   ·rfl
  wrow:=λj k hx l=>absurd (by rcases hx with hx|hx;cases hx;exact hx) l}
