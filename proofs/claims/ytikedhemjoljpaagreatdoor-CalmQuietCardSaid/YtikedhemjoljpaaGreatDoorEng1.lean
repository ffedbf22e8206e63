/-
  The engine, part 1: an abstract evaluator over the model's code, proved sound. No condition.
-/
import Derived.Orders
import Derived.KernelRfl
import Derived.Laws.Sem
import Derived.Laws.Cells
section
noncomputable section
namespace Go.Eng
open Go
inductive Tr (α:Type) where
 |lf:Tr α
 |nd:Option α→Tr α→Tr α→Tr α
inductive Pth where
 |e:Pth
 |l:Pth→Pth
 |r:Pth→Pth
def pthF (n:Nat):Nat→Pth:=
 Nat.rec (motive:=fun _=>Nat→Pth) (fun _=>.e) (fun _ ih k=>Nat.rec .e (fun m _=>Nat.rec (.l (ih (Nat.div m 2))) (fun _ _=>.r (ih (Nat.div m 2))) (Nat.mod m 2)) k) n
def pthM (m:Nat):Pth:=Nat.rec (.l (pthF m (Nat.div m 2))) (fun _ _=>.r (pthF m (Nat.div m 2))) (Nat.mod m 2)
def pth (k:Nat):Pth:=Nat.rec .e (fun m _=>pthM m) k
def getP {α:Type} (p:Pth):Tr α→Option α:=
 Pth.rec (motive:=fun _=>Tr α→Option α) (fun t=>Tr.rec none (fun v _ _ _ _=>v) t) (fun _ ih t=>Tr.rec none (fun _ l _ _ _=>ih l) t) (fun _ ih t=>Tr.rec none (fun _ _ r _ _=>ih r) t) p
def setP {α:Type} (x:Option α) (p:Pth):Tr α→Tr α:=
 Pth.rec (motive:=fun _=>Tr α→Tr α) (fun t=>Tr.rec (.nd x .lf .lf) (fun _ l r _ _=>.nd x l r) t) (fun _ ih t=>Tr.rec (.nd none (ih .lf) .lf) (fun v l r _ _=>.nd v (ih l) r) t) (fun _ ih t=>Tr.rec (.nd none .lf (ih .lf)) (fun v l r _ _=>.nd v l (ih r)) t) p
def Tr.get {α:Type} (t:Tr α) (k:Nat):Option α:=getP (pth k) t
def Tr.set {α:Type} (t:Tr α) (k:Nat) (x:Option α):Tr α:=setP x (pth k) t
theorem beq_t {a b:Nat} (h:a=b):Nat.beq a b=true:=by subst h;simp
theorem beq_f {a b:Nat} (h:a≠b):Nat.beq a b=false:=by
 cases hb:Nat.beq a b
 ·rfl
 ·exact absurd (Nat.eq_of_beq_eq_true hb) h
theorem half (m:Nat):(∃q,m=2*q∧Nat.mod m 2=0∧Nat.div m 2=q)∨∃q,m=2*q+1∧Nat.mod m 2=1∧Nat.div m 2=q:=by
 rcases Nat.mod_two_eq_zero_or_one m with h|h
 ·exact .inl ⟨m/2,by omega,h,rfl⟩
 ·exact .inr ⟨m/2,by omega,h,rfl⟩
theorem Tr.case (k:Nat):k=0∨(∃q,k=2*q+1∧q<k)∨∃q,k=2*q+2∧q<k:=by
 rcases k with _|m
 ·exact .inl rfl
 ·rcases half m with⟨q,h,_⟩|⟨q,h,_⟩
  ·exact .inr (.inl ⟨q,by omega,by omega⟩)
  ·exact .inr (.inr ⟨q,by omega,by omega⟩)
theorem pthF_0 (n:Nat):pthF n 0=.e:=by cases n<;>rfl
theorem pthF_l (n q:Nat):pthF (n+1) (2*q+1)=.l (pthF n q):=by
 show(Nat.rec (.l (pthF n (Nat.div (2*q) 2))) (fun _ _=>.r (pthF n (Nat.div (2*q) 2))) (Nat.mod (2*q) 2):Pth)=_;rw[show Nat.mod (2*q) 2=0 from Nat.mul_mod_right 2 q,show Nat.div (2*q) 2=q by show 2*q/2=q;omega];rfl
theorem pthF_r (n q:Nat):pthF (n+1) (2*q+2)=.r (pthF n q):=by
 show(Nat.rec (.l (pthF n (Nat.div (2*q+1) 2))) (fun _ _=>.r (pthF n (Nat.div (2*q+1) 2))) (Nat.mod (2*q+1) 2):Pth)=_;rw[show Nat.mod (2*q+1) 2=1 by show(2*q+1)%2=1;omega,show Nat.div (2*q+1) 2=q by show(2*q+1)/2=q;omega];rfl
theorem pthF_any:∀(n m k:Nat),k≤n→k≤m→pthF n k=pthF m k
 |0,m,k,h,_=>by
  have:k=0:=by omega
  subst this;rw[pthF_0,pthF_0]
 |n+1,0,k,_,h=>by
  have:k=0:=by omega
  subst this;rw[pthF_0,pthF_0]
 |n+1,m+1,k,h1,h2=>by
  rcases Tr.case k with rfl|⟨q,rfl,hq⟩|⟨q,rfl,hq⟩
  ·rw[pthF_0,pthF_0]
  ·rw[pthF_l,pthF_l,pthF_any n m q (by omega) (by omega)]
  ·rw[pthF_r,pthF_r,pthF_any n m q (by omega) (by omega)]
theorem pth_F (k:Nat):pth k=pthF k k:=by
 rcases Tr.case k with rfl|⟨q,rfl,hq⟩|⟨q,rfl,hq⟩
 ·rfl
 ·rw[pthF_l];show(Nat.rec (.l (pthF (2*q) (Nat.div (2*q) 2))) (fun _ _=>.r (pthF (2*q) (Nat.div (2*q) 2))) (Nat.mod (2*q) 2):Pth)=_;rw[show Nat.mod (2*q) 2=0 from Nat.mul_mod_right 2 q,show Nat.div (2*q) 2=q by show 2*q/2=q;omega];rfl
 ·rw[pthF_r];show(Nat.rec (.l (pthF (2*q+1) (Nat.div (2*q+1) 2))) (fun _ _=>.r (pthF (2*q+1) (Nat.div (2*q+1) 2))) (Nat.mod (2*q+1) 2):Pth)=_;rw[show Nat.mod (2*q+1) 2=1 by show(2*q+1)%2=1;omega,show Nat.div (2*q+1) 2=q by show(2*q+1)/2=q;omega];rfl
theorem pth_0:pth 0=.e:=rfl
theorem pth_l (q:Nat):pth (2*q+1)=.l (pth q):=by
 rw[pth_F,pthF_l,pth_F q,pthF_any (2*q) q q (by omega) (Nat.le_refl _)]
theorem pth_r (q:Nat):pth (2*q+2)=.r (pth q):=by
 rw[pth_F,pthF_r,pth_F q,pthF_any (2*q+1) q q (by omega) (Nat.le_refl _)]
theorem pth_inj:∀(k j:Nat),pth k=pth j→k=j
 |k,j,h=>by
  rcases Tr.case k with rfl|⟨q,hk,hq⟩|⟨q,hk,hq⟩<;>rcases Tr.case j with rfl|⟨p,hj,hp⟩|⟨p,hj,hp⟩
  ·rfl
  ·rw[hj,pth_0,pth_l] at h;cases h
  ·rw[hj,pth_0,pth_r] at h;cases h
  ·rw[hk,pth_0,pth_l] at h;cases h
  ·rw[hk,hj,pth_l,pth_l] at h;have:=pth_inj q p (Pth.l.inj h);omega
  ·rw[hk,hj,pth_l,pth_r] at h;cases h
  ·rw[hk,pth_0,pth_r] at h;cases h
  ·rw[hk,hj,pth_l,pth_r] at h;cases h
  ·rw[hk,hj,pth_r,pth_r] at h;have:=pth_inj q p (Pth.r.inj h);omega
termination_by k=>k
theorem getP_lf {α:Type} (p:Pth):getP p (Tr.lf:Tr α)=none:=by cases p<;>rfl
theorem Tr.get_lf {α:Type} (k:Nat):(Tr.lf:Tr α).get k=none:=getP_lf _
theorem Tr.get_0 {α:Type} (v:Option α) (l r:Tr α):(Tr.nd v l r).get 0=v:=rfl
theorem Tr.get_l {α:Type} (v:Option α) (l r:Tr α) (q:Nat):(Tr.nd v l r).get (2*q+1)=l.get q:=by unfold Tr.get;rw[pth_l];rfl
theorem Tr.get_r {α:Type} (v:Option α) (l r:Tr α) (q:Nat):(Tr.nd v l r).get (2*q+2)=r.get q:=by unfold Tr.get;rw[pth_r];rfl
theorem Tr.set_0 {α:Type} (v:Option α) (l r:Tr α) (x:Option α):(Tr.nd v l r).set 0 x=.nd x l r:=rfl
theorem Tr.set_l {α:Type} (v:Option α) (l r:Tr α) (x:Option α) (q:Nat):(Tr.nd v l r).set (2*q+1) x=.nd v (l.set q x) r:=by unfold Tr.set;rw[pth_l];rfl
theorem Tr.set_r {α:Type} (v:Option α) (l r:Tr α) (x:Option α) (q:Nat):(Tr.nd v l r).set (2*q+2) x=.nd v l (r.set q x):=by unfold Tr.set;rw[pth_r];rfl
theorem setP_get {α:Type} (x:Option α):∀(p q:Pth) (t:Tr α),(p=q→getP q (setP x p t)=x)∧(p≠q→getP q (setP x p t)=getP q t):=by
 intro p
 induction p with
 |e=>
  intro q t;refine⟨fun h=> ?_,fun h=> ?_⟩
  ·subst h;cases t<;>rfl
  ·cases q with
   |e=>exact absurd rfl h
   |l q=>cases t with
    |lf=>exact getP_lf q
    |nd v a b=>rfl
   |r q=>cases t with
    |lf=>exact getP_lf q
    |nd v a b=>rfl
 |l p ih=>
  intro q t;refine⟨fun h=> ?_,fun h=> ?_⟩
  ·subst h;cases t with
   |lf=>exact(ih p .lf).1 rfl
   |nd v a b=>exact(ih p a).1 rfl
  ·cases q with
   |e=>cases t<;>rfl
   |l q=>
    have h':p≠q:=fun e=>h (by rw[e])
    cases t with
    |lf=>exact((ih q .lf).2 h').trans (getP_lf q)
    |nd v a b=>exact(ih q a).2 h'
   |r q=>cases t with
    |lf=>exact getP_lf q
    |nd v a b=>rfl
 |r p ih=>
  intro q t;refine⟨fun h=> ?_,fun h=> ?_⟩
  ·subst h;cases t with
   |lf=>exact(ih p .lf).1 rfl
   |nd v a b=>exact(ih p b).1 rfl
  ·cases q with
   |e=>cases t<;>rfl
   |l q=>cases t with
    |lf=>exact getP_lf q
    |nd v a b=>rfl
   |r q=>
    have h':p≠q:=fun e=>h (by rw[e])
    cases t with
    |lf=>exact((ih q .lf).2 h').trans (getP_lf q)
    |nd v a b=>exact(ih q b).2 h'
theorem Tr.set_get {α:Type} (t:Tr α) (k j:Nat) (x:Option α):(t.set k x).get j=if j=k then x else t.get j:=by
 by_cases e:j=k
 ·rw[if_pos e,e];exact(setP_get x _ _ t).1 rfl
 ·rw[if_neg e];exact(setP_get x _ _ t).2 fun h=>e (pth_inj k j h).symm
inductive Ty where
 |int (k:IntKind)
 |byte
 |bool
 |str
 |unit
 |pair (a b:Ty)
 |slice (a:Ty)
 |err
 |fn (f:Nat)
 |fv
 |f64
 |cx
 |ref (a:Ty)
 |clo (f:Nat) (a:Ty)
 deriving DecidableEq
@[reducible] def Ty.Den:Ty→Type
 | .int _=>Int
 | .byte=>UInt8
 | .bool=>Bool
 | .str=>List UInt8
 | .unit=>Unit
 | .pair a b=>a.Den×b.Den
 | .slice a=>List a.Den
 | .err=>Bool
 | .fn _=>Unit
 | .fv=>Nat
 | .f64=>Nat
 | .cx=>Nat×Nat
 | .ref a=>a.Den
 | .clo _ a=>a.Den
def Ty.sz:Ty→Nat
 | .unit=>0
 | .pair a b=>a.sz+b.sz
 |_=>1
def bs (l:List UInt8):ByteArray:=⟨⟨l⟩⟩
def isE (b:Bool):Value→Bool
 | .nilIface=>b
 | .iface _ _=> !b
 |_=>false
def RdC (fz:Nat→Option (Array Value)):(t:Ty)→t.Den→List Value→Prop
 | .int k,n,cs=>cs=[.int k n]
 | .byte,b,cs=>cs=[.int .u8 b.toNat]
 | .bool,b,cs=>cs=[.bool b]
 | .str,s,cs=>cs=[.string (bs s)]
 | .unit,_,cs=>cs=[]
 | .pair a b,x,cs=>∃c1 c2,cs=c1++c2∧RdC fz a x.1 c1∧RdC fz b x.2 c2
 | .slice a,xs,cs=>(∃sv,cs=[sv]∧(((∃q c,sv=.slice q 0 c)∧xs=[])∨∃(b o c:Nat) (arr:Array Value),sv=.slice (some ⟨b,o,none⟩) xs.length c∧fz b=some arr∧o+xs.length*a.sz≤arr.size∧xs.length≤c∧
  ∀i x,xs[i]?=some x→RdC fz a x ((arr.toList.drop (o+i*a.sz)).take a.sz)))
 | .err,b,cs=>∃v,cs=[v]∧isE b v=true
 | .fn f,_,cs=>cs=[.func (.func f) #[] #[]]
 | .fv,f,cs=>cs=[.func (.func f) #[] #[]]
 | .f64,n,cs=>cs=[.float .f64 n]
 | .cx,x,cs=>cs=[.complex .f64 x.1 x.2]
 | .ref a,x,cs=>∃(b o:Nat) (arr:Array Value),cs=[.pointer (some ⟨b,o,none⟩)]∧fz b=some arr∧o+a.sz≤arr.size∧RdC fz a x ((arr.toList.drop o).take a.sz)
 | .clo f a,x,cs=>∃us:List Value,cs=[.func (.func f) #[] us.toArray]∧RdC fz a x us
def RdS (fz:Nat→Option (Array Value)) (t:Ty) (xs:List t.Den) (sv:Value):Prop:=
 ((∃q c,sv=.slice q 0 c)∧xs=[])∨∃(b o c:Nat) (arr:Array Value),sv=.slice (some ⟨b,o,none⟩) xs.length c∧fz b=some arr∧o+xs.length*t.sz≤arr.size∧xs.length≤c∧
    ∀i x,xs[i]?=some x→RdC fz t x ((arr.toList.drop (o+i*t.sz)).take t.sz)
def RdL (fz:Nat→Option (Array Value)) (t:Ty) (xs:List t.Den) (cs:List Value):Prop:=
 ∀i x,xs[i]?=some x→i*t.sz+t.sz≤cs.length∧RdC fz t x ((cs.drop (i*t.sz)).take t.sz)
@[reducible] def DenL:List Ty→Type
 |[]=>Unit
 |t::ts=>t.Den×DenL ts
structure PSpec where
 ts:List Ty
 rs:List Ty
 pre:DenL ts→Bool
 g:DenL ts→DenL rs
def Ty.agg:Ty→Bool
 | .unit=>true
 | .pair _ _=>true
 |_=>false
def RdV (fz:Nat→Option (Array Value)) (t:Ty) (x:t.Den) (v:Value):Prop:=(t.agg=true∧∃cs,v=.agg cs∧RdC fz t x cs.toList)∨(t.agg=false∧RdC fz t x [v])
def RdAll (fz:Nat→Option (Array Value)):(ts:List Ty)→DenL ts→List Value→Prop
 |[],_,vs=>vs=[]
 |t::ts,x,vs=>∃v r,vs=v::r∧RdV fz t x.1 v∧RdAll fz ts x.2 r
def resV:List Value→Value
 |[v]=>v
 |vs=>.tuple vs.toArray
theorem RdC.mono {fz fz':Nat→Option (Array Value)} (h:∀b c,fz b=some c→fz' b=some c):∀(t:Ty) (x:t.Den) (cs:List Value),RdC fz t x cs→RdC fz' t x cs:=by
 intro t
 induction t with
 |pair a b iha ihb=>
  intro x cs hr;simp only[RdC] at hr⊢;obtain⟨c1,c2,rfl,h1,h2⟩:=hr;exact⟨c1,c2,rfl,iha _ _ h1,ihb _ _ h2⟩
 |slice a ih=>
  intro x cs hr;simp only[RdC] at hr⊢;obtain⟨sv,rfl,hr⟩:=hr;refine⟨sv,rfl,hr.imp_right ?_⟩;rintro⟨b,o,c,arr,e1,e2,e3,e4,e5⟩;exact⟨b,o,c,arr,e1,h b arr e2,e3,e4,fun i x hx=>ih _ _ (e5 i x hx)⟩
 |ref a ih=>
  intro x cs hr;simp only[RdC] at hr⊢;obtain⟨b,o,arr,e1,e2,e3,e4⟩:=hr;exact⟨b,o,arr,e1,h b arr e2,e3,ih _ _ e4⟩
 |clo f a ih=>
  intro x cs hr;simp only[RdC] at hr⊢;obtain⟨us,e1,e2⟩:=hr;exact⟨us,e1,ih _ _ e2⟩
 |_=>intro x cs hr;exact hr
theorem RdS.mono {fz fz':Nat→Option (Array Value)} (h:∀b c,fz b=some c→fz' b=some c) {t:Ty} {xs:List t.Den} {u:Value} (hr:RdS fz t xs u):RdS fz' t xs u:=by
 refine hr.imp_right ?_;rintro⟨b,o,c,arr,e1,e2,e3,e4,e5⟩;exact⟨b,o,c,arr,e1,h b arr e2,e3,e4,fun i x hx=>RdC.mono h _ _ _ (e5 i x hx)⟩
theorem RdV.mono {fz fz':Nat→Option (Array Value)} (h:∀b c,fz b=some c→fz' b=some c) {t:Ty} {x:t.Den} {v:Value} (hr:RdV fz t x v):RdV fz' t x v:=
 hr.imp (fun⟨a,cs,e,r⟩=>⟨a,cs,e,RdC.mono h _ _ _ r⟩) fun⟨a,r⟩=>⟨a,RdC.mono h _ _ _ r⟩
theorem RdAll.mono {fz fz':Nat→Option (Array Value)} (h:∀b c,fz b=some c→fz' b=some c):∀{ts:List Ty} {x:DenL ts} {vs:List Value},RdAll fz ts x vs→RdAll fz' ts x vs
 |[],_,_,hr=>hr
 |_::_,_,_,⟨v,r,e,h1,h2⟩=>⟨v,r,e,h1.mono h,RdAll.mono h h2⟩
structure Reg where
 blk:Nat
 base:Nat
 room:Nat
 esz:Nat
 own:Bool
 fz:Nat→Option (Array Value)
 sv:Value
def rg (blk base room esz:Nat):Reg:=⟨blk,base,room,esz,true,fun _=>none,.nilIface⟩
@[simp] theorem rg_blk (a b c d:Nat):(rg a b c d).blk=a:=rfl
@[simp] theorem rg_base (a b c d:Nat):(rg a b c d).base=b:=rfl
@[simp] theorem rg_room (a b c d:Nat):(rg a b c d).room=c:=rfl
@[simp] theorem rg_esz (a b c d:Nat):(rg a b c d).esz=d:=rfl
@[simp] theorem rg_own (a b c d:Nat):(rg a b c d).own=true:=rfl
def Reg.Own (r:Reg) (b:Nat):Prop:=r.own=true∧r.blk=b
def Reg.Fz (r:Reg) (b:Nat):Prop:=∃c,r.fz b=some c
def unk:Nat:=9223372036854775808
def junk:Value:=.chan (some 0)
@[reducible] def sy (v:Value):Value:=.tuple #[.chan (some 1),v]
@[reducible] def dt (id:Nat):Value:=.tuple #[.chan (some 2),.pointer (some ⟨id,0,none⟩)]
@[reducible] def er (b:Bool):Value:=.tuple #[.chan (some 3),.bool b]
@[reducible] def ai (k:IntKind):Value:=.tuple #[.chan (some 4),.int k 0]
@[reducible] def pf (id m:Nat):Value:=.tuple #[.chan (some 5),.slice (some ⟨id,0,none⟩) m 0]
def scal:Value→Bool
 | .bool _| .int .. | .string _| .float .. | .complex .. =>true
 |_=>false
inductive VR (D:Nat→Prop) (ι:Nat→Reg):Value→Value→Prop where
 |junk (v'):VR D ι junk v'
 |sym (v) (h:scal v=true):VR D ι (sy v) v
 |err (b v) (h:isE b v=true):VR D ι (er b) v
 |aint (k n):VR D ι (ai k) (.int k n)
 |dat (id a l c) (h:D id) (e:(ι id).sv=.slice a l c):VR D ι (dt id) (.slice a l c)
 |pfx (id m a l c) (h:D id) (e:(ι id).sv=.slice a l c) (h1:m≤l):VR D ι (pf id m) (.slice a m c)
 |pel (id i j b o l c) (h:D id) (e:(ι id).sv=.slice (some ⟨b,o,none⟩) l c):VR D ι (.pointer (some ⟨id,i,some j⟩)) (.pointer (some ⟨b,o+i*(ι id).esz+j,none⟩))
 |bool (b):VR D ι (.bool b) (.bool b)
 |int (k n):VR D ι (.int k n) (.int k n)
 |float (k n):VR D ι (.float k n) (.float k n)
 |complex (k a b):VR D ι (.complex k a b) (.complex k a b)
 |string (s):VR D ι (.string s) (.string s)
 |ptrN:VR D ι (.pointer none) (.pointer none)
 |ptr (id off) (h:D id):VR D ι (.pointer (some ⟨id,off,none⟩)) (.pointer (some ⟨(ι id).blk,(ι id).base+off,none⟩))
 |slN (l c):VR D ι (.slice none l c) (.slice none l c)
 |slK (id off l c) (h:D id) (hc:c≠unk):VR D ι (.slice (some ⟨id,off,none⟩) l c) (.slice (some ⟨(ι id).blk,(ι id).base+off,none⟩) l c)
 |slU (id off l c) (h:D id) (h1:l≤c) (h2:off+c*(ι id).esz≤(ι id).room):VR D ι (.slice (some ⟨id,off,none⟩) l unk) (.slice (some ⟨(ι id).blk,(ι id).base+off,none⟩) l c)
 |slE (id off o' c) (h:D id) (h1:off≤(ι id).room) (h2:c=0∨(o'=off∧off+c*(ι id).esz≤(ι id).room)):VR D ι (.slice (some ⟨id,off,some 0⟩) 0 unk) (.slice (some ⟨(ι id).blk,(ι id).base+o',none⟩) 0 c)
 |mapN:VR D ι (.map none) (.map none)
 |mapP (id) (h:D id):VR D ι (.map (some id)) (.map (some (ι id).blk))
 |chanN:VR D ι (.chan none) (.chan none)
 |nilFunc:VR D ι .nilFunc .nilFunc
 |nilIface:VR D ι .nilIface .nilIface
 |iface (t v v') (h:VR D ι v v'):VR D ι (.iface t v) (.iface t v')
 |agg (as bs:Array Value) (hs:as.size=bs.size) (h:∀(i:Nat) v v',as[i]?=some v→bs[i]?=some v'→VR D ι v v'):VR D ι (.agg as) (.agg bs)
 |tuple (as bs:Array Value) (hs:as.size=bs.size) (h:∀(i:Nat) v v',as[i]?=some v→bs[i]?=some v'→VR D ι v v'):VR D ι (.tuple as) (.tuple bs)
 |func (fn) (as bs cs ds:Array Value) (hs:as.size=bs.size) (hs':cs.size=ds.size) (h:∀(i:Nat) v v',as[i]?=some v→bs[i]?=some v'→VR D ι v v')
  (h':∀(i:Nat) v v',cs[i]?=some v→ds[i]?=some v'→VR D ι v v'):VR D ι (.func fn as cs) (.func fn bs ds)
def AR (D:Nat→Prop) (ι:Nat→Reg) (as bs:Array Value):Prop:=
 as.size=bs.size∧∀(i:Nat) v v',as[i]?=some v→bs[i]?=some v'→VR D ι v v'
theorem VR.mono {D D':Nat→Prop} {ι ι':Nat→Reg} {v v':Value} (h:VR D ι v v') (hD:∀id,D id→D' id) (hi:∀id,D id→ι' id=ι id):VR D' ι' v v':=by
 induction h with
 |junk v=>exact .junk v
 |sym v h=>exact .sym v h
 |err b v h=>exact .err b v h
 |aint k n=>exact .aint k n
 |dat id a l c h e=>rw[←hi id h] at e;exact .dat id a l c (hD _ h) e
 |pfx id m a l c h e h1=>rw[←hi id h] at e;exact .pfx id m a l c (hD _ h) e h1
 |pel id i j b o l c h e=>rw[←hi id h] at e⊢;exact .pel id i j b o l c (hD _ h) e
 |bool b=>exact .bool b
 |int k n=>exact .int k n
 |float k n=>exact .float k n
 |complex k a b=>exact .complex k a b
 |string s=>exact .string s
 |ptrN=>exact .ptrN
 |ptr id off h=>rw[←hi id h];exact .ptr id off (hD _ h)
 |slN l c=>exact .slN l c
 |slK id off l c h hc=>rw[←hi id h];exact .slK id off l c (hD _ h) hc
 |slU id off l c h h1 h2=>rw[←hi id h] at h2⊢;exact .slU id off l c (hD _ h) h1 h2
 |slE id off o' c h h1 h2=>rw[←hi id h] at h1 h2⊢;exact .slE id off o' c (hD _ h) h1 h2
 |mapN=>exact .mapN
 |mapP id h=>rw[←hi id h];exact .mapP id (hD _ h)
 |chanN=>exact .chanN
 |nilFunc=>exact .nilFunc
 |nilIface=>exact .nilIface
 |iface t v v' _ ih=>exact .iface t v v' ih
 |agg as bs hs _ ih=>exact .agg as bs hs ih
 |tuple as bs hs _ ih=>exact .tuple as bs hs ih
 |func fn as bs cs ds hs hs' _ _ ih ih'=>exact .func fn as bs cs ds hs hs' ih ih'
theorem AR.mono {D D':Nat→Prop} {ι ι':Nat→Reg} {a b:Array Value} (h:AR D ι a b) (hD:∀id,D id→D' id) (hi:∀id,D id→ι' id=ι id):AR D' ι' a b:=
 ⟨h.1,fun i v v' e e'=>(h.2 i v v' e e').mono hD hi⟩
def plainN:Nat→Value→Bool
 |0,_=>false
 |n+1,v=>match v with
  | .bool _| .int .. | .float .. | .complex .. | .string _| .pointer none| .slice none _ _| .map none| .chan none| .nilFunc| .nilIface=>true
  | .iface _ v=>plainN n v
  | .agg cs=>cs.toList.all (plainN n)
  | .tuple cs=>cs.toList.all (plainN n)
  | .func _ as bs=>as.toList.all (plainN n)&&bs.toList.all (plainN n)
  |_=>false
theorem plain_refl {D:Nat→Prop} {ι:Nat→Reg}:∀(n:Nat) (v:Value),plainN n v=true→VR D ι v v:=by
 intro n
 induction n with
 |zero=>intro v h;simp[plainN] at h
 |succ n ih=>
  intro v h;have arr:∀as:Array Value,as.toList.all (plainN n)=true→∀(i:Nat) v v',as[i]?=some v→as[i]?=some v'→VR D ι v v':=by
   intro as ha i v v' e e';rw[e] at e';cases e';rw[List.all_eq_true] at ha;exact ih v (ha v (by rw[Array.mem_toList_iff];exact Array.mem_of_getElem? e))
  cases v with
  |bool b=>exact .bool b
  |int k n=>exact .int k n
  |float k n=>exact .float k n
  |complex k a b=>exact .complex k a b
  |string s=>exact .string s
  |pointer a=>cases a with
   |none=>exact .ptrN
   |some a=>simp[plainN] at h
  |slice a l c=>cases a with
   |none=>exact .slN l c
   |some a=>simp[plainN] at h
  |map r=>cases r with
   |none=>exact .mapN
   |some a=>simp[plainN] at h
  |chan r=>cases r with
   |none=>exact .chanN
   |some a=>simp[plainN] at h
  |func fn as bs=>
   simp only[plainN,Bool.and_eq_true] at h;exact .func fn as as bs bs rfl rfl (arr as h.1) (arr bs h.2)
  |nilFunc=>exact .nilFunc
  |iface t v=>exact .iface t v v (ih v (by simpa[plainN] using h))
  |nilIface=>exact .nilIface
  |agg cs=>exact .agg cs cs rfl (arr cs (by simpa[plainN] using h))
  |tuple cs=>exact .tuple cs cs rfl (arr cs (by simpa[plainN] using h))
theorem plain_eq {D:Nat→Prop} {ι:Nat→Reg}:∀(n:Nat) (v v':Value),plainN n v=true→VR D ι v v'→v'=v:=by
 intro n
 induction n with
 |zero=>intro v v' h;simp[plainN] at h
 |succ n ih=>
  intro v v' h hv;have arr:∀as bs:Array Value,as.toList.all (plainN n)=true→as.size=bs.size→(∀(i:Nat) v v',as[i]?=some v→bs[i]?=some v'→VR D ι v v')→bs=as:=by
   intro as bs ha hs hh;refine Array.ext hs.symm fun i h1 h2=> ?_
   rw[List.all_eq_true] at ha;exact ih _ _ (ha _ (by rw[Array.mem_toList_iff];exact Array.getElem_mem h2)) (hh i _ _ (Array.getElem?_eq_getElem h2) (Array.getElem?_eq_getElem h1))
  cases hv with
  |junk v=>simp[plainN,junk] at h
  |sym v h'=>cases n<;>simp[plainN] at h
  |err b v h'=>cases n<;>simp[plainN] at h
  |aint k m=>cases n<;>simp[plainN] at h
  |dat id a l c h' e=>cases n<;>simp[plainN] at h
  |pfx id m a l c h' e h1=>cases n<;>simp[plainN] at h
  |pel id i j b o l c h' e=>simp[plainN] at h
  |ptr id off h'=>simp[plainN] at h
  |slK id off l c h' hc=>simp[plainN] at h
  |slU id off l c h' h1 h2=>simp[plainN] at h
  |slE id off o' c h' h1 h2=>simp[plainN] at h
  |mapP id h'=>simp[plainN] at h
  |iface t v v' h'=>rw[ih v v' (by simpa[plainN] using h) h']
  |agg as bs hs hh=>rw[arr as bs (by simpa[plainN] using h) hs hh]
  |tuple as bs hs hh=>rw[arr as bs (by simpa[plainN] using h) hs hh]
  |func fn as bs cs ds hs hs' hh hh'=>
   simp only[plainN,Bool.and_eq_true] at h;rw[arr as bs h.1 hs hh,arr cs ds h.2 hs' hh']
  |_=>rfl
inductive Hd where
 |row (len:Nat) (elem:TypeId) (ro:Bool)
 |iter (s:ByteArray) (pos:Nat)
 |dat (t:Ty) (xs:List t.Den)
 |vec (t:Ty) (xs:List t.Den) (elem:TypeId)
 |mp (ks:List Value) (ex:Option (List Nat×Nat))
structure H where
 hdr:Nat→Option Hd
 cell:Nat→Nat→Option Value
def Lv (h:H) (id:Nat):Prop:=∃x,h.hdr id=some x
def Hd.wr:Hd→Prop
 | .row _ _ ro=>ro=false
 | .iter _ _=>True
 | .dat _ _=>False
 | .vec _ _ _=>True
 | .mp _ _=>True
def Wr (h:H) (id:Nat):Prop:=∃x,h.hdr id=some x∧x.wr
theorem Wr.lv {h:H} {id:Nat} (x:Wr h id):Lv h id:=let⟨y,e,_⟩:=x;⟨y,e⟩
def FzOK (fz:Nat→Option (Array Value)) (w:World):Prop:=∀b c,fz b=some c→∃e fr,w.heap[b]?=some (.cells c e fr)
def HdrOK (P:Program) (ι:Nat→Reg) (id:Nat) (w:World):Hd→Prop
 | .row len elem ro=>∃(c:Array Value) (e:TypeId) (fr:Nat×Nat),w.heap[(ι id).blk]?=some (.cells c e fr)∧(ι id).base+(ι id).room=c.size∧len≤(ι id).room∧
  ((ι id).own=true∧∀b,¬(ι id).Fz b)∧
  (ro=false→e=elem∧(∀i,P.info? elem=some i→(ι id).esz=i.size∧(ι id).base%i.size=0∧c.size%i.size=0)∧∀o,o<c.size→¬(fr.1≤o∧o<fr.2))
 | .iter s pos=>w.heap[(ι id).blk]?=some (.stringIter s pos)∧(ι id).base=0∧(ι id).own=true∧∀b,¬(ι id).Fz b
 | .dat t xs=>RdS (ι id).fz t xs (ι id).sv∧(ι id).esz=t.sz∧(ι id).own=false∧FzOK (ι id).fz w
 | .vec t xs elem=>(ι id).esz=t.sz∧FzOK (ι id).fz w∧((ι id).own=false∧xs=[]∧(∃q,(ι id).sv=.slice q 0 0)∨
  (ι id).own=true∧¬(ι id).Fz (ι id).blk∧∃(cap:Nat) (c:Array Value) (fr:Nat×Nat),(ι id).sv=.slice (some ⟨(ι id).blk,(ι id).base,none⟩) xs.length cap∧xs.length≤cap∧
   w.heap[(ι id).blk]?=some (.cells c elem fr)∧(ι id).base+(ι id).room=c.size∧cap*t.sz≤(ι id).room∧
   (∀i,P.info? elem=some i→t.sz=i.size∧(ι id).base%i.size=0∧c.size%i.size=0)∧(∀o,o<c.size→¬(fr.1≤o∧o<fr.2))∧
   RdL (ι id).fz t xs (c.toList.drop (ι id).base))
 | .mp ks ex=>(∃(es:Array MapEntry) (clk:Nat),w.heap[(ι id).blk]?=some (.map es clk)∧(es.toList.map MapEntry.key).Perm ks∧((∀e,e∈es.toList→e.born<clk)∧(es.toList.map MapEntry.born).Nodup)∧ks.Nodup∧
  ∀bs c,ex=some (bs,c)→es.toList.map MapEntry.key=ks∧es.toList.map MapEntry.born=bs∧clk=c)∧(ι id).base=0∧(ι id).own=true∧∀b,¬(ι id).Fz b
def WCell (w:World) (b k:Nat) (v:Value):Prop:=
 w.cell? ⟨b,k,none⟩=some v∨∃(es:Array MapEntry) (clk:Nat),w.heap[b]?=some (.map es clk)∧∃e,e∈es.toList∧v=.tuple #[e.key,e.val]
theorem WCell.row {w:World} {b k:Nat} {v:Value} (h:WCell w b k v) {c:Array Value} {e:TypeId} {fr:Nat×Nat} (hc:w.heap[b]?=some (.cells c e fr)):w.cell? ⟨b,k,none⟩=some v:=by
 rcases h with h|⟨es,clk,h,_⟩
 ·exact h
 ·rw[hc] at h;cases h
theorem WCell.map {w:World} {b k:Nat} {v:Value} (h:WCell w b k v) {es:Array MapEntry} {clk:Nat} (hc:w.heap[b]?=some (.map es clk)):∃e,e∈es.toList∧v=.tuple #[e.key,e.val]:=by
 rcases h with h|⟨es',clk',h,hv⟩
 ·simp only[World.cell?,hc] at h;cases h
 ·rw[hc] at h;cases h;exact hv
def CellOK (D:Nat→Prop) (ι:Nat→Reg) (id:Nat) (w:World) (k:Nat) (v:Value):Prop:=
 (ι id).own=true∧∃v',WCell w (ι id).blk ((ι id).base+k) v'∧VR D ι v v'
theorem heap_lt {w:World} {b:Nat} {o:Obj} (e:w.heap[b]?=some o):b<w.heap.size:=by
 rcases Nat.lt_or_ge b w.heap.size with h|h
 ·exact h
 ·rw[Array.getElem?_eq_none h] at e;cases e
theorem HdrOK.lt {P:Program} {ι:Nat→Reg} {id:Nat} {w:World} {x:Hd} (h:HdrOK P ι id w x) {b:Nat} (hb:(ι id).Own b∨(ι id).Fz b):b<w.heap.size:=by
 cases x with
 |row len elem ro=>
  obtain⟨c,e',fr,e,_,_,⟨_,hf⟩,_⟩:=h;rcases hb with⟨_,rfl⟩|hb
  ·exact heap_lt e
  ·exact absurd hb (hf b)
 |iter s pos=>
  obtain⟨e,_,_,hf⟩:=h;rcases hb with⟨_,rfl⟩|hb
  ·exact heap_lt e
  ·exact absurd hb (hf b)
 |dat t xs=>
  obtain⟨_,_,ho,hz⟩:=h;rcases hb with⟨h,_⟩|⟨c,hb⟩
  ·rw[ho] at h;cases h
  ·obtain⟨e,fr,e'⟩:=hz b c hb;exact heap_lt e'
 |vec t xs elem=>
  obtain⟨_,hz,h⟩:=h;rcases hb with⟨ht,rfl⟩|⟨c,hb⟩
  ·rcases h with⟨h,_⟩|⟨_,_,cap,c,fr,_,_,e,_⟩
   ·rw[h] at ht;cases ht
   ·exact heap_lt e
  ·obtain⟨e,fr,e'⟩:=hz b c hb;exact heap_lt e'
 |mp ks ex=>
  obtain⟨⟨_,_,e,_⟩,_,_,hf⟩:=h;rcases hb with⟨_,rfl⟩|hb
  ·exact heap_lt e
  ·exact absurd hb (hf b)
theorem HdrOK.self {P:Program} {ι:Nat→Reg} {id:Nat} {w:World} {x:Hd} (h:HdrOK P ι id w x) {b:Nat} (hb:(ι id).Own b):¬(ι id).Fz b:=by
 cases x with
 |row len elem ro=>obtain⟨c,e',fr,e,_,_,⟨_,hf⟩,_⟩:=h;exact hf b
 |iter s pos=>obtain⟨e,_,_,hf⟩:=h;exact hf b
 |dat t xs=>obtain⟨_,_,ho,_⟩:=h;rw[hb.1] at ho;cases ho
 |vec t xs elem=>
  obtain⟨_,_,h⟩:=h;rcases h with⟨h,_⟩|⟨_,h,_⟩
  ·rw[hb.1] at h;cases h
  ·rw[←hb.2];exact h
 |mp ks ex=>obtain⟨_,_,_,hf⟩:=h;exact hf b
theorem HdrOK.own_row {P:Program} {ι:Nat→Reg} {id:Nat} {w:World} {l:Nat} {e:TypeId} {ro:Bool} (h:HdrOK P ι id w (.row l e ro)):(ι id).Own (ι id).blk:=by
 obtain⟨_,_,_,_,_,_,⟨h,_⟩,_⟩:=h;exact⟨h,rfl⟩
structure Foot where
 rc:List (Nat×Nat)
 rh:List Nat
 wc:List (Nat×Nat)
 wh:List Nat
def Foot.nil:Foot:=⟨[],[],[],[]⟩
def Foot.add (a b:Foot):Foot:=⟨a.rc++b.rc,a.rh++b.rh,a.wc++b.wc,a.wh++b.wh⟩
def Foot.Wi (φ:Foot) (id:Nat):Prop:=id∈φ.wh
def Foot.Wc (φ:Foot) (id k:Nat):Prop:=(id,k)∈φ.wc∨id∈φ.wh
def Foot.Fc (φ:Foot) (id k:Nat):Prop:=(id,k)∈φ.rc∨id∈φ.rh∨(id,k)∈φ.wc∨id∈φ.wh
def Foot.Fi (φ:Foot) (id:Nat):Prop:=(∃k,(id,k)∈φ.rc)∨id∈φ.rh∨(∃k,(id,k)∈φ.wc)∨id∈φ.wh
theorem Foot.Wi.wc {φ:Foot} {id:Nat} (h:φ.Wi id) (k:Nat):φ.Wc id k:=.inr h
theorem Foot.Wc.fc {φ:Foot} {id k:Nat} (h:φ.Wc id k):φ.Fc id k:=by
 rcases h with h|h
 ·exact .inr (.inr (.inl h))
 ·exact .inr (.inr (.inr h))
theorem Foot.Fc.fi {φ:Foot} {id k:Nat} (h:φ.Fc id k):φ.Fi id:=by
 rcases h with h|h|h|h
 ·exact .inl ⟨_,h⟩
 ·exact .inr (.inl h)
 ·exact .inr (.inr (.inl ⟨_,h⟩))
 ·exact .inr (.inr (.inr h))
theorem Foot.Wi.fi {φ:Foot} {id:Nat} (h:φ.Wi id):φ.Fi id:=(h.wc 0).fc.fi
theorem Foot.Wc.fi {φ:Foot} {id k:Nat} (h:φ.Wc id k):φ.Fi id:=h.fc.fi
theorem Foot.add_Wi {a b:Foot} {id:Nat}:(a.add b).Wi id↔a.Wi id∨b.Wi id:=by simp[Foot.add,Foot.Wi]
theorem Foot.add_Wc {a b:Foot} {id k:Nat}:(a.add b).Wc id k↔a.Wc id k∨b.Wc id k:=by
 simp only[Foot.add,Foot.Wc,List.mem_append];constructor
 ·rintro((h|h)|(h|h))<;>simp[h]
 ·rintro((h|h)|(h|h))<;>simp[h]
theorem Foot.add_Fc {a b:Foot} {id k:Nat}:(a.add b).Fc id k↔a.Fc id k∨b.Fc id k:=by
 simp only[Foot.add,Foot.Fc,List.mem_append];constructor
 ·rintro((h|h)|(h|h)|(h|h)|(h|h))<;>simp[h]
 ·rintro((h|h|h|h)|(h|h|h|h))<;>simp[h]
theorem Foot.add_Fi {a b:Foot} {id:Nat}:(a.add b).Fi id↔a.Fi id∨b.Fi id:=by
 simp only[Foot.add,Foot.Fi,List.mem_append];constructor
 ·rintro(⟨k,h|h⟩|(h|h)|⟨k,h|h⟩|(h|h))
  ·exact .inl (.inl ⟨k,h⟩)
  ·exact .inr (.inl ⟨k,h⟩)
  ·exact .inl (.inr (.inl h))
  ·exact .inr (.inr (.inl h))
  ·exact .inl (.inr (.inr (.inl ⟨k,h⟩)))
  ·exact .inr (.inr (.inr (.inl ⟨k,h⟩)))
  ·exact .inl (.inr (.inr (.inr h)))
  ·exact .inr (.inr (.inr (.inr h)))
 ·rintro((⟨k,h⟩|h|⟨k,h⟩|h)|(⟨k,h⟩|h|⟨k,h⟩|h))
  ·exact .inl ⟨k,.inl h⟩
  ·exact .inr (.inl (.inl h))
  ·exact .inr (.inr (.inl ⟨k,.inl h⟩))
  ·exact .inr (.inr (.inr (.inl h)))
  ·exact .inl ⟨k,.inr h⟩
  ·exact .inr (.inl (.inr h))
  ·exact .inr (.inr (.inl ⟨k,.inr h⟩))
  ·exact .inr (.inr (.inr (.inr h)))
structure HOn (P:Program) (D:Nat→Prop) (ι:Nat→Reg) (h:H) (φ:Foot) (w:World):Prop where
 hd:∀id x,φ.Fi id→h.hdr id=some x→HdrOK P ι id w x
 ce:∀id k v,φ.Fc id k→Lv h id→h.cell id k=some v→CellOK D ι id w k v
 inj:∀i j,φ.Fi i→φ.Fi j→Wr h i→Lv h j→i≠j→∀b,(ι i).Own b→¬(ι j).Own b∧¬(ι j).Fz b
theorem HOn.ceR {P:Program} {D:Nat→Prop} {ι:Nat→Reg} {h:H} {φ:Foot} {w:World} (ho:HOn P D ι h φ w) (id k:Nat) (v:Value) {n:Nat} {el:TypeId} {ro:Bool} (f:φ.Fc id k) (hh:h.hdr id=some (.row n el ro)) (hx:h.cell id k=some v):
  (ι id).own=true∧∃v',w.cell? ⟨(ι id).blk,(ι id).base+k,none⟩=some v'∧VR D ι v v':=by
 obtain⟨c,e,fr,hc,_⟩:=ho.hd id _ f.fi hh;obtain⟨o,v',e1,e2⟩:=ho.ce id k v f ⟨_,hh⟩ hx;exact⟨o,v',e1.row hc,e2⟩
def ObjBut (S:Nat→Prop):Option Obj→Option Obj→Prop
 |some (.cells c e fr),o=>∃c',o=some (.cells c' e fr)∧c'.size=c.size∧∀k,¬S k→c'[k]?=c[k]?
 |a,o=>o=a
theorem ObjBut.refl (S:Nat→Prop) (a:Option Obj):ObjBut S a a:=by
 unfold ObjBut
 split
 ·exact⟨_,rfl,rfl,fun _ _=>rfl⟩
 ·rfl
theorem ObjBut.mono {S S':Nat→Prop} {a b:Option Obj} (h:ObjBut S a b) (hs:∀k,S k→S' k):ObjBut S' a b:=by
 rcases a with _|a
 ·exact h
 ·cases a with
  |cells c e fr=>
   obtain⟨c',e,hz,hk⟩:=h;exact⟨c',e,hz,fun k hn=>hk k fun x=>hn (hs k x)⟩
  |_=>exact h
theorem ObjBut.trans {S S':Nat→Prop} {a b c:Option Obj} (h:ObjBut S a b) (h':ObjBut S' b c):ObjBut (fun k=>S k∨S' k) a c:=by
 rcases a with _|a
 ·have h:b=none:=h;subst h;exact h'
 ·cases a with
  |cells c0 e fr=>
   obtain⟨c1,rfl,hz,hk⟩:=h;obtain⟨c2,e,hz2,hk2⟩:=h';exact⟨c2,e,hz2.trans hz,fun k hn=>(hk2 k fun x=>hn (.inr x)).trans (hk k fun x=>hn (.inl x))⟩
  |_=>(have h:b=_:=h);subst h;exact h'
theorem ObjBut.eq {S:Nat→Prop} {a b:Option Obj} (h:ObjBut S a b) (hs:∀k,¬S k):b=a:=by
 rcases a with _|a
 ·exact h
 ·cases a with
  |cells c e fr=>
   obtain⟨c',e,hz,hk⟩:=h;have:c'=_:=Array.ext_getElem? fun k=>hk k (hs k)
   rw[e,this]
  |_=>exact h
structure Post (P:Program) (D N:Nat→Prop) (ι:Nat→Reg) (h:H) (w:World) (φ:Foot) (ι':Nat→Reg) (h':H) (w':World):Prop where
 io:∀id,¬N id→ι' id=ι id
 size:w.heap.size≤w'.heap.size
 os:w'.os=w.os
 out:w'.output=w.output
 hdr:∀id x,φ.Wi id∨N id→h'.hdr id=some x→HdrOK P ι' id w' x
 cel:∀id k v,φ.Wc id k∨N id→Lv h' id→h'.cell id k=some v→CellOK (fun i=>D i∨N i) ι' id w' k v
 ahdr:∀id,¬N id→¬φ.Wi id→h'.hdr id=h.hdr id
 acel:∀id k,¬N id→¬φ.Wc id k→h'.cell id k=h.cell id k
 cfr:∀b,b<w.heap.size→(∀id,φ.Wi id→Wr h id→¬(ι id).Own b)→ObjBut (fun o=>∃id k,φ.Wc id k∧Wr h id∧(ι id).Own b∧(ι id).base+k=o) w.heap[b]? w'.heap[b]?
 fresh:∀id,N id→Lv h' id→∀b,(ι' id).Own b→(w.heap.size≤b∧b<w'.heap.size)∨∃k,φ.Wi k∧¬N k∧Wr h k∧¬Lv h' k∧(ι k).Own b
 freshF:∀id,N id→Lv h' id→∀b,(ι' id).Fz b→(w.heap.size≤b∧b<w'.heap.size)∨(∃k,φ.Wi k∧¬N k∧Wr h k∧¬Lv h' k∧(ι k).Own b)∨∃k,φ.Fi k∧¬N k∧Lv h k∧(ι k).Fz b
 dist:∀i j,N i→N j→Wr h' i→Lv h' j→i≠j→∀b,(ι' i).Own b→¬(ι' j).Own b∧¬(ι' j).Fz b
 nl:∀id,N id→h.hdr id=none
 wl:∀id k,φ.Wc id k→¬N id→Lv h id
 wrm:∀id,¬N id→Wr h' id→Wr h id
 wrow:∀id k,φ.Wc id k→¬φ.Wi id→¬N id→∃l e ro,h.hdr id=some (.row l e ro)
theorem Post.refl (P:Program) (D N:Nat→Prop) (ι:Nat→Reg) (h:H) (w:World) (hn:∀id,¬N id):Post P D N ι h w .nil ι h w where
 io:=fun _ _=>rfl
 size:=Nat.le_refl _
 os:=rfl
 out:=rfl
 hdr:=fun id x hx=>by rcases hx with hx|hx;cases hx;exact absurd hx (hn id)
 cel:=fun id k v hx=>by rcases hx with(hx|hx)|hx;cases hx;cases hx;exact absurd hx (hn id)
 ahdr:=fun _ _ _=>rfl
 acel:=fun _ _ _ _=>rfl
 cfr:=fun _ _ _=>ObjBut.refl _ _
 fresh:=fun id hx=>absurd hx (hn id)
 freshF:=fun id hx=>absurd hx (hn id)
 dist:=fun i _ hx=>absurd hx (hn i)
 nl:=fun id hx=>absurd hx (hn id)
 wl:=fun id k hx=>by rcases hx with hx|hx<;>cases hx
 wrm:=fun _ _ hx=>hx
 wrow:=fun id k hx=>by rcases hx with hx|hx<;>cases hx
theorem FzOK.keep {fz:Nat→Option (Array Value)} {w w':World} (h:FzOK fz w) (hb:∀b c,fz b=some c→w'.heap[b]?=w.heap[b]?):FzOK fz w':=fun b c e=>by
 obtain⟨e1,fr,e2⟩:=h b c e;exact⟨e1,fr,by rw[hb b c e];exact e2⟩
theorem HdrOK.keep {P:Program} {ι ι':Nat→Reg} {id:Nat} {w w':World} {x:Hd} {S:Nat→Nat→Prop} (h:HdrOK P ι id w x) (hi:ι' id=ι id) (hb:∀b,(ι id).Own b∨(ι id).Fz b→ObjBut (S b) w.heap[b]? w'.heap[b]?)
  (hs:(∃l e ro,x=.row l e ro)∨∀b,(ι id).Own b∨(ι id).Fz b→∀k,¬S b k):HdrOK P ι' id w' x:=by
 cases x with
 |row len elem ro=>
  have hown:=h.own_row;obtain⟨c,el,fr,e,h1,h2,h4,h3⟩:=h;have hb:=hb _ (.inl hown);rw[e] at hb;obtain⟨c',e',hz,_⟩:=hb;refine⟨c',el,fr,by rw[hi];exact e',by rw[hi,hz];exact h1,by rw[hi];exact h2,by rw[hi];exact h4,fun hr=> ?_⟩;obtain⟨g1,g2,g3⟩:=h3 hr;exact⟨g1,fun i hi'=>by rw[hi,hz];exact g2 i hi',fun o ho=>g3 o (hz▸ho)⟩
 |iter s pos=>
  obtain⟨e,h0,h1,h2⟩:=h;have hb:=hb _ (.inl ⟨h1,rfl⟩);rw[e] at hb;exact⟨by rw[hi];exact hb,by rw[hi];exact⟨h0,h1,h2⟩⟩
 |dat t xs=>
  have hs:=hs.resolve_left (by rintro⟨_,_,_,h⟩;cases h);obtain⟨h1,h2,h3,h4⟩:=h;simp only[HdrOK,hi];exact⟨h1,h2,h3,h4.keep fun b c hb'=>(hb b (.inr ⟨c,hb'⟩)).eq (hs b (.inr ⟨c,hb'⟩))⟩
 |vec t xs elem=>
  have hs:=hs.resolve_left (by rintro⟨_,_,_,h⟩;cases h);obtain⟨h1,h2,h3⟩:=h;simp only[HdrOK,hi];refine⟨h1,h2.keep fun b c hb'=>(hb b (.inr ⟨c,hb'⟩)).eq (hs b (.inr ⟨c,hb'⟩)),h3.imp_right ?_⟩;rintro⟨g1,g2,cap,c,fr,g3,g4,g5,g6⟩;exact⟨g1,g2,cap,c,fr,g3,g4,by rw[(hb _ (.inl ⟨g1,rfl⟩)).eq (hs _ (.inl ⟨g1,rfl⟩))];exact g5,g6⟩
 |mp ks ex=>
  obtain⟨⟨es,clk,e,h3⟩,h0,h1,h2⟩:=h;have hb:=hb _ (.inl ⟨h1,rfl⟩);rw[e] at hb;exact⟨⟨es,clk,by rw[hi];exact hb,h3⟩,by rw[hi];exact⟨h0,h1,h2⟩⟩
theorem CellOK.keep {D D':Nat→Prop} {ι ι':Nat→Reg} {id k:Nat} {w w':World} {v:Value} {S:Nat→Prop} (h:CellOK D ι id w k v) (hi:ι' id=ι id) (hD:∀i,D i→D' i) (hiD:∀i,D i→ι' i=ι i)
  (hb:ObjBut S w.heap[(ι id).blk]? w'.heap[(ι id).blk]?) (hS:¬S ((ι id).base+k)):CellOK D' ι' id w' k v:=by
 obtain⟨ho,v',e,hv⟩:=h;refine⟨by rw[hi];exact ho,v',?_,hv.mono hD hiD⟩;rw[hi];rcases e with e|⟨es,clk,e,he⟩
 ·left;simp only[World.cell?] at e⊢
  split at e
  ·rename_i c el fr hc;rw[hc] at hb;obtain⟨c',e',hz,hk⟩:=hb;rw[e'];simp only[Option.isSome_none,Bool.false_eq_true,if_false] at e⊢;rw[hk _ hS];exact e
  ·cases e
 ·rw[e] at hb;exact .inr ⟨es,clk,hb,he⟩
theorem Wr.of_hdr {h h':H} {id:Nat} (e:h'.hdr id=h.hdr id) (x:Wr h' id):Wr h id:=by
 obtain⟨y,hy,hw⟩:=x;exact⟨y,e▸hy,hw⟩
theorem Lv.of_hdr {h h':H} {id:Nat} (e:h'.hdr id=h.hdr id) (x:Lv h' id):Lv h id:=by
 obtain⟨y,hy⟩:=x;exact⟨y,e▸hy⟩
end Go.Eng
end
end
section
noncomputable section
namespace Go.Eng
open Go
section
variable {P:Program} {D N M:Nat→Prop} {ι ι1 ι2:Nat→Reg} {h h1 h2:H} {w w1 w2:World} {φ ψ:Foot}
theorem CellOK.lt {D:Nat→Prop} {ι:Nat→Reg} {id k:Nat} {w:World} {v:Value} (h:CellOK D ι id w k v):(ι id).blk<w.heap.size:=by
 obtain⟨_,v',e,_⟩:=h;rcases Nat.lt_or_ge (ι id).blk w.heap.size with hlt|hge
 ·exact hlt
 ·rcases e with e|⟨_,_,e,_⟩
  ·simp only[World.cell?] at e;rw[Array.getElem?_eq_none hge] at e;cases e
  ·rw[Array.getElem?_eq_none hge] at e;cases e
theorem CellOK.more {D D':Nat→Prop} {ι:Nat→Reg} {id k:Nat} {w:World} {v:Value} (h:CellOK D ι id w k v) (hD:∀i,D i→D' i):CellOK D' ι id w k v:=
 let⟨ho,v',e,hv⟩:=h;⟨ho,v',e,hv.mono hD fun _ _=>rfl⟩
theorem Post.lv (p:Post P D N ι h w φ ι1 h1 w1) {id:Nat} (hn:¬N id) (hl:Lv h1 id):Lv h id:=by
 by_cases hw:φ.Wi id
 ·exact p.wl id 0 (hw.wc 0) hn
 ·exact hl.of_hdr (p.ahdr id hn hw)
theorem Post.inj (H0:HOn P D ι h (φ.add ψ) w) (p:Post P D N ι h w φ ι1 h1 w1) {i j:Nat} (hi:(φ.add ψ).Fi i∨N i) (hj:(φ.add ψ).Fi j∨N j)
  (li:Wr h1 i) (lj:Lv h1 j) (hij:i≠j) (b:Nat) (hb:(ι1 i).Own b):¬(ι1 j).Own b∧¬(ι1 j).Fz b:=by
 have old:∀a,¬N a→(φ.add ψ).Fi a→Lv h1 a→∃y,h.hdr a=some y∧HdrOK P ι a w y:=fun a na fa la=>by
  obtain⟨y,hy⟩:=p.lv na la;exact⟨y,hy,H0.hd a y fa hy⟩
 have mixed:∀a c,N a→¬N c→(φ.add ψ).Fi c→Lv h1 a→Lv h1 c→a≠c→∀b,((ι1 a).Own b→¬(ι1 c).Own b∧¬(ι1 c).Fz b)∧(Wr h1 c→(ι1 c).Own b→¬(ι1 a).Fz b):=by
  intro a c na nc fc la lc hac b;rw[p.io c nc];obtain⟨y,hy,hok⟩:=old c nc fc lc;refine⟨fun hb=> ?_,fun wc hc hb=> ?_⟩
  ·rcases p.fresh a na la b hb with⟨h1,_⟩|⟨k,wk,nk,wrk,dk,e⟩
   ·exact⟨fun x=>by have:=hok.lt (.inl x);omega,fun x=>by have:=hok.lt (.inr x);omega⟩
   ·exact H0.inj k c (Foot.add_Fi.2 (.inl wk.fi)) fc wrk ⟨y,hy⟩ (fun e=>dk (e▸lc)) b e
  ·rcases p.freshF a na la b hb with⟨h1,_⟩|⟨k,wk,nk,wrk,dk,e⟩|⟨k,fk,nk,lk,e⟩
   ·have:=hok.lt (.inl hc);omega
   ·exact(H0.inj k c (Foot.add_Fi.2 (.inl wk.fi)) fc wrk ⟨y,hy⟩ (fun e=>dk (e▸lc)) b e).1 hc
   ·by_cases hkc:k=c
    ·subst hkc;exact hok.self hc e
    ·exact(H0.inj c k fc (Foot.add_Fi.2 (.inl fk)) (p.wrm c nc wc) lk (Ne.symm hkc) b hc).2 e
 by_cases ni:N i
 ·by_cases nj:N j
  ·exact p.dist i j ni nj li lj hij b hb
  ·exact(mixed i j ni nj (hj.resolve_right nj) li.lv lj hij b).1 hb
 ·by_cases nj:N j
  ·have m:=mixed j i nj ni (hi.resolve_right ni) lj li.lv hij.symm b;exact⟨fun x=>(m.1 x).1 hb,m.2 li hb⟩
  ·rw[p.io i ni] at hb;rw[p.io j nj];exact H0.inj i j (hi.resolve_right ni) (hj.resolve_right nj) (p.wrm i ni li) (p.lv nj lj) hij b hb
theorem Post.hon (H0:HOn P D ι h (φ.add ψ) w) (p:Post P D N ι h w φ ι1 h1 w1) (hDN:∀id,N id→¬D id):HOn P (fun i=>D i∨N i) ι1 h1 ψ w1 where
 hd:=by
  intro id x fi e;by_cases hw:φ.Wi id∨N id
  ·exact p.hdr id x hw e
  ·have nw:¬φ.Wi id:=fun x=>hw (.inl x)
   have nn:¬N id:=fun x=>hw (.inr x)
   rw[p.ahdr id nn nw] at e;have f:=Foot.add_Fi.2 (.inr fi:φ.Fi id∨ψ.Fi id);have hok:=H0.hd id x f e;refine hok.keep (S:=fun b o=>∃id' k,φ.Wc id' k∧Wr h id'∧(ι id').Own b∧(ι id').base+k=o) (p.io id nn) (fun b hb=>p.cfr b (hok.lt hb) fun k wk wrk he=> ?_) ?_
   ·have:=H0.inj k id (Foot.add_Fi.2 (.inl wk.fi)) f wrk ⟨x,e⟩ (fun e=>nw (e▸wk)) b he;exact hb.elim this.1 this.2
   ·by_cases hx:∃l e ro,x=.row l e ro
    ·exact .inl hx
    ·refine .inr fun b hb o=> ?_
     rintro⟨id',k,wc,wr,ho,_⟩;by_cases he:id'=id
     ·subst he;obtain⟨l,e',ro,hr⟩:=p.wrow _ _ wc nw nn;rw[e] at hr;cases hr;exact hx ⟨_,_,_,rfl⟩
     ·have:=H0.inj id' id (Foot.add_Fi.2 (.inl wc.fi)) f wr ⟨x,e⟩ he b ho;exact hb.elim this.1 this.2
 ce:=by
  intro id k v fc lv e;by_cases hw:φ.Wc id k∨N id
  ·exact p.cel id k v hw lv e
  ·have nw:¬φ.Wc id k:=fun x=>hw (.inl x)
   have nn:¬N id:=fun x=>hw (.inr x)
   have nwi:¬φ.Wi id:=fun x=>nw (x.wc k)
   rw[p.acel id k nn nw] at e;have lv0:=p.lv nn lv;have hok:=H0.ce id k v (Foot.add_Fc.2 (.inr fc)) lv0 e;have f:=Foot.add_Fi.2 (.inr fc.fi:φ.Fi id∨ψ.Fi id);have hown:(ι id).Own (ι id).blk:=⟨hok.1,rfl⟩
   refine hok.keep (p.io id nn) (fun _=>.inl) (fun i hi=>p.io i fun hn=>hDN i hn hi) (p.cfr _ hok.lt fun k wk wrk he=> ?_) ?_
   ·exact(H0.inj k id (Foot.add_Fi.2 (.inl wk.fi)) f wrk lv0 (fun e=>nwi (e▸wk)) _ he).1 hown
   ·rintro⟨id',k',wc,wr,hb,ho⟩;by_cases he:id'=id
    ·subst he;have:k'=k:=by omega
     subst this;exact nw wc
    ·exact(H0.inj id' id (Foot.add_Fi.2 (.inl wc.fi)) f wr lv0 he _ hb).1 hown
 inj:=fun _ _ fi fj li lj hij=>p.inj H0 (.inl (Foot.add_Fi.2 (.inr fi))) (.inl (Foot.add_Fi.2 (.inr fj))) li lj hij
theorem Post.trans (H0:HOn P D ι h (φ.add ψ) w) (p:Post P D N ι h w φ ι1 h1 w1) (q:Post P (fun i=>D i∨N i) M ι1 h1 w1 ψ ι2 h2 w2)
  (hM:∀id,M id→¬(D id∨N id)) (hl:∀id,M id→h.hdr id=none):Post P D (fun i=>N i∨M i) ι h w (φ.add ψ) ι2 h2 w2 where
 io:=fun id hn=>(q.io id fun x=>hn (.inr x)).trans (p.io id fun x=>hn (.inl x))
 size:=Nat.le_trans p.size q.size
 os:=q.os.trans p.os
 out:=q.out.trans p.out
 hdr:=by
  intro id x hw e;by_cases hq:ψ.Wi id∨M id
  ·exact q.hdr id x hq e
  ·have nw:¬ψ.Wi id:=fun x=>hq (.inl x)
   have nm:¬M id:=fun x=>hq (.inr x)
   rw[q.ahdr id nm nw] at e;have hw1:φ.Wi id∨N id:=by
    rcases hw with hw|hw|hw
    ·exact .inl ((Foot.add_Wi.1 hw).resolve_right nw)
    ·exact .inr hw
    ·exact absurd hw nm
   have hok:=p.hdr id x hw1 e;have hf:(φ.add ψ).Fi id∨N id:=hw1.imp (fun x=>Foot.add_Fi.2 (.inl x.fi)) fun x=>x
   refine hok.keep (S:=fun b o=>∃id' k,ψ.Wc id' k∧Wr h1 id'∧(ι1 id').Own b∧(ι1 id').base+k=o) (q.io id nm) (fun b hb=>q.cfr b (hok.lt hb) fun k wk wrk he=> ?_) ?_
   ·have:=p.inj H0 (.inl (Foot.add_Fi.2 (.inr wk.fi))) hf wrk ⟨x,e⟩ (fun e=>nw (e▸wk)) b he;exact hb.elim this.1 this.2
   ·by_cases hx:∃l e ro,x=.row l e ro
    ·exact .inl hx
    ·refine .inr fun b hb o=> ?_
     rintro⟨id',k,wc,wr,ho,_⟩;by_cases he:id'=id
     ·subst he;obtain⟨l,e',ro,hr⟩:=q.wrow _ _ wc nw nm;rw[e] at hr;cases hr;exact hx ⟨_,_,_,rfl⟩
     ·have:=p.inj H0 (.inl (Foot.add_Fi.2 (.inr wc.fi))) hf wr ⟨x,e⟩ he b ho;exact hb.elim this.1 this.2
 cel:=by
  intro id k v hw lv e;by_cases hq:ψ.Wc id k∨M id
  ·exact(q.cel id k v hq lv e).more fun i hi=>by rcases hi with(hi|hi)|hi<;>simp[hi]
  ·have nw:¬ψ.Wc id k:=fun x=>hq (.inl x)
   have nm:¬M id:=fun x=>hq (.inr x)
   have nwi:¬ψ.Wi id:=fun x=>nw (x.wc k)
   rw[q.acel id k nm nw] at e;have lv1:=q.lv nm lv;have hw1:φ.Wc id k∨N id:=by
    rcases hw with hw|hw|hw
    ·exact .inl ((Foot.add_Wc.1 hw).resolve_right nw)
    ·exact .inr hw
    ·exact absurd hw nm
   have hok:=p.cel id k v hw1 lv1 e;have hf:(φ.add ψ).Fi id∨N id:=hw1.imp (fun x=>Foot.add_Fi.2 (.inl x.fi)) fun x=>x
   have hown:(ι1 id).Own (ι1 id).blk:=⟨hok.1,rfl⟩
   refine hok.keep (q.io id nm) (fun i hi=>by rcases hi with hi|hi<;>simp[hi]) (fun i hi=>q.io i fun hm=>hM i hm hi) (q.cfr _ hok.lt fun k wk wrk he=> ?_) ?_
   ·exact(p.inj H0 (.inl (Foot.add_Fi.2 (.inr wk.fi))) hf wrk lv1 (fun e=>nwi (e▸wk)) _ he).1 hown
   ·rintro⟨id',k',wc,wr,hb,ho⟩;by_cases he:id'=id
    ·subst he;have:k'=k:=by omega
     subst this;exact nw wc
    ·exact(p.inj H0 (.inl (Foot.add_Fi.2 (.inr wc.fi))) hf wr lv1 he _ hb).1 hown
 ahdr:=fun id hn hw=>(q.ahdr id (fun x=>hn (.inr x)) fun x=>hw (Foot.add_Wi.2 (.inr x))).trans (p.ahdr id (fun x=>hn (.inl x)) fun x=>hw (Foot.add_Wi.2 (.inl x)))
 acel:=fun id k hn hw=>(q.acel id k (fun x=>hn (.inr x)) fun x=>hw (Foot.add_Wc.2 (.inr x))).trans (p.acel id k (fun x=>hn (.inl x)) fun x=>hw (Foot.add_Wc.2 (.inl x)))
 cfr:=by
  intro b hb hyp;have far:∀id,N id→Lv h1 id→¬(ι1 id).Own b:=by
   intro id nid lv ho;rcases p.fresh id nid lv b ho with⟨h1,_⟩|⟨k,wk,_,wrk,_,e⟩
   ·omega
   ·exact hyp k (Foot.add_Wi.2 (.inl wk)) wrk e
  have a1:=p.cfr b hb fun id wi wr=>hyp id (Foot.add_Wi.2 (.inl wi)) wr
  have a2:=q.cfr b (Nat.lt_of_lt_of_le hb p.size) fun id wi wr=>by
   by_cases nid:N id
   ·exact far id nid wr.lv
   ·rw[p.io id nid];exact hyp id (Foot.add_Wi.2 (.inr wi)) (p.wrm id nid wr)
  refine(a1.trans a2).mono fun o ho=> ?_
  rcases ho with⟨id,k,wc,wr,h1,h2⟩|⟨id,k,wc,wr,h1,h2⟩
  ·exact⟨id,k,Foot.add_Wc.2 (.inl wc),wr,h1,h2⟩
  ·by_cases nid:N id
   ·exact absurd h1 (far id nid wr.lv)
   ·rw[p.io id nid] at h1 h2;exact⟨id,k,Foot.add_Wc.2 (.inr wc),p.wrm id nid wr,h1,h2⟩
 fresh:=by
  have notM:∀k,Wr h k→¬M k:=fun k wr hm=>by obtain⟨y,hy⟩:=wr.lv;rw[hl k hm] at hy;cases hy
  intro id hn lv b hb;by_cases hm:M id
  ·rcases q.fresh id hm lv b hb with⟨h1,h2⟩|⟨k,wk,mk,wrk,dk,e⟩
   ·exact .inl ⟨Nat.le_trans p.size h1,h2⟩
   ·by_cases nk:N k
    ·rcases p.fresh k nk wrk.lv b e with⟨h1,h2⟩|⟨k',wk',nk',wrk',dk',e'⟩
     ·exact .inl ⟨by omega,by have:=q.size;omega⟩
     ·exact .inr ⟨k',Foot.add_Wi.2 (.inl wk'),fun x=>x.elim nk' (notM k' wrk'),wrk',fun l=>dk' (q.lv (notM k' wrk') l),e'⟩
    ·exact .inr ⟨k,Foot.add_Wi.2 (.inr wk),fun x=>x.elim nk mk,p.wrm k nk wrk,dk,by rw[p.io k nk] at e;exact e⟩
  ·have nid:N id:=hn.resolve_right hm;rw[q.io id hm] at hb;rcases p.fresh id nid (q.lv hm lv) b hb with⟨h1,h2⟩|⟨k',wk',nk',wrk',dk',e'⟩
   ·exact .inl ⟨h1,Nat.lt_of_lt_of_le h2 q.size⟩
   ·exact .inr ⟨k',Foot.add_Wi.2 (.inl wk'),fun x=>x.elim nk' (notM k' wrk'),wrk',fun l=>dk' (q.lv (notM k' wrk') l),e'⟩
 freshF:=by
  have notML:∀k,Lv h k→¬M k:=fun k wr hm=>by obtain⟨y,hy⟩:=wr;rw[hl k hm] at hy;cases hy
  have notM:∀k,Wr h k→¬M k:=fun k wr=>notML k wr.lv
  have back:∀id,N id→¬M id→Lv h1 id→∀b,(ι1 id).Fz b→(w.heap.size≤b∧b<w2.heap.size)∨(∃k,(φ.add ψ).Wi k∧¬(N k∨M k)∧Wr h k∧¬Lv h2 k∧(ι k).Own b)∨∃k,(φ.add ψ).Fi k∧¬(N k∨M k)∧Lv h k∧(ι k).Fz b:=by
   intro id nid nm lv b hb;rcases p.freshF id nid lv b hb with⟨h1,h2⟩|⟨k',wk',nk',wrk',dk',e'⟩|⟨k',fk',nk',lk',e'⟩
   ·exact .inl ⟨h1,Nat.lt_of_lt_of_le h2 q.size⟩
   ·exact .inr (.inl ⟨k',Foot.add_Wi.2 (.inl wk'),fun x=>x.elim nk' (notM k' wrk'),wrk',fun l=>dk' (q.lv (notM k' wrk') l),e'⟩)
   ·exact .inr (.inr ⟨k',Foot.add_Fi.2 (.inl fk'),fun x=>x.elim nk' (notML k' lk'),lk',e'⟩)
  intro id hn lv b hb;by_cases hm:M id
  ·rcases q.freshF id hm lv b hb with⟨h1,h2⟩|⟨k,wk,mk,wrk,dk,e⟩|⟨k,fk,mk,lk,e⟩
   ·exact .inl ⟨Nat.le_trans p.size h1,h2⟩
   ·by_cases nk:N k
    ·rcases p.fresh k nk wrk.lv b e with⟨h1,h2⟩|⟨k',wk',nk',wrk',dk',e'⟩
     ·exact .inl ⟨by omega,by have:=q.size;omega⟩
     ·exact .inr (.inl ⟨k',Foot.add_Wi.2 (.inl wk'),fun x=>x.elim nk' (notM k' wrk'),wrk',fun l=>dk' (q.lv (notM k' wrk') l),e'⟩)
    ·exact .inr (.inl ⟨k,Foot.add_Wi.2 (.inr wk),fun x=>x.elim nk mk,p.wrm k nk wrk,dk,by rw[p.io k nk] at e;exact e⟩)
   ·by_cases nk:N k
    ·exact back k nk mk lk b e
    ·exact .inr (.inr ⟨k,Foot.add_Fi.2 (.inr fk),fun x=>x.elim nk mk,p.lv nk lk,by rw[p.io k nk] at e;exact e⟩)
  ·have nid:N id:=hn.resolve_right hm;rw[q.io id hm] at hb;exact back id nid hm (q.lv hm lv) b hb
 dist:=by
  have mixed:∀i j,M i→N j→¬M j→Lv h2 i→Lv h2 j→i≠j→∀b,((ι2 i).Own b→¬(ι2 j).Own b∧¬(ι2 j).Fz b)∧(Wr h2 j→(ι2 j).Own b→¬(ι2 i).Fz b):=by
   intro i j mi nj mj li lj hij b;rw[q.io j mj];obtain⟨y,hy⟩:=q.lv mj lj;have hok:=p.hdr j y (.inr nj) hy;refine⟨fun hb=> ?_,fun wc hc hb=> ?_⟩
   ·rcases q.fresh i mi li b hb with⟨h1,_⟩|⟨k,wk,_,wrk,dk,e⟩
    ·exact⟨fun x=>by have:=hok.lt (.inl x);omega,fun x=>by have:=hok.lt (.inr x);omega⟩
    ·exact p.inj H0 (.inl (Foot.add_Fi.2 (.inr wk.fi))) (.inr nj) wrk ⟨y,hy⟩ (fun e=>dk (e▸lj)) b e
   ·rcases q.freshF i mi li b hb with⟨h1,_⟩|⟨k,wk,_,wrk,dk,e⟩|⟨k,fk,_,lk,e⟩
    ·have:=hok.lt (.inl hc);omega
    ·exact(p.inj H0 (.inl (Foot.add_Fi.2 (.inr wk.fi))) (.inr nj) wrk ⟨y,hy⟩ (fun e=>dk (e▸lj)) b e).1 hc
    ·by_cases hkj:k=j
     ·subst hkj;exact hok.self hc e
     ·exact(p.inj H0 (.inr nj) (.inl (Foot.add_Fi.2 (.inr fk))) (q.wrm j mj wc) lk (Ne.symm hkj) b hc).2 e
  intro i j hi hj li lj hij b hb;by_cases mi:M i
  ·by_cases mj:M j
   ·exact q.dist i j mi mj li lj hij b hb
   ·exact(mixed i j mi (hj.resolve_right mj) mj li.lv lj hij b).1 hb
  ·by_cases mj:M j
   ·have m:=mixed j i mj (hi.resolve_right mi) mi lj li.lv hij.symm b;exact⟨fun x=>(m.1 x).1 hb,m.2 li hb⟩
   ·rw[q.io i mi] at hb;rw[q.io j mj];exact p.dist i j (hi.resolve_right mi) (hj.resolve_right mj) (q.wrm i mi li) (q.lv mj lj) hij b hb
 nl:=fun id hn=>hn.elim (p.nl id) (hl id)
 wl:=by
  intro id k hw hn;have nn:¬N id:=fun x=>hn (.inl x)
  rcases Foot.add_Wc.1 hw with hw|hw
  ·exact p.wl id k hw nn
  ·exact p.lv nn (q.wl id k hw fun x=>hn (.inr x))
 wrm:=fun id hn wr=>p.wrm id (fun x=>hn (.inl x)) (q.wrm id (fun x=>hn (.inr x)) wr)
 wrow:=by
  intro id k hw hwi hn;have nn:¬N id:=fun x=>hn (.inl x)
  have nm:¬M id:=fun x=>hn (.inr x)
  have nw:¬φ.Wi id:=fun x=>hwi (Foot.add_Wi.2 (.inl x))
  rcases Foot.add_Wc.1 hw with hw|hw
  ·exact p.wrow id k hw nw nn
  ·have:=q.wrow id k hw (fun x=>hwi (Foot.add_Wi.2 (.inr x))) nm;rw[p.ahdr id nn nw] at this;exact this
end
end Go.Eng
end
end
section
noncomputable section
namespace Go.Eng
open Go
inductive OT where
 |d (t:Ty)
 |vec (t:Ty) (e:TypeId)
 |unit
 |pair (a b:OT)
 |ptr (a:OT) (e:TypeId)
 |con (vs:List Value)
@[reducible] def OT.Den:OT→Type
 | .d t=>t.Den
 | .vec t _=>List t.Den
 | .unit=>Unit
 | .pair a b=>a.Den×b.Den
 | .ptr a _=>a.Den
 | .con _=>Unit
def OT.sz:OT→Nat
 | .d t=>t.sz
 | .vec _ _=>1
 | .unit=>0
 | .pair a b=>a.sz+b.sz
 | .ptr _ _=>1
 | .con vs=>vs.length
def OT.agg:OT→Bool
 | .d t=>t.agg
 | .unit=>true
 | .pair _ _=>true
 | .con _=>true
 |_=>false
@[reducible] def DenO:List OT→Type
 |[]=>Unit
 |t::ts=>t.Den×DenO ts
def RdO (P:Program) (w:World) (fz:Nat→Option (Array Value)):(t:OT)→t.Den→List Value→List Nat→Prop
 | .d t,x,cs,own=>own=[]∧RdC fz t x cs
 | .vec t e,xs,cs,own=>∃r:Reg,cs=[r.sv]∧own=(bif r.own then [r.blk] else [])∧HdrOK P (fun _=>r) 0 w (.vec t xs e)∧∀b c,r.fz b=some c→fz b=some c
 | .unit,_,cs,own=>cs=[]∧own=[]
 | .pair a b,x,cs,own=>∃c1 c2 o1 o2,cs=c1++c2∧own=o1++o2∧RdO P w fz a x.1 c1 o1∧RdO P w fz b x.2 c2 o2
 | .ptr a e,x,cs,own=>∃(r:Reg) (us:List Value) (o1:List Nat),cs=[.pointer (some ⟨r.blk,r.base,none⟩)]∧own=r.blk::o1∧HdrOK P (fun _=>r) 0 w (.row us.length e false)∧
  (∀(k:Nat) u,us[k]?=some u→w.cell? ⟨r.blk,r.base+k,none⟩=some u)∧RdO P w fz a x us o1
 | .con vs,_,cs,own=>own=[]∧cs=vs∧vs.all (plainN 2)=true
def RootOK (P:Program) (w:World) (fz:Nat→Option (Array Value)) (r:Reg) (a:OT) (e:TypeId) (x:a.Den) (own:List Nat):Prop:=
 ∃us:List Value,HdrOK P (fun _=>r) 0 w (.row us.length e false)∧(∀(k:Nat) u,us[k]?=some u→w.cell? ⟨r.blk,r.base+k,none⟩=some u)∧RdO P w fz a x us own
def RdR (P:Program) (w:World) (fz:Nat→Option (Array Value)):(rs:List OT)→DenO rs→List Value→List Nat→Prop
 |[],_,vs,own=>vs=[]∧own=[]
 |r::rs,y,vs,own=>∃v rest o1 o2,vs=v::rest∧own=o1++o2∧((r.agg=true∧∃cs:Array Value,v=.agg cs∧RdO P w fz r y.1 cs.toList o1)∨(r.agg=false∧RdO P w fz r y.1 [v] o1))∧RdR P w fz rs y.2 rest o2
structure OSpec where
 rb:Bool
 ri:Nat
 root:OT
 re:TypeId
 ts:List OT
 rs:List OT
 pre:root.Den→DenO ts→Bool
 g:root.Den→DenO ts→root.Den×DenO rs
def roB (rb:Bool) (r:Reg):List Nat:=bif rb then [r.blk] else []
def roV (rb:Bool) (r:Reg):List Value:=bif rb then [.pointer (some ⟨r.blk,r.base,none⟩)] else []
def insR (k:Nat) (rv l:List Value):List Value:=l.take k++(rv++l.drop k)
theorem insR_nil (k:Nat) (l:List Value):insR k [] l=l:=by simp[insR]
theorem insR_cons (k:Nat) (rv:List Value) (a:Value) (l:List Value):insR (k+1) rv (a::l)=a::insR k rv l:=by simp[insR]
def getR:Nat→List Value→Option (Value×List Value)
 |0,v::r=>some (v,r)
 |k+1,v::r=>match getR k r with
  |some (u,r')=>some (u,v::r')
  |none=>none
 |_,[]=>none
end Go.Eng
end
end
section
noncomputable section
namespace Go.Eng
open Go
inductive AO where
 |row (cells:List Value) (elem:TypeId) (ro:Bool)
 |iter (s:ByteArray) (pos:Nat)
 |dat (t:Ty) (xs:List t.Den)
 |vec (t:Ty) (xs:List t.Den) (elem:TypeId)
 |mp (es:List (Value×Value)) (ex:Option (List Nat×Nat))
def AO.hd:AO→Hd
 | .row cs e ro=>.row cs.length e ro
 | .iter s p=>.iter s p
 | .dat t xs=>.dat t xs
 | .vec t xs e=>.vec t xs e
 | .mp es ex=>.mp (es.map Prod.fst) ex
structure St where
 heap:Tr AO
 next:Nat
 pc:List Bool
 ora:List Nat
def AllP:List Bool→Prop
 |[]=>True
 |p::ps=>p=true∧AllP ps
def St.Ok (σ:St):Prop:=AllP σ.pc
def cellOf:Option AO→Nat→Option Value
 |some (.row cs _ _),k=>cs[k]?
 |some (.mp es _),k=>(es[k]?).map fun e=>.tuple #[e.1,e.2]
 |_,_=>none
def St.H (σ:St):H:=⟨fun id=>(σ.heap.get id).map AO.hd,fun id k=>cellOf (σ.heap.get id) k⟩
def St.wf (σ:St):Prop:=∀id,σ.next≤id→σ.heap.get id=none
def St.rng (σ σ':St) (id:Nat):Prop:=σ.next≤id∧id<σ'.next
def St.new (σ:St) (o:AO):St:=⟨σ.heap.set σ.next (some o),σ.next+1,σ.pc,σ.ora⟩
def St.put (σ:St) (id:Nat) (o:Option AO):St:=⟨σ.heap.set id o,σ.next,σ.pc,σ.ora⟩
theorem St.lv_lt {σ:St} (hw:σ.wf) {id:Nat} (h:Lv σ.H id):id<σ.next:=by
 rcases Nat.lt_or_ge id σ.next with hl|hg
 ·exact hl
 ·obtain⟨x,hx⟩:=h;simp only[St.H] at hx;rw[hw id hg] at hx;cases hx
theorem St.hdr_none {σ:St} (hw:σ.wf) (id:Nat) (hi:σ.next≤id):σ.H.hdr id=none:=by simp only[St.H,hw id hi,Option.map_none]
theorem St.new_wf {σ:St} (hw:σ.wf) (o:AO):(σ.new o).wf:=by
 intro id h;simp only[St.new] at h⊢;rw[Tr.set_get,if_neg (by omega)];exact hw id (by omega)
theorem St.put_wf {σ:St} (hw:σ.wf) {id:Nat} (hi:id<σ.next) (o:Option AO):(σ.put id o).wf:=by
 intro j h;simp only[St.put] at h⊢;rw[Tr.set_get,if_neg (by omega)];exact hw j (by omega)
theorem St.new_hdr (σ:St) (o:AO) (j:Nat):(σ.new o).H.hdr j=if j=σ.next then some o.hd else σ.H.hdr j:=by
 simp only[St.H,St.new,Tr.set_get];split<;>rfl
theorem St.new_cell (σ:St) (o:AO) (j k:Nat):(σ.new o).H.cell j k=if j=σ.next then cellOf (some o) k else σ.H.cell j k:=by
 simp only[St.H,St.new,Tr.set_get];split<;>rfl
theorem St.put_hdr (σ:St) (id:Nat) (o:Option AO) (j:Nat):(σ.put id o).H.hdr j=if j=id then o.map AO.hd else σ.H.hdr j:=by
 simp only[St.H,St.put,Tr.set_get];split<;>rfl
theorem St.put_cell (σ:St) (id:Nat) (o:Option AO) (j k:Nat):(σ.put id o).H.cell j k=if j=id then cellOf o k else σ.H.cell j k:=by
 simp only[St.H,St.put,Tr.set_get];split<;>rfl
theorem St.hdr_of {σ:St} {id:Nat} {o:AO} (h:σ.heap.get id=some o):σ.H.hdr id=some o.hd:=by simp[St.H,h]
theorem St.cell_of {σ:St} {id:Nat} {cs:List Value} {e:TypeId} {ro:Bool} (h:σ.heap.get id=some (.row cs e ro)) (k:Nat):σ.H.cell id k=cs[k]?:=by simp[St.H,h,cellOf]
theorem St.lv_of {σ:St} {id:Nat} {o:AO} (h:σ.heap.get id=some o):Lv σ.H id:=⟨_,St.hdr_of h⟩
structure R where
 v:Value
 σ:St
 φ:Foot
structure AFr (σ σ':St) (φ:Foot):Prop where
 h:∀id,¬σ.rng σ' id→¬φ.Wi id→σ'.H.hdr id=σ.H.hdr id
 c:∀id k,¬σ.rng σ' id→¬φ.Wc id k→σ'.H.cell id k=σ.H.cell id k
 ok:σ'.Ok→σ.Ok
theorem AFr.refl (σ:St) (φ:Foot):AFr σ σ φ:=⟨fun _ _ _=>rfl,fun _ _ _ _=>rfl,fun h=>h⟩
theorem AFr.new (σ:St) (o:AO) (φ:Foot):AFr σ (σ.new o) φ:=
 ⟨fun id hn _=>by rw[St.new_hdr,if_neg fun e=>hn (by subst e;simp[St.rng,St.new])],fun id k hn _=>by rw[St.new_cell,if_neg fun e=>hn (by subst e;simp[St.rng,St.new])],fun h=>h⟩
theorem AFr.put {σ:St} {id:Nat} {cs cs':List Value} {elem:TypeId} {φ:Foot} (hg:σ.heap.get id=some (.row cs elem false)) (hl:cs'.length=cs.length) (hk:∀k,(id,k)∉φ.wc→cs'[k]?=cs[k]?):
   AFr σ (σ.put id (some (.row cs' elem false))) φ:=
 ⟨fun j _ _=>by
   rw[St.put_hdr]
   split
   ·rename_i e;subst e;rw[St.hdr_of hg];simp[AO.hd,hl]
   ·rfl,
  fun j k _ hx=>by
   rw[St.put_cell]
   split
   ·rename_i e;subst e;rw[St.cell_of hg];exact hk k fun hm=>hx (.inl hm)
   ·rfl,fun h=>h⟩
theorem AFr.whole {σ:St} {id:Nat} {o:Option AO} {φ:Foot} (hw:id∈φ.wh):AFr σ (σ.put id o) φ:=
 ⟨fun j _ hx=>by rw[St.put_hdr,if_neg fun e=>hx (by subst e;exact hw)],fun j k _ hx=>by rw[St.put_cell,if_neg fun e=>hx (by subst e;exact .inr hw)],fun h=>h⟩
theorem AFr.giveUp {σ:St} {id:Nat} {o:AO} {φ:Foot} (hw:id∈φ.wh):AFr σ ((σ.put id none).new o) φ:=by
 have a:=AFr.whole (σ:=σ) (o:=none) (φ:=φ) hw;have b:=AFr.new (σ.put id none) o φ;have hr:∀j,¬σ.rng ((σ.put id none).new o) j→¬(σ.put id none).rng ((σ.put id none).new o) j:=fun j hj=>hj
 have hr2:∀j,¬σ.rng (σ.put id none) j:=fun j=>by simp only[St.rng,St.put];omega
 exact⟨fun j hn hx=>(b.h j (hr j hn) hx).trans (a.h j (hr2 j) hx),fun j k hn hx=>(b.c j k (hr j hn) hx).trans (a.c j k (hr2 j) hx),fun h=>h⟩
theorem AFr.trans {σ σ1 σ2:St} {φ ψ:Foot} (h1:AFr σ σ1 φ) (h2:AFr σ1 σ2 ψ) (n1:σ.next≤σ1.next) (n2:σ1.next≤σ2.next):AFr σ σ2 (φ.add ψ):=by
 have r1:∀j,¬σ.rng σ2 j→¬σ.rng σ1 j:=fun j=>by simp only[St.rng];omega
 have r2:∀j,¬σ.rng σ2 j→¬σ1.rng σ2 j:=fun j=>by simp only[St.rng];omega
 exact⟨fun j hn hx=>(h2.h j (r2 j hn) fun x=>hx (Foot.add_Wi.2 (.inr x))).trans (h1.h j (r1 j hn) fun x=>hx (Foot.add_Wi.2 (.inl x))),
  fun j k hn hx=>(h2.c j k (r2 j hn) fun x=>hx (Foot.add_Wc.2 (.inr x))).trans (h1.c j k (r1 j hn) fun x=>hx (Foot.add_Wc.2 (.inl x))),fun h=>h1.ok (h2.ok h)⟩
def St.assume (σ:St) (p:Bool):St:=⟨σ.heap,σ.next,p::σ.pc,σ.ora⟩
def St.decide (σ:St) (p:Bool) (ds:List Nat):St:=⟨σ.heap,σ.next,p::σ.pc,ds⟩
theorem St.assume_ok {σ:St} {p:Bool}:(σ.assume p).Ok↔p=true∧σ.Ok:=Iff.rfl
theorem St.decide_ok {σ:St} {p:Bool} {ds:List Nat}:(σ.decide p ds).Ok↔p=true∧σ.Ok:=Iff.rfl
theorem AFr.assume {σ σ':St} {φ:Foot} (a:AFr σ σ' φ) (p:Bool):AFr σ (σ'.assume p) φ:=⟨a.h,a.c,fun h=>a.ok h.2⟩
theorem AFr.decide {σ σ':St} {φ:Foot} (a:AFr σ σ' φ) (p:Bool) (ds:List Nat):AFr σ (σ'.decide p ds) φ:=⟨a.h,a.c,fun h=>a.ok h.2⟩
def Sound (P:Program) (D:Nat→Prop) (ι:Nat→Reg) (σ:St) (w:World) (e:Sem Value) (r:R):Prop:=
 σ.next≤r.σ.next∧(σ.wf→r.σ.wf∧AFr σ r.σ r.φ)∧(σ.wf→(∀id,σ.rng r.σ id→¬D id)→HOn P D ι σ.H r.φ w→
  ∃v' ι' w',e.run P w=.ok v' w'∧VR (fun i=>D i∨σ.rng r.σ i) ι' r.v v'∧Post P D (σ.rng r.σ) ι σ.H w r.φ ι' r.σ.H w')
theorem St.rng_self (σ:St) (id:Nat):¬σ.rng σ id:=by simp only[St.rng];omega
theorem Post.same {P:Program} {D N:Nat→Prop} {ι:Nat→Reg} {h:H} {w w':World} {φ:Foot} (hn:∀id,¬N id) (h1:w'.heap=w.heap) (h2:w'.os=w.os) (h3:w'.output=w.output)
  (h4:φ.wc=[]) (h5:φ.wh=[]):Post P D N ι h w φ ι h w' where
 io:=fun _ _=>rfl
 size:=by rw[h1];exact Nat.le_refl _
 os:=h2
 out:=h3
 hdr:=fun id x hx=>by rcases hx with hx|hx;simp[Foot.Wi,h5] at hx;exact absurd hx (hn id)
 cel:=fun id k v hx=>by rcases hx with hx|hx;simp[Foot.Wc,h4,h5] at hx;exact absurd hx (hn id)
 ahdr:=fun _ _ _=>rfl
 acel:=fun _ _ _ _=>rfl
 cfr:=fun b _ _=>by rw[h1];exact ObjBut.refl _ _
 fresh:=fun id hx=>absurd hx (hn id)
 freshF:=fun id hx=>absurd hx (hn id)
 dist:=fun i _ hx=>absurd hx (hn i)
 nl:=fun id hx=>absurd hx (hn id)
 wl:=fun id k hx=>by simp[Foot.Wc,h4,h5] at hx
 wrm:=fun _ _ hx=>hx
 wrow:=fun id k hx=>by simp[Foot.Wc,h4,h5] at hx
theorem Sound.same {P:Program} {D:Nat→Prop} {ι:Nat→Reg} {σ:St} {w w':World} {e:Sem Value} {v v':Value} {φ:Foot}
  (h:HOn P D ι σ.H φ w→e.run P w=.ok v' w'∧VR D ι v v'∧w'.heap=w.heap∧w'.os=w.os∧w'.output=w.output) (h4:φ.wc=[]) (h5:φ.wh=[]):
  Sound P D ι σ w e ⟨v,σ,φ⟩:=by
 refine⟨Nat.le_refl _,fun hw=>⟨hw,AFr.refl _ _⟩,fun _ _ ho=> ?_⟩;obtain⟨h1,h2,h3,h6,h7⟩:=h ho;exact⟨v',ι,w',h1,h2.mono (fun _=>.inl) fun _ _=>rfl,Post.same (St.rng_self σ) h3 h6 h7 h4 h5⟩
theorem Sound.pure {P:Program} {D:Nat→Prop} {ι:Nat→Reg} {σ:St} {w:World} {e:Sem Value} {v v':Value}
  (h:e.run P w=.ok v' w) (hv:VR D ι v v'):Sound P D ι σ w e ⟨v,σ,.nil⟩:=
 Sound.same (fun _=>⟨h,hv,rfl,rfl,rfl⟩) rfl rfl
def upd (ι:Nat→Reg) (id:Nat) (r:Reg):Nat→Reg:=fun j=>if j=id then r else ι j
theorem upd_eq (ι:Nat→Reg) (id:Nat) (r:Reg):upd ι id r id=r:=by simp[upd]
theorem upd_ne (ι:Nat→Reg) {id j:Nat} (r:Reg) (h:j≠id):upd ι id r j=ι j:=by simp[upd,h]
theorem rg_fz (a b c d:Nat) (x:Nat):¬(rg a b c d).Fz x:=by rintro⟨c,h⟩;simp[rg] at h
theorem upd_own {ι:Nat→Reg} {id a b c d:Nat}:(upd ι id (rg a b c d) id).own=true∧∀x,¬(upd ι id (rg a b c d) id).Fz x:=by rw[upd_eq];exact⟨rfl,rg_fz a b c d⟩
theorem St.rng_new {σ:St} {o:AO} {id:Nat}:σ.rng (σ.new o) id↔id=σ.next:=by simp only[St.rng,St.new];omega
theorem heap_push_old (w:World) (o:Obj) {b:Nat} (h:b<w.heap.size):(w.heap.push o)[b]?=w.heap[b]?:=by
 rw[Array.getElem?_push,if_neg (by omega)]
theorem heap_push_new (w:World) (o:Obj):(w.heap.push o)[w.heap.size]?=some o:=by
 rw[Array.getElem?_push,if_pos rfl]
theorem Post.new {P:Program} {D:Nat→Prop} {ι:Nat→Reg} {σ:St} {w w':World} {cs:List Value} {c:Array Value} {elem:TypeId} {fr:Nat×Nat} {esz:Nat} {φ:Foot} (hw:σ.wf)
  (hD:¬D σ.next) (hlen:cs.length≤c.size) (hz:∀i,P.info? elem=some i→esz=i.size∧c.size%i.size=0) (hf:∀o,o<c.size→¬(fr.1≤o∧o<fr.2))
  (hc:∀(k:Nat) v,cs[k]?=some v→∃v',c[k]?=some v'∧VR D ι v v') (h1:w'.heap=w.heap.push (.cells c elem fr)) (h2:w'.os=w.os) (h3:w'.output=w.output)
  (h4:φ.wc=[]) (h5:φ.wh=[]):
  Post P D (σ.rng (σ.new (.row cs elem false))) ι σ.H w φ (upd ι σ.next (rg w.heap.size 0 c.size esz)) (σ.new (.row cs elem false)).H w' where
 io:=fun id hn=>upd_ne _ _ fun e=>hn (St.rng_new.2 e)
 size:=by rw[h1];simp
 os:=h2
 out:=h3
 hdr:=by
  rintro id x (hx|hx) e
  ·simp[Foot.Wi,h5] at hx
  ·obtain rfl:=St.rng_new.1 hx;rw[St.new_hdr,if_pos rfl] at e;cases e;simp only[HdrOK,AO.hd,upd_eq];exact⟨c,elem,fr,by rw[h1];exact heap_push_new _ _,by simp[rg],hlen,⟨rfl,fun b ⟨c,h⟩=>by simp[rg] at h⟩,fun _=>⟨rfl,fun i hi=>⟨(hz i hi).1,by simp[rg],(hz i hi).2⟩,hf⟩⟩
 cel:=by
  rintro id k v (hx|hx) lv e
  ·simp[Foot.Wc,h4,h5] at hx
  ·obtain rfl:=St.rng_new.1 hx;rw[St.new_cell,if_pos rfl] at e;obtain⟨v',e',hv⟩:=hc k v e;refine⟨by rw[upd_eq];rfl,v',?_,hv.mono (fun _=>.inl) fun i hi=>upd_ne _ _ fun e=>hD (e▸hi)⟩;refine .inl ?_;simp only[World.cell?,upd_eq,h1,rg,heap_push_new,Option.isSome_none,Bool.false_eq_true,if_false,Nat.zero_add]
   exact e'
 ahdr:=fun id hn _=>by rw[St.new_hdr,if_neg fun e=>hn (St.rng_new.2 e)]
 acel:=fun id k hn _=>by rw[St.new_cell,if_neg fun e=>hn (St.rng_new.2 e)]
 cfr:=fun b hb _=>by rw[h1,heap_push_old _ _ hb];exact ObjBut.refl _ _
 fresh:=fun id hn _ b hb=>by
  obtain rfl:=St.rng_new.1 hn;rw[upd_eq] at hb;obtain⟨_,rfl⟩:=hb;left;rw[h1];simp[rg]
 freshF:=fun id hn _ b hb=>by
  obtain rfl:=St.rng_new.1 hn;rw[upd_eq] at hb;obtain⟨_,hb⟩:=hb;simp[rg] at hb
 dist:=fun i j hi hj _ _ hij=>by
  obtain rfl:=St.rng_new.1 hi;exact absurd (St.rng_new.1 hj).symm hij
 nl:=fun id hn=>by
  obtain rfl:=St.rng_new.1 hn;simp[St.H,hw σ.next (Nat.le_refl _)]
 wl:=fun id k hx=>by simp[Foot.Wc,h4,h5] at hx
 wrm:=fun id hn hx=>by
  refine hx.of_hdr ?_;rw[St.new_hdr,if_neg fun e=>hn (St.rng_new.2 e)]
 wrow:=fun id k hx=>by simp[Foot.Wc,h4,h5] at hx
theorem Post.newIter {P:Program} {D:Nat→Prop} {ι:Nat→Reg} {σ:St} {w:World} {s:ByteArray} {pos:Nat} (hw:σ.wf):
  Post P D (σ.rng (σ.new (.iter s pos))) ι σ.H w .nil (upd ι σ.next (rg w.heap.size 0 0 0)) (σ.new (.iter s pos)).H { w with heap:=w.heap.push (.stringIter s pos)} where
 io:=fun id hn=>upd_ne _ _ fun e=>hn (St.rng_new.2 e)
 size:=by simp
 os:=rfl
 out:=rfl
 hdr:=by
  rintro id x (hx|hx) e
  ·cases hx
  ·obtain rfl:=St.rng_new.1 hx;rw[St.new_hdr,if_pos rfl] at e;cases e;simp only[HdrOK,AO.hd,upd_eq];exact⟨heap_push_new _ _,rfl,rfl,fun b ⟨c,h⟩=>by simp[rg] at h⟩
 cel:=by
  rintro id k v (hx|hx) lv e
  ·rcases hx with hx|hx<;>cases hx
  ·obtain rfl:=St.rng_new.1 hx;rw[St.new_cell,if_pos rfl] at e;cases e
 ahdr:=fun id hn _=>by rw[St.new_hdr,if_neg fun e=>hn (St.rng_new.2 e)]
 acel:=fun id k hn _=>by rw[St.new_cell,if_neg fun e=>hn (St.rng_new.2 e)]
 cfr:=fun b hb _=>by rw[heap_push_old _ _ hb];exact ObjBut.refl _ _
 fresh:=fun id hn _ b hb=>by
  obtain rfl:=St.rng_new.1 hn;rw[upd_eq] at hb;obtain⟨_,rfl⟩:=hb;left;simp[rg]
 freshF:=fun id hn _ b hb=>by
  obtain rfl:=St.rng_new.1 hn;rw[upd_eq] at hb;obtain⟨_,hb⟩:=hb;simp[rg] at hb
 dist:=fun i j hi hj _ _ hij=>by
  obtain rfl:=St.rng_new.1 hi;exact absurd (St.rng_new.1 hj).symm hij
 nl:=fun id hn=>by
  obtain rfl:=St.rng_new.1 hn;simp[St.H,hw σ.next (Nat.le_refl _)]
 wl:=fun id k hx=>by rcases hx with hx|hx<;>cases hx
 wrm:=fun id hn hx=>by
  refine hx.of_hdr ?_;rw[St.new_hdr,if_neg fun e=>hn (St.rng_new.2 e)]
 wrow:=fun id k hx=>by rcases hx with hx|hx<;>cases hx
theorem Post.setIter {P:Program} {D:Nat→Prop} {ι:Nat→Reg} {σ:St} {w:World} {s:ByteArray} {pos pos' id:Nat} (hg:σ.heap.get id=some (.iter s pos)) (hd:HdrOK P ι id w (.iter s pos)):
  Post P D (σ.rng (σ.put id (some (.iter s pos')))) ι σ.H w ⟨[],[],[],[id]⟩ ι (σ.put id (some (.iter s pos'))).H { w with heap:=w.heap.setIfInBounds (ι id).blk (.stringIter s pos')} where
 io:=fun _ _=>rfl
 size:=by simp
 os:=rfl
 out:=rfl
 hdr:=by
  rintro j x (hx|hx) e
  ·have:j=id:=by simpa[Foot.Wi] using hx
   subst this;rw[St.put_hdr,if_pos rfl] at e;cases e;refine⟨?_,hd.2⟩;have:=heap_lt hd.1;simp[this]
  ·simp only[St.rng,St.put] at hx;omega
 cel:=by
  rintro j k v (hx|hx) lv e
  ·have:j=id:=by simpa[Foot.Wc] using hx
   subst this;rw[St.put_cell,if_pos rfl] at e;cases e
  ·simp only[St.rng,St.put] at hx;omega
 ahdr:=fun j _ hx=>by rw[St.put_hdr,if_neg fun e=>hx (by simp[Foot.Wi,e])]
 acel:=fun j k _ hx=>by rw[St.put_cell,if_neg fun e=>hx (by simp[Foot.Wc,e])]
 cfr:=fun b hb hx=>by
  have:(ι id).blk≠b:=fun e=>hx id (by simp[Foot.Wi]) ⟨_,St.hdr_of hg,trivial⟩ ⟨hd.2.2.1,e⟩
  simp only[Array.getElem?_setIfInBounds,if_neg this];exact ObjBut.refl _ _
 fresh:=fun j hn=>by simp only[St.rng,St.put] at hn;omega
 freshF:=fun j hn=>by simp only[St.rng,St.put] at hn;omega
 dist:=fun i j hn=>by simp only[St.rng,St.put] at hn;omega
 nl:=fun j hn=>by simp only[St.rng,St.put] at hn;omega
 wl:=fun j k hx _=>by
  have:j=id:=by simpa[Foot.Wc] using hx
  subst this;exact St.lv_of hg
 wrm:=fun j _ hx=>by
  by_cases e:j=id
  ·subst e;exact⟨_,St.hdr_of hg,trivial⟩
  ·exact hx.of_hdr (by rw[St.put_hdr,if_neg e])
 wrow:=fun j k hx hn=>absurd (by rcases hx with hx|hx;cases hx;exact hx) hn
def setL:Array Value→Nat→List Value→Array Value
 |c,_,[]=>c
 |c,o,v::vs=>setL (c.setIfInBounds o v) (o+1) vs
theorem setL_size:∀(vs:List Value) (c:Array Value) (o:Nat),(setL c o vs).size=c.size
 |[],_,_=>rfl
 |v::vs,c,o=>by rw[setL,setL_size vs];simp
theorem setL_get:∀(vs:List Value) (c:Array Value) (o k:Nat),o+vs.length≤c.size→(setL c o vs)[k]?=if o≤k∧k<o+vs.length then vs[k-o]? else c[k]?
 |[],c,o,k,_=>by rw[setL,if_neg (by simp only[List.length_nil];omega)]
 |v::vs,c,o,k,h=>by
  simp only[List.length_cons] at h⊢;rw[setL,setL_get vs _ _ _ (by simp;omega)];by_cases hk:k=o
  ·subst hk;rw[if_neg (by omega),if_pos (by omega)];simp only[Array.getElem?_setIfInBounds,if_pos,Nat.sub_self,List.getElem?_cons_zero];rw[if_pos (by omega)]
  ·by_cases hlt:o≤k∧k<o+(vs.length+1)
   ·rw[if_pos (by omega),if_pos hlt,show k-o=(k-(o+1))+1 by omega,List.getElem?_cons_succ]
   ·rw[if_neg (by omega),if_neg hlt,Array.getElem?_setIfInBounds_ne (by omega)]
def isSyL:List Value→Bool
 |[.chan (some (_+1)),_]=>true
 |_=>false
def oneC:Value→Bool
 | .agg _| .chan (some _)=>false
 | .tuple a=>isSyL a.toList
 |_=>true
def oneV:Value→Bool
 | .agg _| .tuple _| .chan (some _)=>false
 |_=>true
theorem oneC_eq {v:Value} (h:oneV v=true):v.oneCell'=true:=by cases v<;>first|rfl|cases h
theorem VR.no_chan {D:Nat→Prop} {ι:Nat→Reg} {v':Value} {n:Nat} (h:VR D ι (.chan (some (n+1))) v'):False:=by cases h
theorem isSyL_spec {l:List Value} (h:isSyL l=true):∃n v,l=[.chan (some (n+1)),v]:=by
 unfold isSyL at h
 split at h
 ·exact⟨_,_,rfl⟩
 ·cases h
theorem VR.oneC {D:Nat→Prop} {ι:Nat→Reg} {v v':Value} (h:VR D ι v v') (h1:oneC v=true):oneV v'=true:=by
 cases h with
 |sym _ h=>cases v'<;>first|rfl|cases h
 |err _ _ h=>cases v'<;>first|rfl|cases h
 |aint _ _=>rfl
 |tuple as bs hs h=>
  obtain⟨n,v,hv⟩:=isSyL_spec h1;have h0:as[0]?=some (.chan (some (n+1))):=by rw[←Array.getElem?_toList,hv];rfl
  have hb:bs[0]?=some (bs[0]'(by rw[←hs];rcases Nat.lt_or_ge 0 as.size with h|h;exact h;rw[Array.getElem?_eq_none h] at h0;cases h0)):=Array.getElem?_eq_getElem _;exact(h 0 _ _ h0 hb).no_chan.elim
 |_=>first|rfl|cases h1
theorem run_storeL (P:Program) (b o:Nat) (e:TypeId) (fr:Nat×Nat):∀(vs:List Value) (i:Nat) (c:Array Value) (w:World),w.heap[b]?=some (.cells c e fr)→o+i+vs.length≤c.size→
  (∀v∈vs,oneV v=true)→(∀j,j<c.size→¬(fr.1≤j∧j<fr.2))→
  (storeCells ⟨b,o,none⟩ vs i).run P w=.ok () { w with heap:=w.heap.setIfInBounds b (.cells (setL c (o+i) vs) e fr)}
 |[],i,c,w,h,_,_,_=>by
  have:w.heap.setIfInBounds b (.cells c e fr)=w.heap:=by
   apply Array.ext_getElem?;intro j;rw[Array.getElem?_setIfInBounds]
   split
   ·rename_i hj;subst hj
    split
    ·exact h.symm
    ·rename_i hn;rw[Array.getElem?_eq_none (by omega)]
   ·rfl
  simp only[storeCells,setL,this];rfl
 |v::vs,i,c,w,h,hs,h1,hf=>by
  simp only[List.length_cons] at hs;have hadd:(⟨b,o,none⟩:Addr).add i=⟨b,o+i,none⟩:=by
   unfold Addr.add;split
   ·rename_i h0;subst h0;rfl
   ·rfl
  have hc:w.cell? ⟨b,o+i,none⟩=some (c[o+i]'(by omega)):=by
   simp only[World.cell?,h,Option.isSome_none,Bool.false_eq_true,if_false];exact Array.getElem?_eq_getElem (by omega)
  have hfz:w.frozen? ⟨b,o+i,none⟩=false:=by
   have:=hf (o+i) (by omega);simp only[World.frozen?,h];simpa using this
  have hst:=run_store P w ⟨b,o+i,none⟩ v .plain (oneC_eq (h1 v (by simp)));rw[hc] at hst;simp only[hfz,Bool.false_eq_true,if_false] at hst;have hb:b<w.heap.size:=by
   rcases Nat.lt_or_ge b w.heap.size with hl|hg
   ·exact hl
   ·rw[Array.getElem?_eq_none hg] at h;cases h
  have hset:w.setCell ⟨b,o+i,none⟩ v={ w with heap:=w.heap.setIfInBounds b (.cells (c.setIfInBounds (o+i) v) e fr)}:=by
   simp only[World.setCell];congr 1;apply Array.ext_getElem?;intro j;rw[Array.getElem?_modify,Array.getElem?_setIfInBounds]
   split
   ·rename_i hj;subst hj
    first|(rw[h];rfl)|simp[h,hb]
   ·rfl
  simp only[storeCells,Sem.run_bind,hadd,hst,Result.andThen_ok,hset];rw[run_storeL P b o e fr vs (i+1) (c.setIfInBounds (o+i) v) _ (by simp[hb]) (by simp;omega) (fun x hx=>h1 x (by simp[hx])) (by simpa using hf)];simp only[setL,Array.setIfInBounds_setIfInBounds];rfl
theorem Post.write {P:Program} {D:Nat→Prop} {ι:Nat→Reg} {σ:St} {w w':World} {id:Nat} {cs cs':List Value} {c c':Array Value} {elem:TypeId} {fr:Nat×Nat} {rc wc:List (Nat×Nat)} {rh:List Nat}
  (hg:σ.heap.get id=some (.row cs elem false)) (hd:HdrOK P ι id w (.row cs.length elem false)) (hb:w.heap[(ι id).blk]?=some (.cells c elem fr)) (h1:w'.heap=w.heap.setIfInBounds (ι id).blk (.cells c' elem fr))
  (h2:w'.os=w.os) (h3:w'.output=w.output) (hz:c'.size=c.size) (hl:cs'.length=cs.length) (hwc:∀p,p∈wc→p.1=id)
  (hsame:∀o,(∀k,(id,k)∈wc→(ι id).base+k≠o)→c'[o]?=c[o]?) (hcell:∀k v,(id,k)∈wc→cs'[k]?=some v→∃v',c'[(ι id).base+k]?=some v'∧VR D ι v v')
  (hk:∀k,(id,k)∉wc→cs'[k]?=cs[k]?):
  Post P D (σ.rng (σ.put id (some (.row cs' elem false)))) ι σ.H w ⟨rc,rh,wc,[]⟩ ι (σ.put id (some (.row cs' elem false))).H w':=by
 have hlt:=hd.lt (.inl hd.own_row);have hnew:w'.heap[(ι id).blk]?=some (.cells c' elem fr):=by rw[h1];simp[hlt]
 have hn:∀j,¬σ.rng (σ.put id (some (.row cs' elem false))) j:=fun j=>by simp only[St.rng,St.put];omega
 have hhd:∀j,(σ.put id (some (.row cs' elem false))).H.hdr j=σ.H.hdr j:=fun j=>by
  rw[St.put_hdr]
  split
  ·rename_i e;subst e;rw[St.hdr_of hg];simp[AO.hd,hl]
  ·rfl
 have hid:∀j k,(⟨rc,rh,wc,[]⟩:Foot).Wc j k→j=id∧(j,k)∈wc:=fun j k hx=>by
  have:(j,k)∈wc:=by simpa[Foot.Wc] using hx
  exact⟨hwc _ this,this⟩
 exact {
  io:=fun _ _=>rfl
  size:=by rw[h1];simp
  os:=h2
  out:=h3
  hdr:=fun j x hx=>by rcases hx with hx|hx;simp[Foot.Wi] at hx;exact absurd hx (hn j)
  cel:=by
   rintro j k v (hx|hx) lv e
   ·obtain⟨rfl,hm⟩:=hid j k hx;rw[St.put_cell,if_pos rfl] at e;obtain⟨v',e',hv⟩:=hcell k v hm e;exact⟨hd.own_row.1,v',.inl (by simp only[World.cell?,hnew,Option.isSome_none,Bool.false_eq_true,if_false];exact e'),hv.mono (fun _=>.inl) fun _ _=>rfl⟩
   ·exact absurd hx (hn j)
  ahdr:=fun j _ _=>hhd j
  acel:=fun j k _ hx=>by
   rw[St.put_cell]
   split
   ·rename_i e;subst e;rw[St.cell_of hg];exact hk k fun hm=>hx (.inl hm)
   ·rfl
  cfr:=fun b hb' _=>by
   by_cases e:b=(ι id).blk
   ·subst e;rw[hb,hnew];refine⟨c',rfl,hz,fun o ho=>hsame o fun k hm he=>ho ⟨id,k,.inl hm,⟨_,St.hdr_of hg,rfl⟩,hd.own_row,he⟩⟩
   ·rw[h1,Array.getElem?_setIfInBounds_ne (Ne.symm e)];exact ObjBut.refl _ _
  fresh:=fun j hx=>absurd hx (hn j)
  freshF:=fun j hx=>absurd hx (hn j)
  dist:=fun j _ hx=>absurd hx (hn j)
  nl:=fun j hx=>absurd hx (hn j)
  wl:=fun j k hx _=>by
   obtain⟨rfl,_⟩:=hid j k hx;exact St.lv_of hg
  wrm:=fun j _ hx=>hx.of_hdr (hhd j)
  wrow:=fun j k hx _ _=>by
   obtain⟨rfl,_⟩:=hid j k hx;exact⟨_,_,_,St.hdr_of hg⟩}
theorem Post.giveUp {P:Program} {D:Nat→Prop} {ι:Nat→Reg} {σ:St} {w w':World} {id:Nat} {cs cs':List Value} {elem:TypeId} {r:Reg} {rc:List (Nat×Nat)} {rh:List Nat} (hw:σ.wf)
  (hg:σ.heap.get id=some (.row cs elem false))
  (h1:∀b,b<w.heap.size→b≠(ι id).blk→w'.heap[b]?=w.heap[b]?) (h2:w'.os=w.os) (h3:w'.output=w.output) (h4:w.heap.size≤w'.heap.size)
  (hh:HdrOK P (upd ι σ.next r) σ.next w' (.row cs'.length elem false)) (hc:∀(k:Nat) v,cs'[k]?=some v→CellOK D (upd ι σ.next r) σ.next w' k v)
  (hr:(w.heap.size≤r.blk∧r.blk<w'.heap.size)∨r.blk=(ι id).blk) (ho:(ι id).own=true) (hfz:∀b,¬r.Fz b):
  Post P D (σ.rng ((σ.put id none).new (.row cs' elem false))) ι σ.H w ⟨rc,rh,[],[id]⟩ (upd ι σ.next r) ((σ.put id none).new (.row cs' elem false)).H w':=by
 have hid:id<σ.next:=St.lv_lt hw (St.lv_of hg);have hn:∀j,σ.rng ((σ.put id none).new (.row cs' elem false)) j↔j=σ.next:=fun j=>by simp only[St.rng,St.put,St.new];omega
 have hnx:(σ.put id none).next=σ.next:=rfl;have hhd:∀j,((σ.put id none).new (.row cs' elem false)).H.hdr j=if j=σ.next then some (.row cs'.length elem false) else if j=id then none else σ.H.hdr j:=fun j=>by
  rw[St.new_hdr,hnx,St.put_hdr];rfl
 have hce:∀j k,((σ.put id none).new (.row cs' elem false)).H.cell j k=if j=σ.next then cs'[k]? else if j=id then none else σ.H.cell j k:=fun j k=>by
  rw[St.new_cell,hnx,St.put_cell];rfl
 have hwi:∀j,(⟨rc,rh,[],[id]⟩:Foot).Wi j→j=id:=fun j hx=>by simpa[Foot.Wi] using hx
 have hwc:∀j k,(⟨rc,rh,[],[id]⟩:Foot).Wc j k→j=id:=fun j k hx=>by simpa[Foot.Wc] using hx
 have hdead:¬Lv ((σ.put id none).new (.row cs' elem false)).H id:=by
  rintro⟨x,hx⟩;rw[hhd,if_neg (by omega),if_pos rfl] at hx;cases hx
 exact {
  io:=fun j hx=>upd_ne _ _ fun e=>hx ((hn j).2 e)
  size:=h4
  os:=h2
  out:=h3
  hdr:=by
   rintro j x (hx|hx) e
   ·obtain rfl:=hwi j hx;exact absurd ⟨x,e⟩ hdead
   ·obtain rfl:=(hn j).1 hx;rw[hhd,if_pos rfl] at e;cases e;exact hh
  cel:=by
   rintro j k v (hx|hx) lv e
   ·obtain rfl:=hwc j k hx;exact absurd lv hdead
   ·obtain rfl:=(hn j).1 hx;rw[hce,if_pos rfl] at e;exact(hc k v e).more fun _=>.inl
  ahdr:=fun j hx hy=>by rw[hhd,if_neg fun e=>hx ((hn j).2 e),if_neg fun e=>hy (by simp[Foot.Wi,e])]
  acel:=fun j k hx hy=>by rw[hce,if_neg fun e=>hx ((hn j).2 e),if_neg fun e=>hy (by simp[Foot.Wc,e])]
  cfr:=fun b hb hx=>by
   have:(ι id).blk≠b:=fun e=>hx id (by simp[Foot.Wi]) ⟨_,St.hdr_of hg,rfl⟩ ⟨ho,e⟩
   rw[h1 b hb this.symm];exact ObjBut.refl _ _
  fresh:=fun j hx _ b hb=>by
   obtain rfl:=(hn j).1 hx;rw[upd_eq] at hb;obtain⟨_,rfl⟩:=hb;exact hr.imp_right fun e=>⟨id,by simp[Foot.Wi],fun h=>by have:=(hn id).1 h;omega,⟨_,St.hdr_of hg,rfl⟩,hdead,ho,e.symm⟩
  freshF:=fun j hx _ b hb=>by
   obtain rfl:=(hn j).1 hx;rw[upd_eq] at hb;exact absurd hb (hfz b)
  dist:=fun i j hi hj _ _ hij=>absurd (((hn i).1 hi).trans ((hn j).1 hj).symm) hij
  nl:=fun j hx=>by
   obtain rfl:=(hn j).1 hx;simp[St.H,hw σ.next (Nat.le_refl _)]
  wl:=fun j k hx _=>by
   obtain rfl:=hwc j k hx;exact St.lv_of hg
  wrm:=fun j hx hy=>by
   refine hy.of_hdr ?_;rw[hhd,if_neg fun e=>hx ((hn j).2 e)]
   split
   ·rename_i e;subst e;exact absurd hy.lv hdead
   ·rfl
  wrow:=fun j k hx hy=>absurd (by rcases hx with hx|hx;cases hx;exact hx) hy}
end Go.Eng
end
end
