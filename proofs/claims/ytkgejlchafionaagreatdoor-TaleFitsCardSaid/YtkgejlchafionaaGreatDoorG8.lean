/-
  Part of the proof. No condition.
-/
import Derived.Test.YtkgejlchafionaaGreatDoorG7
set_option maxRecDepth 1000000
open Go Go.Eng
noncomputable section
namespace Nice
theorem JC:∀{a b c:L8},Op.bytesLess a b=true->Op.bytesLess b c=true->Op.bytesLess a c=true
 |_,_,[],_,h=>by rename_i b _;cases b<;>simp[Op.bytesLess] at h
 |_,[],_::_,h,_=>by rename_i a;cases a<;>simp[Op.bytesLess] at h
 |[],_::_,_::_,_,_=>by simp[Op.bytesLess]
 |x::a,y::b,z::c,e,d=>by
  simp only[Op.bytesLess] at e d⊢;simp only[Bool.or_eq_true,Bool.and_eq_true,decide_eq_true_eq,beq_iff_eq] at e d⊢;rcases e with e|⟨rfl,e⟩
  ·rcases d with d|⟨rfl,d⟩
   ·exact .inl (UInt8.lt_trans e d)
   ·exact .inl e
  ·rcases d with d|⟨rfl,d⟩
   ·exact .inl d
   ·exact .inr ⟨rfl,JC e d⟩
abbrev qC (l:List AD):Prop:=l.Pairwise λa b=>Op.bytesLess a.1 b.1=true
theorem KB {s:BB} (h:Bb s=true):s.2.1.length<=40/\∀i,i<s.2.1.length->JB s.1 s.2.1 i=true:=by
 unfold Bb at h;simp only[Bool.and_eq_true,decide_eq_true_eq] at h;exact⟨h.2.2.1,λi a=>IP.1 h.2.2.2.2.1 i (Nat.zero_le _) (by omega)⟩
theorem Hz {l:List AD} {i:Nat} (h:i<l.length):AQ l i=l[i]:=by
 unfold AQ;rw[List.getD_eq_getElem?_getD,List.getElem?_eq_getElem h];rfl
theorem UI {s:BB} (h:Bb s=true):qC s.2.1:=by
 have b:=(KB h).2;have step:∀i (a:i+1<s.2.1.length),Op.bytesLess (s.2.1[i]).1 (s.2.1[i+1]).1=true:=λi a=>by
  have:=b (i+1) a;unfold JB at this;simp only[Bool.and_eq_true,Bool.or_eq_true] at this;have:=this.2.2;rw[show i+1-1=i from rfl,Hz a,Hz (by omega)] at this;rcases this with h|h
  ·cases h
  ·exact h
 have all:∀d i (a:i+d+1<s.2.1.length),Op.bytesLess (s.2.1[i]).1 (s.2.1[i+d+1]).1=true:=by
  intro d
  induction d with
  |zero=>intro i a;exact step i a
  |succ d c=>intro i a;exact JC (c i (by omega)) (step (i+d+1) a)
 exact List.pairwise_iff_getElem.2 λi j a g f=>by
  have:=all (j-i-1) i (by omega);have e:i+(j-i-1)+1=j:=by omega
  simp only[e] at this;exact this
theorem OY:∀a:L8,Op.bytesLess a a=false
 |[]=>rfl
 |x::a=>by
  show(decide (x<x)||(x==x&&Op.bytesLess a a))=false;rw[OY a,Bool.and_false,decide_eq_false (UInt8.lt_irrefl x)];rfl
theorem OZ {α:Type} {p:α->Bool}:∀(l:List α) (i:Nat),(∀x,x∈l->p x=false)->Cx p l i= -1
 |[],_,_=>rfl
 |y::r,i,h=>by
  unfold Cx;rw[h y (List.mem_cons_self ..),if_neg (by decide)];exact OZ r (i+1) λx a=>h x (List.mem_cons_of_mem _ a)
theorem ey {key:L8}:∀(l:List AD) (i:Nat),qC l->(Cx (λy:AD=>y.1==key) l i= -1/\(KN key l i).2=false)\/∃k:Nat,Cx (λy:AD=>y.1==key) l i=((i+k:Nat):Int)/\k<l.length/\KN key l i=(((i+k:Nat):Int),true)
 |[],_,_=>.inl ⟨rfl,rfl⟩
 |e::r,i,h=>by
  obtain⟨j,m⟩:=List.pairwise_cons.1 h;cases a:Op.bytesLess e.1 key
  ·cases b:e.1==key
   ·refine .inl ⟨OZ _ _ λx hx=> ?_,?_⟩
    ·rcases List.mem_cons.1 hx with rfl|hx
     ·exact b
     ·show(x.1==key)=false;rw[beq_eq_false_iff_ne];intro c;have:=j x hx;rw[c,a] at this;cases this
    ·unfold KN;rw[a,xF];exact b
   ·refine .inr ⟨0,?_,by rw[List.length_cons];omega,?_⟩
    ·unfold Cx;rw[b,if_pos rfl];rfl
    ·unfold KN;rw[a,xF,b];rfl
  ·have d:(e.1==key)=false:=by
    rw[beq_eq_false_iff_ne];intro b;rw[b,OY] at a;cases a
   have n:Cx (λy:AD=>y.1==key) (e::r) i=Cx (λy:AD=>y.1==key) r (i+1):=by
    conv=>lhs;unfold Cx
    rw[d,if_neg (by decide)]
   have o:KN key (e::r) i=KN key r (i+1):=by
    conv=>lhs;unfold KN
    rw[a,xT]
   rw[n,o];rcases ey r (i+1) m with⟨f,g⟩|⟨k,f,g,p⟩
   ·exact .inl ⟨f,g⟩
   ·refine .inr ⟨k+1,?_,by rw[List.length_cons];omega,?_⟩
    ·rw[f,show i+1+k=i+(k+1) by omega]
    ·rw[p,show i+1+k=i+(k+1) by omega]
theorem R6 {n:Int}:∀(l:List Ae) (i:Nat),(Cx (λy:Ae=>y.1==n) l i= -1/\C6 n l i=(0,false))\/∃k:Nat,Cx (λy:Ae=>y.1==n) l i=((i+k:Nat):Int)/\k<l.length/\C6 n l i=(((i+k:Nat):Int),true)
 |[],_=>.inl ⟨rfl,rfl⟩
 |e::r,i=>by
  cases a:e.1==n
  ·have d:Cx (λy:Ae=>y.1==n) (e::r) i=Cx (λy:Ae=>y.1==n) r (i+1):=by
    conv=>lhs;unfold Cx
    rw[a,if_neg (by decide)]
   have f:C6 n (e::r) i=C6 n r (i+1):=by
    conv=>lhs;unfold C6
    rw[a,xF]
   rw[d,f];rcases R6 r (i+1) with⟨b,c⟩|⟨k,b,c,g⟩
   ·exact .inl ⟨b,c⟩
   ·refine .inr ⟨k+1,?_,by rw[List.length_cons];omega,?_⟩
    ·rw[b,show i+1+k=i+(k+1) by omega]
    ·rw[g,show i+1+k=i+(k+1) by omega]
  ·refine .inr ⟨0,?_,by rw[List.length_cons];omega,?_⟩
   ·unfold Cx;rw[a,if_pos rfl];rfl
   ·unfold C6;rw[a,xT];rfl
theorem ez {s:BB} (g:qC s.2.1) (h:∀e,e∈s.2.1->1<=e.2.1.length) (key:L8) (n:Int):Dk s key n=Cy s key n:=by
 unfold Dk Cy;rcases ey (key:=key) s.2.1 0 g with⟨a,b⟩|⟨k,a,b,c⟩
 ·have a:KA s.2.1 key= -1:=a;rw[a,b];rfl
 ·have a:KA s.2.1 key=((0+k:Nat):Int):=a;rw[a,c,Av (by omega),xT];have i:Qr s.2.1 ((0+k:Nat):Int)∈s.2.1:=by
   rw[Nat.zero_add];show s.2.1.getD k _∈s.2.1;rw[List.getD_eq_getElem?_getD,List.getElem?_eq_getElem b];exact List.getElem_mem b
  have f:=h _ i
  revert f
  generalize Qr s.2.1 ((0+k:Nat):Int)=e;intro f;unfold Ou Qs;by_cases d:n=0
  ·rw[show(n !=0)=false from by rw[bne_eq_false_iff_eq];exact d,show(n==0)=true from beq_iff_eq.2 d,xF,xT,decide_eq_true (by omega)]
  ·rw[show(n !=0)=true from bne_iff_ne.2 d,beq_eq_false_iff_ne.2 d,xT,xF];unfold KM;rcases R6 (n:=n) e.2.1 0 with⟨a,b⟩|⟨j,a,b,c⟩
   ·have a:DF e.2.1 n= -1:=a;rw[a,b];rfl
   ·have a:DF e.2.1 n=((0+j:Nat):Int):=a;rw[a,c,Av (by omega)]
theorem qD {s:BB} (key:L8) (n:Int):(Cy s key n).1=JN\/∃e,e∈s.2.1/\(Cy s key n).1∈e.2.1:=by
 have g:∀v is,(L9 v is).1=JN\/(is=true/\(L9 v is).1=v):=λv is=>by
  unfold L9;cases is
  ·exact .inl rfl
  ·cases v.2.1
   ·exact .inr ⟨rfl,rfl⟩
   ·exact .inl rfl
 unfold Cy;rcases F2 (λy:AD=>y.1==key) s.2.1 0 with⟨a, -⟩|⟨k,a,b⟩
 ·have a:KA s.2.1 key= -1:=a;rw[a];exact .inl rfl
 ·have a:KA s.2.1 key=((0+k:Nat):Int):=a;rw[a,Av (by omega)];have d:Qr s.2.1 ((0+k:Nat):Int)∈s.2.1:=by
   rw[Nat.zero_add];show s.2.1.getD k _∈s.2.1;rw[List.getD_eq_getElem?_getD,List.getElem?_eq_getElem b];exact List.getElem_mem b
  revert d
  generalize Qr s.2.1 ((0+k:Nat):Int)=e;intro d;unfold Qs;cases n==0
  ·rw[xF];rcases g (KM e n).1 (KM e n).2 with h|⟨c,f⟩
   ·exact .inl h
   ·refine .inr ⟨e,d,?_⟩;rw[f];unfold KM at c⊢;rcases F2 (λy:Ae=>y.1==n) e.2.1 0 with⟨a, -⟩|⟨j,a,b⟩
    ·have a:DF e.2.1 n= -1:=a;rw[a] at c;cases c
    ·have a:DF e.2.1 n=((0+j:Nat):Int):=a;rw[a,Av (by omega),Nat.zero_add];show e.2.1.getD j _∈e.2.1;rw[List.getD_eq_getElem?_getD,List.getElem?_eq_getElem b];exact List.getElem_mem b
  ·rw[xT];rcases g (CI e).1 (decide ((e.2.1.length:Int)>0)) with h|⟨c,f⟩
   ·exact .inl h
   ·refine .inr ⟨e,d,?_⟩;have i:0<e.2.1.length:=by have:=of_decide_eq_true c;omega
    rw[f];unfold CI;rw[show(e.2.1.length==0)=false from beq_eq_false_iff_ne.2 (by omega),xF];show Bi e∈e.2.1;unfold Bi;rw[List.getD_eq_getElem?_getD,List.getElem?_eq_getElem (by omega)];exact List.getElem_mem _
theorem kL {s:BB} (h:Bb s=true) (key:L8) (n:Int):(Cy s key n).1.2.2.1.length<=300/\0<=(Cy s key n).1.1/\(Cy s key n).1.1<=1099511627776:=by
 rcases qD (s:=s) key n with e|⟨e,d,a⟩
 ·rw[e];exact⟨Nat.zero_le _,Int.le_refl _,by show(0:Int)<=1099511627776;omega⟩
 ·obtain⟨i,c,rfl⟩:=List.getElem_of_mem d;have b:=(KB h).2 i c;unfold JB at b;rw[Bool.and_eq_true,Hz c] at b;have a:=EX _ _ (FX.1 b.1).1 _ a;unfold CS at a;simp only[Bool.and_eq_true,decide_eq_true_eq] at a;exact⟨a.2.2.1,by omega,a.2.1⟩
end Nice
namespace Nice
abbrev U4:=Option (AA [IT,.bool])
def bF (a b:L8):Int:=bif Op.bytesLess a b then -1 else bif !(Op.bytesLess a b||a==b) then 1 else 0
def bG (a b:Int):Int:=bif decide (a<b) then -1 else bif decide (a>b) then 1 else 0
def e7:PSpec:=⟨[.str,.str],[IT],λ_=>true,λx=>(bF x.1 x.2.1,())⟩
def e8:PSpec:=⟨[IT,IT],[IT],λ_=>true,λx=>(bG x.1 x.2.1,())⟩
def ra:PSpec:=⟨[AB,.str],[IT],λ_=>true,λx=>(bF x.1.1 x.2.1,())⟩
def rj:PSpec:=⟨[Ab,IT],[IT],λ_=>true,λx=>(bG x.1.1 x.2.1,())⟩
def D0 {α:Type} (lt eq:α->Bool):List α->Nat->Int×Bool
 |[],i=>((i:Int),false)
 |e::r,i=>bif lt e then D0 lt eq r (i+1) else((i:Int),eq e)
theorem e9 (key:L8):∀(l:List AD) (i:Nat),KN key l i=D0 (λe=>Op.bytesLess e.1 key) (λe=>e.1==key) l i
 |[],_=>rfl
 |e::r,i=>by unfold KN D0;rw[e9 key r (i+1)]
theorem fB {α:Type} {lt eq:α->Bool}:∀(l:List α) (i m:Nat),m<=l.length->(∀k x,k<m->l[k]?=some x->lt x=true)->(∀x,l[m]?=some x->lt x=false)->
  D0 lt eq l i=(((i+m:Nat):Int),match l[m]? with|some x=>eq x|none=>false)
 |[],i,m,a,_,_=>by
  obtain rfl:m=0:=by simpa using a
  rfl
 |e::r,i,0,_,_,h=>by
  unfold D0;rw[h e rfl];rfl
 |e::r,i,m+1,a,c,d=>by
  unfold D0;rw[c 0 e (by omega) rfl,xT,fB r (i+1) m (by simpa using a) (λk x f b=>c (k+1) x (by omega) (by simpa using b)) (λx b=>d x (by simpa using b))];rw[show i+1+m=i+(m+1) by omega];rfl
def R7 (i j:Int):Int:=(IntKind.u64.wrap (i+j)).fdiv 2
theorem qE {i j:Nat} (h:i+j<=4000000):R7 (i:Int) (j:Int)=((i+j)/2:Nat):=by
 unfold R7;have e:IntKind.u64.wrap ((i:Int)+(j:Int))=(i:Int)+(j:Int):=by
  simp only[IntKind.wrap,IntKind.bits,IntKind.signed];simp;omega
 rw[e,Int.fdiv_eq_ediv_of_nonneg _ (by omega)];omega
def rk (m:Int) (L:Nat):List Bool:=[decide (m.toNat<L),decide (0<=m),decide (m<(L:Int))]
def vL (L:Nat) (c:Nat->Int) (i j:Int) (a:Int->Int->U4):U4:=
 bif decide (i<j) then gd [decide (Ad .i64 (R7 i j)),decide (Ad .i64 (i+j))] (bif decide (c (R7 i j).toNat<0) then gd (decide (Ad .i64 (R7 i j+1))::rk (R7 i j) L) (a (R7 i j+1) j) else gd (rk (R7 i j) L) (a i (R7 i j)))
 else bif decide (i<(L:Int)) then(bif c i.toNat==0 then gd (rk i L) (some (i,true,())) else gd (rk i L) (some (i,false,()))) else some (i,false,())
theorem R8 {α:Type} {m L:Nat} (h:m<L) (x:Option α):gd (rk (m:Int) L) x=x:=by
 unfold rk;rw[AP (by omega),AP (by omega),AP (by omega),xG]
theorem vM {α:Type} {l:List α} {lt eq:α->Bool} {c:Nat->Int} (z:∀(k:Nat) x,l[k]?=some x->decide (c k<0)=lt x/\(c k==0)=eq x) (A:∀(a b:Nat) x y,a<b->l[a]?=some x->l[b]?=some y->lt y=true->lt x=true) (J:l.length<=1000000)
  {h:Nat->Int->Int->U4} (B:∀n i j,h (n+1) i j=vL l.length c i j (h n)):
  ∀(m i j n:Nat),j<=i+m->m<n->i<=j->j<=l.length->(∀k x,k<i->l[k]?=some x->lt x=true)->(∀k x,j<=k->l[k]?=some x->lt x=false)->h n (i:Int) (j:Int)=some ((D0 lt eq l 0).1,(D0 lt eq l 0).2,()):=by
 intro m
 induction m with
 |zero=>
  intro i j n E F C g o p;obtain⟨n,rfl⟩:∃q,n=q+1:=⟨n-1,by omega⟩
  obtain rfl:i=j:=by omega
  rw[B];unfold vL;rw[Av (by omega),fB l 0 i g (λk x s f=>o k x s f) (λx f=>p i x (Nat.le_refl _) f),Nat.zero_add];by_cases t:i<l.length
  ·have f:l[i]?=some l[i]:=List.getElem?_eq_getElem t;have:=(z i _ f).2;rw[Au (by omega),R8 t,R8 t,show((i:Int)).toNat=i from rfl,this,f];show(bif eq l[i] then(some ((i:Int),true,()):U4) else some ((i:Int),false,()))=some ((i:Int),eq l[i],());cases eq l[i]<;>rfl
  ·rw[Av (by omega),List.getElem?_eq_none (by omega)]
 |succ m u=>
  intro i j n E F C g o p;obtain⟨n,rfl⟩:∃q,n=q+1:=⟨n-1,by omega⟩
  by_cases G:i<j
  ·rw[B];unfold vL;obtain⟨q,H⟩:∃q,q=(i+j)/2:=⟨_,rfl⟩
   have D:=qE (i:=i) (j:=j) (by omega);rw[<-H] at D;have I:q<j:=by omega
   have v:i<=q:=by omega
   have f:l[q]?=some l[q]:=List.getElem?_eq_getElem (by omega);rw[Au (by omega),D,AP (AH.2 ⟨by omega,by omega⟩),AP (AH.2 ⟨by omega,by omega⟩),xG,show((q:Int)).toNat=q from rfl,(z q _ f).1];cases r:lt l[q]
   ·rw[xF,R8 (by omega)];exact u i q n (by omega) (by omega) v (by omega) o λk x s d=>by
     by_cases e:k=q
     ·subst e;rw[f] at d;cases d;exact r
     ·cases w:lt x
      ·rfl
      ·have:=A q k _ _ (by omega) f d w;rw[r] at this;cases this
   ·rw[xT,AP (AH.2 ⟨by omega,by omega⟩),R8 (by omega)];have:=u (q+1) j n (by omega) (by omega) (by omega) g (λk x s d=>by
     by_cases e:k=q
     ·subst e;rw[f] at d;cases d;exact r
     ·exact A k q _ _ (by omega) d f r) p
    rwa[Int.natCast_add] at this
  ·exact u i j (n+1) (by omega) (by omega) C g o p
def Cd:List Bool->Bool
 |[]=>true
 |b::r=>(b||r.all λx=> !x)&&Cd r
theorem K7:∀{l:List Bool},Cd l=true->∀(a b:Nat) x y,a<b->l[a]?=some x->l[b]?=some y->y=true->x=true
 |[],_,a,b,x,y,_,e,_,_=>by cases e
 |c::r,h,0,b+1,x,y,_,e,f,d=>by
  obtain rfl:c=x:=by simpa using e
  have h:((c||r.all λx=> !x)&&Cd r)=true:=h;rw[Bool.and_eq_true,Bool.or_eq_true] at h;rcases h.1 with h|h
  ·exact h
  ·have f:r[b]?=some y:=by simpa using f
   have:=List.all_eq_true.1 h y (List.mem_of_getElem? f);rw[d] at this;cases this
 |c::r,h,a+1,b+1,x,y,g,e,f,d=>by
  have h:((c||r.all λx=> !x)&&Cd r)=true:=h;rw[Bool.and_eq_true] at h;exact K7 h.2 a b x y (by omega) (by simpa using e) (by simpa using f) d
theorem UJ:∀{l:List Bool},(∀(a b:Nat) x y,a<b->l[a]?=some x->l[b]?=some y->y=true->x=true)->Cd l=true
 |[],_=>rfl
 |c::r,h=>by
  show((c||r.all λx=> !x)&&Cd r)=true;rw[UJ (l:=r) λa b x y e f d=>h (a+1) (b+1) x y (by omega) (by simpa using f) (by simpa using d),Bool.and_true,Bool.or_eq_true];cases g:c
  ·right;rw[List.all_eq_true];intro y d;obtain⟨i,j,rfl⟩:=List.getElem_of_mem d;cases k:r[i]
   ·rfl
   ·have:=h 0 (i+1) c _ (by omega) rfl (List.getElem?_cons_succ.trans (List.getElem?_eq_getElem j)) k;rw[g] at this;cases this
  ·exact .inl rfl
abbrev Ca (k:L8) (e:AD):Bool:=Op.bytesLess e.1 k
abbrev EH (k:L8) (e:AD):Bool:=e.1==k
abbrev Do (k:Int) (m:AU):Bool:=decide (m.1<k)
abbrev Fq (k:Int) (m:AU):Bool:=m.1==k
def qF (f:Nat):PSpec:=⟨[.slice AB,.str,.fn f],[IT,.bool],λx=>decide (x.1.length<=1000000)&&Cd (x.1.map (Ca x.2.1)),λx=>((D0 (Ca x.2.1) (EH x.2.1) x.1 0).1,(D0 (Ca x.2.1) (EH x.2.1) x.1 0).2,())⟩
def qG (f:Nat):PSpec:=⟨[.slice Ab,IT,.fn f],[IT,.bool],λx=>decide (x.1.length<=1000000)&&Cd (x.1.map (Do x.2.1)),λx=>((D0 (Do x.2.1) (Fq x.2.1) x.1 0).1,(D0 (Do x.2.1) (Fq x.2.1) x.1 0).2,())⟩
theorem qH (a b:L8):decide (bF a b<0)=Op.bytesLess a b/\(bF a b==0)=(a==b):=by
 unfold bF;cases h:Op.bytesLess a b
 ·cases c:a==b
  ·exact⟨rfl,rfl⟩
  ·exact⟨rfl,rfl⟩
 ·have:(a==b)=false:=by
   rw[beq_eq_false_iff_ne];intro e;rw[e,OY] at h;cases h
  rw[this];exact⟨rfl,rfl⟩
theorem qI (a b:Int):decide (bG a b<0)=decide (a<b)/\(bG a b==0)=(a==b):=by
 unfold bG;by_cases h:a<b
 ·rw[Au h,decide_eq_true h,beq_eq_false_iff_ne.2 (show a≠b by omega)];exact⟨rfl,rfl⟩
 ·rw[Av h,decide_eq_false h];by_cases c:a>b
  ·rw[Au c,beq_eq_false_iff_ne.2 (show a≠b by omega)];exact⟨rfl,rfl⟩
  ·rw[Av c,beq_iff_eq.2 (show a=b by omega)];exact⟨rfl,rfl⟩
end Nice
namespace Go.Proofs.YtkgejlchafionaaGreatDoor
open Tryz
open Nice
def zM (x:AA [.str,.str]):Option (AA [IT]):=fO prog (AL []) (AC []) f153 [.str,.str] [IT] x
def qJ (a b:L8):Option (AA [IT]):=bif !(a==a) then(bif !(b==b) then some (0,()) else some (-1,())) else bif !(b==b) then some (1,()) else bif Op.bytesLess a b then some (-1,()) else bif !(Op.bytesLess a b||a==b) then some (1,()) else some (0,())
theorem zN (a b:L8):zM (a,b,())=qJ a b:=by kernel_rfl
theorem vN:PC 153 e7:=(AN (AG (l:=[]) trivial) AM func153 (by kernel_rfl) (by decide)).nice λ⟨a,b,()⟩ _=>by
 refine(zN a b).trans ?_;show qJ a b=some (bF a b,());unfold qJ bF;rw[beq_self_eq_true,beq_self_eq_true];cases Op.bytesLess a b<;>cases a==b<;>rfl
def zO (x:AA [IT,IT]):Option (AA [IT]):=fO prog (AL []) (AC []) f104 [IT,IT] [IT] x
def qK (a b:Int):Option (AA [IT]):=bif a !=a then(bif b !=b then some (0,()) else some (-1,())) else bif b !=b then some (1,()) else bif decide (a<b) then some (-1,()) else bif decide (a>b) then some (1,()) else some (0,())
theorem zP (a b:Int):zO (a,b,())=qK a b:=by kernel_rfl
theorem vO:PC 104 e8:=(AN (AG (l:=[]) trivial) AM func104 (by kernel_rfl) (by decide)).nice λ⟨a,b,()⟩ _=>by
 refine(zP a b).trans ?_;show qK a b=some (bG a b,());unfold qK bG;rw[show(a !=a)=false from by simp,show(b !=b)=false from by simp];cases decide (a<b)<;>cases decide (a>b)<;>rfl
def zQ (x:AA [AB,.str]):Option (AA [IT]):=fO prog (AL [(153,e7)]) (AC []) f152 [AB,.str] [IT] x
theorem zR (k:L8) (l:List Ae) (b:L8):zQ ((k,l,()),b,())=some (bF k b,()):=by kernel_rfl
theorem zS:PC 152 ra:=(AN (AG (l:=[(153,e7)]) ⟨vN,trivial⟩) AM func152 (by kernel_rfl) (by decide)).nice λ⟨⟨k,l,()⟩,b,()⟩ _=>zR k l b
def zT (x:AA [Ab,IT]):Option (AA [IT]):=fO prog (AL [(104,e8)]) (AC []) f103 [Ab,IT] [IT] x
theorem zU (a e v b:Int):zT ((a,(e,v,()),()),b,())=some (bG a b,()):=by kernel_rfl
theorem zV:PC 103 rj:=(AN (AG (l:=[(104,e8)]) ⟨vO,trivial⟩) AM func103 (by kernel_rfl) (by decide)).nice λ⟨⟨a,⟨e,v,()⟩,()⟩,b,()⟩ _=>zU a e v b
abbrev UK:List (Nat×List (Nat×Sh)):=[(3,[(0,.one (.dat AB)),(1,.one .sym),(2,.one .any),(6,.one .sym),(7,.one .sym),(8,.one .sym),(9,.one .sym),(10,.one .sym)])]
def kM (n:Nat) (l:List AD) (k:L8) (i j:Int):U4:=rH prog (AL [(152,ra)]) (AC UK) f151 [IT,.bool] n 0 [(0,dt 10),(1,sy (.string (bs k))),(2,.func (.func 152) #[] #[]),(6,sy (.int .i64 0)),(7,.bool false),(8,sy (.int .i64 l.length)),(9,sy (.int .i64 i)),(10,sy (.int .i64 j))] [.dat AB l]
def vP (x:AA [.slice AB,.str,.fn 152]):U4:=fO prog (AL [(152,ra)]) (AC UK) f151 [.slice AB,.str,.fn 152] [IT,.bool] x
theorem qL (x:AA [.slice AB,.str,.fn 152]):vP x=BV prog (AL [(152,ra)]) (AC UK) f151 [.slice AB,.str,.fn 152] [IT,.bool] AE x:=rfl
theorem qM (N:Nat) (l:List AD) (k:L8):BV prog (AL [(152,ra)]) (AC UK) f151 [.slice AB,.str,.fn 152] [IT,.bool] N (l,k,(),())=kM N l k 0 l.length:=by kernel_rfl
theorem qN (n:Nat) (l:List AD) (k:L8) (i j:Int):kM (n+1) l k i j=vL l.length (λq=>bF (AQ l q).1 k) i j (kM n l k):=by kernel_rfl
theorem vQ:PC 151 (qF 152):=(AN (sh:=AC UK) (AG (l:=[(152,ra)]) ⟨zS,trivial⟩) AM func151 (by kernel_rfl) (by decide)).nice λ⟨l,k,(),()⟩ h=>by
 have h:(decide (l.length<=1000000)&&Cd (l.map (Ca k)))=true:=h;rw[Bool.and_eq_true,decide_eq_true_eq] at h;show vP (l,k,(),())=_;rw[qL,qM];exact vM (c:=λq=>bF (AQ l q).1 k) (lt:=Ca k) (eq:=EH k) (λq x d=>by
   have e:AQ l q=x:=by unfold AQ;rw[List.getD_eq_getElem?_getD,d];rfl
   show decide (bF (AQ l q).1 k<0)=_/\(bF (AQ l q).1 k==0)=_;rw[e];exact qH _ _)
  (λa b x y f d m=>K7 h.2 a b _ _ f (by rw[List.getElem?_map,d];rfl) (by rw[List.getElem?_map,m];rfl)) h.1 (h:=λn i j=>kM n l k i j) (λn i j=>qN n l k i j) l.length 0 l.length AE (by omega) (by unfold AE;omega) (by omega) (Nat.le_refl _) (λq x g=>absurd g (Nat.not_lt_zero _)) (λq x g d=>by rw[List.getElem?_eq_none g] at d;cases d)
abbrev UL:List (Nat×List (Nat×Sh)):=[(3,[(0,.one (.dat Ab)),(1,.one .sym),(2,.one .any),(6,.one .sym),(7,.one .sym),(8,.one .sym),(9,.one .sym),(10,.one .sym)])]
def kN (n:Nat) (l:List AU) (k i j:Int):U4:=rH prog (AL [(103,rj)]) (AC UL) f102 [IT,.bool] n 0 [(0,dt 10),(1,sy (.int .i64 k)),(2,.func (.func 103) #[] #[]),(6,sy (.int .i64 0)),(7,.bool false),(8,sy (.int .i64 l.length)),(9,sy (.int .i64 i)),(10,sy (.int .i64 j))] [.dat Ab l]
def vR (x:AA [.slice Ab,IT,.fn 103]):U4:=fO prog (AL [(103,rj)]) (AC UL) f102 [.slice Ab,IT,.fn 103] [IT,.bool] x
theorem qO (x:AA [.slice Ab,IT,.fn 103]):vR x=BV prog (AL [(103,rj)]) (AC UL) f102 [.slice Ab,IT,.fn 103] [IT,.bool] AE x:=rfl
theorem qP (N:Nat) (l:List AU) (k:Int):BV prog (AL [(103,rj)]) (AC UL) f102 [.slice Ab,IT,.fn 103] [IT,.bool] N (l,k,(),())=kN N l k 0 l.length:=by kernel_rfl
theorem qQ (n:Nat) (l:List AU) (k i j:Int):kN (n+1) l k i j=vL l.length (λq=>bG (Ay l q).1 k) i j (kN n l k):=by kernel_rfl
theorem vS:PC 102 (qG 103):=(AN (sh:=AC UL) (AG (l:=[(103,rj)]) ⟨zV,trivial⟩) AM func102 (by kernel_rfl) (by decide)).nice λ⟨l,k,(),()⟩ h=>by
 have h:(decide (l.length<=1000000)&&Cd (l.map (Do k)))=true:=h;rw[Bool.and_eq_true,decide_eq_true_eq] at h;show vR (l,k,(),())=_;rw[qO,qP];exact vM (c:=λq=>bG (Ay l q).1 k) (lt:=Do k) (eq:=Fq k) (λq x d=>by
   have e:Ay l q=x:=by unfold Ay;rw[List.getD_eq_getElem?_getD,d];rfl
   show decide (bG (Ay l q).1 k<0)=_/\(bG (Ay l q).1 k==0)=_;rw[e];exact qI _ _)
  (λa b x y f d m=>K7 h.2 a b _ _ f (by rw[List.getElem?_map,d];rfl) (by rw[List.getElem?_map,m];rfl)) h.1 (h:=λn i j=>kN n l k i j) (λn i j=>qQ n l k i j) l.length 0 l.length AE (by omega) (by unfold AE;omega) (by omega) (Nat.le_refl _) (λq x g=>absurd g (Nat.not_lt_zero _)) (λq x g d=>by rw[List.getElem?_eq_none g] at d;cases d)
end Go.Proofs.YtkgejlchafionaaGreatDoor
namespace Go.Eng
open Go
section
variable {P:Program} {fz:Nat->Option (Array Value)} {t:Ty}
theorem Co.take {a:List t.Den} {c:List Value} (h:Co fz t a c) (n:Nat) (d:n<=a.length) (_:a.length*t.sz<=c.length):Co fz t (a.take n) (c.take (n*t.sz)):=λk x b=>by
 rw[List.getElem?_take] at b
 split at b
 ·rename_i e;obtain⟨l,f⟩:=h k x b;have g:=Nat.mul_le_mul_right t.sz (show k+1<=n from e);have i:=Nat.mul_le_mul_right t.sz d;rw[Nat.add_mul,Nat.one_mul] at g;refine⟨by rw[List.length_take];omega,?_⟩;rw[List.drop_take,List.take_take,Nat.min_eq_left (by omega)];exact f
 ·cases b
theorem Co.drop {a:List t.Den} {b:List Value} (h:Co fz t a b) (n:Nat):Co fz t (a.drop n) (b.drop (n*t.sz)):=λk x c=>by
 rw[List.getElem?_drop] at c;obtain⟨e,d⟩:=h (n+k) x c;rw[Nat.add_mul] at e d;refine⟨by rw[List.length_drop];omega,?_⟩;rw[List.drop_drop];exact d
def H1 (P:Program) (fz:Nat->Option (Array Value)) (w:World) (own:List Nat) (t:Ty) (e:TypeId) (a:List t.Den) (v:Value) (w':World):Prop:=
 (w.heap.size<=w'.heap.size/\w'.os=w.os/\w'.output=w.output/\∀b,b<w.heap.size->b∉own->w'.heap[b]?=w.heap[b]?)/\
 ((a=[]/\∃q,v=.slice q 0 0)\/∃(b o n c:Nat) (C:Array Value) (fr:Nat×Nat),v=.slice (some ⟨b,o,none⟩) n c/\(b∈own\/w.heap.size<=b)/\w'.heap[b]?=some (.cells C e fr)/\n=a.length/\n<=c/\o+c*t.sz<=C.size/\
   (∀o,o<C.size+t.slk->¬(fr.1<=o/\o<fr.2))/\(∀i,P.info? e=some i->t.sz=i.size/\o%i.size=0/\C.size%i.size=0)/\Co fz t a (C.toList.drop o))
abbrev R9 (ts:List OT) (t:Ty) (e:TypeId) (pre:Bz ts->Bool) (g:Bz ts->List t.Den):OSpec:=⟨false,0,.unit,0,ts,[.vec t e],λ_ y=>pre y,λx y=>(x,g y,())⟩
theorem H2 {gl:List (Nat×List Value)} {f:FuncId} {ts:List OT} {e:TypeId} {pre:Bz ts->Bool} {g:Bz ts->List t.Den}
  (h:∀(fz:Nat->Option (Array Value)) (w:World) (own:List Nat) (args:List Value) (y:Bz ts),Bs fz w->I6 gl w->own.Nodup->(∀b,b∈own->fz b=none)->(∀p,p∈gl->p.1∉own)->OX P w fz ts y args own->pre y=true->
   Calls P f args.toArray w λev w'=>∃v,ev=.returned v/\H1 P fz w own t e (g y) v w'):Rs P gl f (R9 ts t e pre g):=by
 intro fz w r s i args x y k I l a u J m K z;have L:s=[]:=m rfl;subst L;have l:i.Nodup:=l;have a:∀b,b∈i->fz b=none:=a;refine(h fz w i args y k I l a u K z).mono ?_;rintro ev w' ⟨v,rfl,⟨S,T,U,M⟩,V⟩;have A:∀b c,fz b=some c->b<w.heap.size:=λb c d=>by obtain⟨_,_,h⟩:=k b c d;exact Ap h
 have j:Bs fz w':=λb c d=>by
  obtain⟨e,fr,h⟩:=k b c d;refine⟨e,fr,?_⟩;rw[M b (A b c d) λB=>by rw[a b B] at d;cases d];exact h
 rcases V with⟨W,q,rfl⟩|⟨b,o,n,c,C,fr,rfl,d,D,X,N,O,Q,E,R⟩
 ·refine⟨[.slice q 0 0],fz,[],[],rfl,λ_ _ h=>h,j,λ_ _ h=>.inl h,List.nodup_nil,(λb (h:b∈([]:List Nat))=>absurd h List.not_mem_nil),(λb (h:b∈([]:List Nat))=>absurd h List.not_mem_nil),(λ(h:false=true)=>Bool.noConfusion h),λ_=>rfl,?_,S,T,U,λb d B=>M b d B⟩;refine⟨_,[],[],[],rfl,rfl,.inr ⟨rfl,⟨0,0,0,t.sz,false,λ_=>none,.slice q 0 0⟩,rfl,rfl,⟨rfl,(λb c (h:none=some c)=>by cases h),.inl ⟨rfl,W,q,rfl⟩⟩,(λb c (h:none=some c)=>by cases h)⟩,rfl,rfl⟩
 ·have F:fz b=none:=by
   rcases d with d|d
   ·exact a b d
   ·cases Y:fz b with
    |none=>rfl
    |some c=>exact absurd (A b c Y) (by omega)
  subst X;refine⟨[.slice (some ⟨b,o,none⟩) (g y).length c],fz,[],[b],rfl,λ_ _ h=>h,j,λ_ _ h=>.inl h,?_,(λG (h:G∈[b])=> ?_),(λG (h:G∈[b])=> ?_),(λ(h:false=true)=>Bool.noConfusion h),λ_=>rfl,?_,S,T,U,λb d B=>M b d B⟩
  ·show([]++([]++[b])).Nodup;simp
  ·have:G=b:=by simpa using h
   subst this;exact F
  ·have:G=b:=by simpa using h
   subst this;exact d
  ·refine⟨_,[],[b],[],rfl,rfl,.inr ⟨rfl,B5 b o (C.size-o) t.sz fz (.slice (some ⟨b,o,none⟩) (g y).length c),rfl,rfl,⟨rfl,j,.inr ⟨rfl,λ⟨Z,H⟩=> ?_,c,C,fr,rfl,N,D,?_,?_,E,Q,R⟩⟩,λb c h=>h⟩,rfl,rfl⟩
   ·have H:fz b=some Z:=H;rw[F] at H;cases H
   ·show o+(C.size-o)=C.size;omega
   ·show c*t.sz<=C.size-o;omega
theorem KC {w:World} {e:TypeId} {ts:List OT} {y:Bz (.vec t e::ts)} {args:List Value} {own:List Nat} (h:OX P w fz (.vec t e::ts) y args own):
  ∃(v:Value) (a:List Value) (d g:List Nat),args=v::a/\own=d++g/\OX P w fz ts y.2 a g/\((y.1=[]/\d=[]/\∃q,v=.slice q 0 0)\/∃(b o c:Nat) (C:Array Value) (fr:Nat×Nat),d=[b]/\v=.slice (some ⟨b,o,none⟩) y.1.length c/\y.1.length<=c/\
   w.heap[b]?=some (.cells C e fr)/\o+c*t.sz<=C.size/\(∀o,o<C.size+t.slk->¬(fr.1<=o/\o<fr.2))/\(∀i,P.info? e=some i->t.sz=i.size/\o%i.size=0/\C.size%i.size=0)/\Co fz t y.1 (C.toList.drop o)):=by
 obtain⟨v,a,d,g,rfl,rfl,A,B⟩:=h;refine⟨v,a,d,g,rfl,rfl,B,?_⟩;rcases A with⟨h, -⟩|⟨-,r,l,j,⟨J,K,D⟩,E⟩
 ·cases h
 have l:v=r.sv:=(List.cons.inj l).1;subst l;rcases D with⟨m,p,q,n⟩|⟨m,p,cap,c,fr,n,F,G,s,u,H,I,f⟩
 ·rw[m] at j;exact .inl ⟨p,j,q,n⟩
 ·rw[m] at j;refine .inr ⟨r.blk,r.base,cap,c,fr,j,n,F,G,?_,I,H,λk x z=>⟨(f k x z).1,Bj.mono E _ _ _ (f k x z).2⟩⟩;have s:r.base+r.room=c.size:=s;have u:cap*t.sz<=r.room:=u;omega
theorem IQ {w:World} {k:IntKind} {ts:List OT} {y:Bz (.d (.int k)::ts)} {args:List Value} {own:List Nat} (h:OX P w fz (.d (.int k)::ts) y args own):
  ∃a,args=.int k y.1::a/\OX P w fz ts y.2 a own:=by
 obtain⟨v,a,e,f,rfl,rfl,b,c⟩:=h;rcases b with⟨h, -⟩|⟨-,rfl,h⟩
 ·cases h
 have h:[v]=[.int k y.1]:=h;exact⟨a,by rw[(List.cons.inj h).1],c⟩
theorem H3 {w:World} (j:Bs fz w) {ts:List OT} {y:Bz (.d (.slice t)::ts)} {args:List Value} {own:List Nat} (h:OX P w fz (.d (.slice t)::ts) y args own):
  ∃(v:Value) (a:List Value),args=v::a/\OX P w fz ts y.2 a own/\(((∃q c,v=.slice q 0 c)/\y.1=[])\/∃(b o c:Nat) (C:Array Value) (e:TypeId) (fr:Nat×Nat),v=.slice (some ⟨b,o,none⟩) y.1.length c/\fz b=some C/\
   w.heap[b]?=some (.cells C e fr)/\o+y.1.length*t.sz<=C.size/\y.1.length<=c/\Co fz t y.1 (C.toList.drop o)):=by
 obtain⟨v,a,D,E,rfl,rfl,l,m⟩:=h;rcases l with⟨h, -⟩|⟨-,rfl,sv,n,h⟩
 ·cases h
 obtain rfl:v=sv:=(List.cons.inj n).1;refine⟨v,a,rfl,m,?_⟩;rcases h with⟨⟨q,c,rfl⟩,g⟩|⟨b,o,c,f,rfl,g,p,r,s⟩
 ·exact .inl ⟨⟨q,c,rfl⟩,g⟩
 ·obtain⟨u,fr,z⟩:=j b f g;refine .inr ⟨b,o,c,f,u,fr,rfl,g,z,p,r,λk x i=>⟨?_,?_⟩⟩
  ·have A:=EL i;have B:=Nat.mul_le_mul_right t.sz (show k+1<=y.1.length from A);rw[Nat.add_mul,Nat.one_mul] at B;rw[List.length_drop,Array.length_toList];omega
  ·rw[List.drop_drop];exact s k x i
theorem FG {w:World} {y:Bz []} {args:List Value} {own:List Nat} (h:OX P w fz [] y args own):args=[]/\own=[]:=h
end
end Go.Eng
namespace Nice
abbrev UM:OSpec:=R9 [.d (.slice Aa)] Aa 72 (λy=>decide (y.1.length<=1000000)) (λy=>y.1)
abbrev vT:OSpec:=⟨false,0,.unit,0,[.d (.slice Aa)],[.vec Aa 72],λ_ _=>true,λx y=>(x,y.1,())⟩
end Nice
namespace Go.Proofs.YtkgejlchafionaaGreatDoor
open Tryz
open Nice Go.RowKit
def vU (x:Unit) (y:Bz [.d (.slice Aa)]):Option (Unit×Bz [.vec Aa 72]):=mr prog (Dc [] []) (AC []) f156 vT x y
theorem vV (l:List (Aa).Den):vU () (l,())=gd [decide ((2*(0+l.length)+400)*32<=281474976710656),decide (0<l.length)] (some ((),l,())):=by kernel_rfl
theorem aY:OC 156 ⟨false,0,.unit,0,[.d (.slice Aa)],[.vec Aa 72],λ_ y=>decide (0<y.1.length)&&decide (y.1.length<=1000000),λx y=>(x,y.1,())⟩:=
 (rS (S:=vT) (sh:=AC []) (BN (l:=[]) (o:=[]) trivial trivial) AM func156 (by kernel_rfl) (by decide)).nice λ() ⟨l,()⟩ h=>by
  have h:(decide (0<l.length)&&decide (l.length<=1000000))=true:=h;rw[Bool.and_eq_true,decide_eq_true_eq,decide_eq_true_eq] at h;refine(vV l).trans ?_;rw[AP (by omega),AP h.1,xG]
theorem fC (q:Option Addr) (c:Nat) (w:World):Calls prog 156 #[.slice q 0 c] w λe w'=>(∃l,e=.returned (.slice l 0 0))/\Bx w w':=by
 have mixed:Tryz.prog.follows .mixedOrders=true:=by kernel_rfl
 have tS:Tryz.prog.underlying 66=some (.slice 72):=underlying66;have m:∀(w:World) (a:Option Addr) (n c g h:Nat),(binOp .eql 66 (.slice a n c) (.slice none g h)).run prog w=.ok (.bool a.isNone) w:=λw a n c g h=>Lib.run_eql_slice_nil w _ _ a n c g h tS
 obtain⟨i0,i,k⟩:∃i0:TypeInfo,Tryz.prog.info? 72=some i0/\i0.size=3:=⟨Tryz.t72,by kernel_rfl,by kernel_rfl⟩
 go_enter func156,ntmps156
 cases q with
 |none=>
  go_wp2
  go_ret
  exact⟨⟨_,rfl⟩,Nat.le_refl _,rfl,rfl,λ_ _=>rfl⟩
 |some a=>
  have d:∀(W:World) (b ty:Nat),(Builtin.append_ #[66,66] ty #[.slice (some ⟨b,0,none⟩) 0 0,.slice (some a) 0 c]).run prog W=.ok (.slice (some ⟨b,0,none⟩) 0 0) W:=λW b ty=>by
   have o:Src prog i0.size 66 (.slice (some a) 0 c) 0 [] W:=Src.ofSlice W tS a 0 c [] (by rw[k];rfl) (λj u f=>by cases f) (λu p=>by cases p);exact run_append_room_src (P:=prog) (w:=W) 66 66 ty 72 i0 tS i b 0 0 0 _ 0 [] o (Nat.le_refl _) (λj f=>absurd f (Nat.not_lt_zero _)) (λj f=>absurd f (Nat.not_lt_zero _))
  go_wp2_with (at_builtin;refine Lib.wpList_append_run _ rfl _ _ _ _ rfl _ _ rfl rfl _ _ (d _ _ _) ?_)
  go_ret
  exact⟨⟨_,rfl⟩,by show _<=(w.heap.push _).size;rw[Array.size_push];omega,rfl,rfl,λb r=>Af w _ r⟩
theorem fD:OC 156 UM:=by
 intro fz w r u z args x y p A B i j k n s a;obtain⟨l,⟨⟩⟩:=y;have a:l.length<=1000000:=of_decide_eq_true a;cases l with
 |cons m l=>
  exact aY fz w r u z args x (m::l,()) p A B i j k n s (by show(decide (0<(m::l).length)&&decide ((m::l).length<=1000000))=true;rw[decide_eq_true (by simp),decide_eq_true a];rfl)
 |nil=>
  have h:=H2 (P:=prog) (gl:=FP) (f:=156) (ts:=[.d (.slice Aa)]) (t:=Aa) (e:=72) (pre:=λy=>decide (y.1.length=0)) (g:=λy=>y.1) λfz w own args y p A B i j s a=>by
   obtain⟨l,⟨⟩⟩:=y;have E:l=[]:=List.length_eq_zero_iff.1 (of_decide_eq_true a);subst E;obtain⟨v,D,rfl,F,G⟩:=H3 p s;obtain⟨rfl,rfl⟩:=FG F;have key:∀q c,v=.slice q 0 c->Calls prog 156 #[v] w λev w'=>∃v,ev=.returned v/\H1 prog fz w [] Aa 72 [] v w':=λq c e=>by
    subst e;refine(fC q c w).mono ?_;rintro e w' ⟨⟨H,rfl⟩,I,J,K,L⟩;exact⟨_,rfl,⟨I,J,K,λb M _=>L b M⟩,.inl ⟨rfl,H,rfl⟩⟩
   rcases G with⟨⟨q,c,e⟩, -⟩|⟨b,o,c,C,e,fr,N, -⟩
   ·exact key q c e
   ·exact key _ c N
  exact h fz w r u z args x ([],()) p A B i j k n s rfl
end Go.Proofs.YtkgejlchafionaaGreatDoor
namespace Nice
abbrev fE:OSpec:=R9 [.vec Aa 72,.d IT,.d IT] Aa 72 (λy=>decide (0<=y.2.1)&&(decide (y.2.1.toNat<y.1.length)&&(decide (y.2.2.1=y.2.1+1)&&decide (y.1.length<=1000000)))) (λy=>y.1.take y.2.1.toNat++y.1.drop (y.2.1.toNat+1))
end Nice
namespace Go.Proofs.YtkgejlchafionaaGreatDoor
open Tryz
open Nice
theorem fF {fz:Nat->Option (Array Value)} {w:World} {own:List Nat} {args:List Value} (a:List (Aa).Den) (i j:Int) (_:Bs fz w) (R:∀b,b∈own->fz b=none)
  (F:OX prog w fz [.vec Aa 72,.d IT,.d IT] (a,i,j,()) args own) (hi0:0<=i) (p:i.toNat<a.length) (G:j=i+1) (hbig:a.length<=1000000):
  Calls prog 197 args.toArray w λev w'=>∃v,ev=.returned v/\H1 prog fz w own Aa 72 (a.take i.toNat++a.drop (i.toNat+1)) v w':=by
 have r:∀i,Tryz.prog.info? 72=some i->i.size=3:=λi Q=>by
  have h:Tryz.prog.info? 72=some Tryz.t72:=by kernel_rfl
  rw[h] at Q;cases Q;rfl
 obtain⟨n,rfl⟩:∃n:Nat,i=(n:Int):=⟨i.toNat,by omega⟩
 subst G;have p:n<a.length:=p;obtain⟨v,rest,o1,o2,rfl,rfl,H,S⟩:=KC F;obtain⟨T,rfl,I⟩:=IQ H;obtain⟨U,rfl,J⟩:=IQ I;obtain⟨rfl,rfl⟩:=FG J;clear F H I J;rcases S with⟨h, -⟩|⟨b,o,c,C,fr,rfl,rfl,A,g,s,K,L,f⟩
 ·have h:a=[]:=h;rw[h] at p;simp at p
 have A:a.length<=c:=A;have g:w.heap[b]?=some (.cells C 72 fr):=g;have s:o+c*3<=C.size:=s;have M:∀o,o<C.size->¬(fr.1<=o/\o<fr.2):=λo h=>K o (Nat.lt_add_right _ h)
 have hb:=Ap g;obtain⟨l,B⟩:∃l,l=(C.toList.drop o).take (a.length*3):=⟨_,rfl⟩
 have V:C.toList.length=C.size:=Array.length_toList;have m:l.length=a.length*3:=by rw[B,List.length_take,List.length_drop,V];omega
 have f:Co fz Aa a (C.toList.drop o):=f;have f:Co fz Aa a l:=by
  refine Co.congr f (by show a.length*3<=_;rw[m];exact Nat.le_refl _) λk D=> ?_
  have D:k<a.length*3:=D;rw[B,List.getElem?_take,if_pos D]
 have t:∀(j:Nat),j<a.length*3->l[j]?=C[o+j]?:=λj G=>by
  rw[B,List.getElem?_take,if_pos G,List.getElem?_drop,Array.getElem?_toList]
 have W:∀j u,l[j]?=some u->w.cell? ⟨b,o+j,none⟩=some u:=λj u X=>by
  have G:=EL X;rw[t j (by omega)] at X;simp only[World.cell?,g,Option.isSome_none,Bool.false_eq_true,if_false];exact X
 have Y:∀v∈l,v.oneCell'=true:=λv S=>GW (GH f (by rw[m];rfl) v S)
 have N:∀j,j<a.length*3->w.frozen? ⟨b,o+j,none⟩=false:=λj G=>by
  have:=M (o+j) (by omega);simp only[World.frozen?,g];simpa using this
 have hall:Co fz Aa (a.take n++a.drop (n+1)) (l.take (n*3)++l.drop ((n+1)*3)):=
  Co.app (Co.take f n (by omega) (by rw[m];exact Nat.le_refl _)) (by rw[List.length_take,List.length_take,m,Nat.min_eq_left (show n<=a.length by omega)];show min (n*3) (a.length*3)=n*3;omega) (Co.drop f (n+1))
 have y:(a.take n++a.drop (n+1)).length=a.length-1:=by rw[List.length_append,List.length_take,List.length_drop];omega
 have z:o%3=0/\C.size%3=0:=by
  have h:Tryz.prog.info? 72=some Tryz.t72:=by kernel_rfl
  have:=L _ h;rw[r _ h] at this;exact this.2
 refine(eE b o a.length c n l w m Y W N A p (by omega)).mono ?_;rintro ev w' ⟨rfl,q,rfl⟩;have O:(l.drop ((n+1)*3)).length=(a.length-(n+1))*3:=by rw[List.length_drop,m];omega
 have Z:(Builtin.zeroCells #[.int .i64 0,.bool false,.string ⟨#[]⟩] 1).toList.length=3:=by rw[Array.length_toList,Ac];rfl
 have E:(w.drewN q).heap[b]?=some (.cells C 72 fr):=g;rw[Aw b 72 fr _ (o+n*3) C (w.drewN q) E,Aw b 72 fr _ (o+(a.length-1)*3) (BQ C (o+n*3) (l.drop ((n+1)*3))) _ (Array.getElem?_setIfInBounds_self_of_lt hb)];refine⟨_,rfl,⟨by show _<=((w.heap.setIfInBounds _ _).setIfInBounds _ _).size;rw[Array.size_setIfInBounds,Array.size_setIfInBounds];exact Nat.le_refl _,rfl,rfl,λx _ hm=>(Array.getElem?_setIfInBounds_ne (λe=>hm (by subst e;simp))).trans (Array.getElem?_setIfInBounds_ne (λe=>hm (by subst e;simp)))⟩,.inr ⟨b,o,_,c,BQ (BQ C (o+n*3) (l.drop ((n+1)*3))) (o+(a.length-1)*3) (Builtin.zeroCells #[.int .i64 0,.bool false,.string ⟨#[]⟩] 1).toList,fr,rfl,.inl (by simp),Array.getElem?_setIfInBounds_self_of_lt (by rw[Array.size_setIfInBounds];exact hb),y.symm,by omega,by rw[AJ,AJ];exact s,by rw[AJ,AJ];exact K,λi Q=> ?_,?_⟩⟩
 ·rw[r i Q,AJ,AJ];exact⟨rfl,z.1,z.2⟩
 ·refine hall.congr ?_ λk D=> ?_
  ·rw[y];show(a.length-1)*3<=_;have P:(BQ (BQ C (o+n*3) (l.drop ((n+1)*3))) (o+(a.length-1)*3) (Builtin.zeroCells #[.int .i64 0,.bool false,.string ⟨#[]⟩] 1).toList).toList.length=C.size:=by rw[Array.length_toList,AJ,AJ]
   rw[List.length_drop,P];omega
  ·rw[y] at D;have D:k<(a.length-1)*3:=D;have l1:(l.take (n*3)).length=n*3:=by rw[List.length_take,m];omega
   rw[List.getElem?_drop,Array.getElem?_toList,Bo _ _ _ _ (by rw[AJ,Z];omega),if_neg (by omega),Bo _ _ _ _ (by rw[O];omega),O];by_cases h1:k<n*3
   ·rw[if_neg (by omega),List.getElem?_append_left (by omega),List.getElem?_take,if_pos h1,t k (by omega)]
   ·rw[if_pos (by omega),List.getElem?_append_right (by omega),l1];congr 1;omega
theorem qR:OC 197 fE:=H2 λfz w own args y c f g b e d a=>by
 obtain⟨h,i,j,⟨⟩⟩:=y;simp only[Bool.and_eq_true,decide_eq_true_eq] at a;exact fF h i j c b d a.1 a.2.1 a.2.2.1 a.2.2.2
end Go.Proofs.YtkgejlchafionaaGreatDoor
namespace Nice
abbrev fG:OSpec:=R9 [.vec AB 68,.d IT,.d (.slice AB)] AB 68 (λy=>decide (0<=y.2.1)&&(decide (y.2.1.toNat<=y.1.length)&&(decide (y.2.2.1.length=1)&&decide (y.1.length<=1000000)))) (λy=>y.1.take y.2.1.toNat++(y.2.2.1++y.1.drop y.2.1.toNat))
end Nice
namespace Go.Proofs.YtkgejlchafionaaGreatDoor
open Tryz
open Nice
theorem fH {fz:Nat->Option (Array Value)} {w:World} {own:List Nat} {args:List Value} (g:List (AB).Den) (i:Int) (vs:List (AB).Den) (hfz:Bs fz w) (hnone:∀b,b∈own->fz b=none)
  (hrd:OX prog w fz [.vec AB 68,.d IT,.d (.slice AB)] (g,i,vs,()) args own) (hi0:0<=i) (N:i.toNat<=g.length) (s:vs.length=1) (hbig:g.length<=1000000):
  Calls prog 110 args.toArray w λev w'=>∃v,ev=.returned v/\H1 prog fz w own AB 68 (g.take i.toNat++(vs++g.drop i.toNat)) v w':=by
 have D:∀i,Tryz.prog.info? 68=some i->i.size=2:=λi hi=>by
  have h:Tryz.prog.info? 68=some Tryz.t68:=by kernel_rfl
  rw[h] at hi;cases hi;rfl
 obtain⟨n,rfl⟩:∃n:Nat,i=(n:Int):=⟨i.toNat,by omega⟩
 have N:n<=g.length:=N;obtain⟨v,rest,o1,o2,rfl,rfl,hr2,hv⟩:=KC hrd;obtain⟨rest2,rfl,hr3⟩:=IQ hr2;obtain⟨v3,rest3,rfl,hr4,hv3⟩:=H3 hfz hr3;obtain⟨rfl,rfl⟩:=FG hr4;clear hrd hr2 hr3 hr4;have hlt:∀b c,fz b=some c->b<w.heap.size:=λb c hb=>by obtain⟨_,_,h⟩:=hfz b c hb;exact Ap h
 rcases hv3 with⟨-,h⟩|⟨O,Y,vc,VC,ve,vfr,rfl,hvf,E,J,hvc,P⟩
 ·have h:vs=[]:=h;rw[h] at s;simp at s
 have E:w.heap[O]?=some (.cells VC ve vfr):=E;have P:Co fz AB vs (VC.toList.drop Y):=P;have J:Y+vs.length*2<=VC.size:=J;rw[s] at J;show Calls prog 110 #[v,.int .i64 n,.slice (some ⟨O,Y,none⟩) vs.length vc] w _;rw[s];obtain⟨y,hus⟩:∃y,y=(VC.toList.drop Y).take 2:=⟨_,rfl⟩
 have f:y.length=2:=by rw[hus,List.length_take,List.length_drop,Array.length_toList];omega
 have Q:Co fz AB vs y:=by
  have:=Co.take P 1 (by rw[s];omega) (by show vs.length*2<=_;rw[s,List.length_drop,Array.length_toList];omega);rw[List.take_of_length_le (by rw[s];omega)] at this;rw[hus];exact this
 have p:∀j u,y[j]?=some u->w.cell? ⟨O,Y+j,none⟩=some u:=λj u M=>by
  rw[hus,List.getElem?_take] at M
  split at M
  ·rw[List.getElem?_drop,Array.getElem?_toList] at M;simp only[World.cell?,E,Option.isSome_none,Bool.false_eq_true,if_false];exact M
  ·cases M
 have R:∀v∈y,v.oneCell'=true:=λv hv=>GW (GH Q (by rw[f,s];rfl) v hv)
 have hvb:=hlt O VC hvf;rcases hv with⟨rfl,rfl,q,rfl⟩|⟨b,o,c,C,fr,rfl,rfl,hnc,r,L,hfr,hdiv,z⟩
 ·
  obtain rfl:n=0:=by have:n<=0:=N;omega
  refine(J6 q 0 0 O Y vc [] y w (Nat.le_refl _) (by omega) (by omega) rfl f (λ_=>rfl) (λa ha j v hv=>by cases hv) p R).mono ?_;rintro ev w' ⟨rfl,rfl⟩;refine⟨_,rfl,⟨?_,rfl,rfl,λb hb _=>Af w _ hb⟩,.inr ⟨w.heap.size,0,_,_,_,(0,0),rfl,.inr (Nat.le_refl _),Al w _,?_,?_,?_,λo _ h=> ?_,λi hi=> ?_,?_⟩⟩
  ·show _<=(w.heap.push _).size;rw[Array.size_push];omega
  ·show 0+1=((([]:List (AB).Den).take 0)++(vs++([]:List (AB).Den).drop 0)).length;simp[s]
  ·exact grownCap_ge w _ _ _
  ·have e2:(#[.string ⟨#[]⟩,.slice none 0 0]:Array Value).size=2:=rfl;have hg:=grownCap_ge w (0+1) 0 68;show 0+grownCap w (0+1) 0 68*2<=_;rw[Array.size_append,Ac,e2,List.nil_append,List.size_toArray,f];omega
  ·exact absurd h.2 (Nat.not_lt_zero _)
  ·have e2:(#[.string ⟨#[]⟩,.slice none 0 0]:Array Value).size=2:=rfl;refine⟨(D i hi).symm,Nat.zero_mod _,?_⟩;rw[D i hi,Array.size_append,Ac,e2,List.nil_append,List.size_toArray,f];omega
  ·show Co fz AB ([]++(vs++[])) _;rw[List.nil_append,List.append_nil];refine Q.congr ?_ λk I=> ?_
   ·show vs.length*2<=_;simp[s,f]
   ·have I:k<vs.length*2:=I;rw[s] at I;rw[List.drop_zero,Array.toList_append,List.nil_append,List.getElem?_append_left (by simpa using by omega)]
 ·have hnc:g.length<=c:=hnc;have r:w.heap[b]?=some (.cells C 68 fr):=r;have L:o+c*2<=C.size:=L;have hfr0:∀o,o<C.size->¬(fr.1<=o/\o<fr.2):=λo h=>hfr o (Nat.lt_add_right _ h)
  have hb:=Ap r;have hvbne:O≠b:=λe=>by
   have:=hnone b (by simp);rw[<-e,hvf] at this;cases this
  obtain⟨t,hcs⟩:∃t,t=(C.toList.drop o).take (g.length*2):=⟨_,rfl⟩
  have hCl:C.toList.length=C.size:=Array.length_toList;have m:t.length=g.length*2:=by rw[hcs,List.length_take,List.length_drop,hCl];omega
  have z:Co fz AB g (C.toList.drop o):=z;have z:Co fz AB g t:=by
   refine Co.congr z (by show g.length*2<=_;rw[m];exact Nat.le_refl _) λk I=> ?_
   have I:k<g.length*2:=I;rw[hcs,List.getElem?_take,if_pos I]
  have K:∀(j:Nat),j<g.length*2->t[j]?=C[o+j]?:=λj Z=>by
   rw[hcs,List.getElem?_take,if_pos Z,List.getElem?_drop,Array.getElem?_toList]
  have S:∀(j:Nat) (u:Value),C[j]?=some u->w.cell? ⟨b,j,none⟩=some u:=λj u M=>by
   simp only[World.cell?,r,Option.isSome_none,Bool.false_eq_true,if_false];exact M
  have hcc:∀j u,t[j]?=some u->w.cell? ⟨b,o+j,none⟩=some u:=λj u M=>by
   have Z:=EL M;rw[K j (by omega)] at M;exact S _ _ M
  have hc1:∀v∈t,v.oneCell'=true:=λv hv=>GW (GH z (by rw[m];rfl) v hv)
  have T:∀j,o+j<C.size->(w.cell? ⟨b,o+j,none⟩).isSome=true:=λj Z=>by
   rw[S _ _ (Array.getElem?_eq_getElem Z)];rfl
  have hfrz:∀j,j<C.size->w.frozen? ⟨b,j,none⟩=false:=λj Z=>by
   have:=hfr0 j Z;simp only[World.frozen?,r];simpa using this
  have hshb:w.shape? b=some (68,C.size):=by simp only[World.shape?,r]
  have hshv:w.shape? O=some (ve,VC.size):=by simp only[World.shape?,E]
  have hfe:w.frozen? ⟨b,C.size,none⟩=false:=by
   have:=hfr C.size (by show C.size<C.size+1;omega);simp only[World.frozen?,r];simpa using this
  have hall:Co fz AB (g.take n++(vs++g.drop n)) (t.take (n*2)++(y++t.drop (n*2))):=
   Co.app (Co.take z n N (by rw[m];exact Nat.le_refl _)) (by rw[List.length_take,List.length_take,m,Nat.min_eq_left N];show min (n*2) (g.length*2)=n*2;omega) (Co.app Q (by rw[f,s];rfl) (Co.drop z n))
  have U:(g.take n++(vs++g.drop n)).length=g.length+1:=by
   rw[List.length_append,List.length_append,List.length_take,List.length_drop,s];omega
  have V:∀k,(t.take (n*2)++(y++t.drop (n*2)))[k]?=if k<n*2 then t[k]? else if k<(n+1)*2 then y[k-n*2]? else t[k-2]?:=λk=>by
   have l1:(t.take (n*2)).length=n*2:=by rw[List.length_take,m];omega
   by_cases H:k<n*2
   ·rw[if_pos H,List.getElem?_append_left (by omega),List.getElem?_take,if_pos H]
   ·rw[if_neg H,List.getElem?_append_right (by omega),l1];by_cases h2:k<(n+1)*2
    ·rw[if_pos h2,List.getElem?_append_left (by omega)]
    ·rw[if_neg h2,List.getElem?_append_right (by omega),f,List.getElem?_drop];congr 1;omega
  have fin:∀(w':World) (b' o' c':Nat) (C':Array Value) (fr':Nat×Nat),(w.heap.size<=w'.heap.size/\w'.os=w.os/\w'.output=w.output/\∀x,x<w.heap.size->x≠b->w'.heap[x]?=w.heap[x]?)->(b'=b\/w.heap.size<=b')->w'.heap[b']?=some (.cells C' 68 fr')->
    g.length+1<=c'->o'+c'*2<=C'.size->(∀o,o<C'.size+1->¬(fr'.1<=o/\o<fr'.2))->o'%2=0->C'.size%2=0->(∀k,k<(g.length+1)*2->C'[o'+k]?=if k<n*2 then t[k]? else if k<(n+1)*2 then y[k-n*2]? else t[k-2]?)->
    ∃v,Ending.returned (.slice (some ⟨b',o',none⟩) (g.length+1) c')=.returned v/\H1 prog fz w ([b]++[]) AB 68 (g.take n++(vs++g.drop n)) v w':=λw' b' o' c' C' fr' hs hb' hrow' hc' hfit' hfr' ho' hC' hget=>by
   refine⟨_,rfl,⟨hs.1,hs.2.1,hs.2.2.1,λx hx hm=>hs.2.2.2 x hx λe=>hm (by subst e;simp)⟩,.inr ⟨b',o',_,c',C',fr',rfl,?_,hrow',U.symm,hc',hfit',hfr',λi hi=> ?_,?_⟩⟩
   ·rcases hb' with rfl|h
    ·exact .inl (by simp)
    ·exact .inr h
   ·rw[D i hi];exact⟨rfl,ho',hC'⟩
   ·refine hall.congr ?_ λk I=> ?_
    ·rw[U];show(g.length+1)*2<=_;have hCl':C'.toList.length=C'.size:=Array.length_toList;rw[List.length_drop,hCl'];omega
    ·rw[U] at I;rw[List.getElem?_drop,Array.getElem?_toList,V];exact hget k I
  have F:o%2=0/\C.size%2=0:=by
   have h:Tryz.prog.info? 68=some Tryz.t68:=by kernel_rfl
   have:=hdiv _ h;rw[D _ h] at this;exact this.2
  have gs:∀(o1:Nat) (l:List Value) (A:Array Value) (k:Nat),o1+l.length<=A.size->(BQ A o1 l)[k]?=if o1<=k/\k<o1+l.length then l[k-o1]? else A[k]?:=λo1 l A k I=>Bo _ _ _ _ I
  by_cases hend:n=g.length
  ·subst hend;by_cases B:g.length+1<=c
   ·
    refine(Rz b o g.length c O Y vc y w B f (λj Z=>by rw[Nat.add_assoc];exact T _ (by omega)) (λj Z=>hfrz _ (by omega)) p R).mono ?_;rintro ev w' ⟨rfl,rfl⟩;rw[Aw b 68 fr y (o+g.length*2) C w r];refine fin _ b o c (BQ C (o+g.length*2) y) fr ⟨by show _<=(w.heap.setIfInBounds _ _).size;rw[Array.size_setIfInBounds];exact Nat.le_refl _,rfl,rfl,λx _ hne=>Array.getElem?_setIfInBounds_ne (Ne.symm hne)⟩ (.inl rfl) (Array.getElem?_setIfInBounds_self_of_lt hb) B (by rw[AJ];exact L) (by rw[AJ];exact hfr) F.1 (by rw[AJ];exact F.2) λk I=> ?_
    rw[gs _ _ _ _ (by rw[f];omega),f];by_cases H:k<g.length*2
    ·rw[if_neg (by omega),if_pos H,K k H]
    ·rw[if_pos (by omega),if_neg H,if_pos (by omega)];congr 1;omega
   ·
    refine(J6 (some ⟨b,o,none⟩) g.length c O Y vc t y w hnc (by omega) (by omega) m f (λh=>by cases h) (λa ha j u M=>by cases ha;rw[Addr.add_lit];exact hcc j u M) p R).mono ?_;rintro ev w' ⟨rfl,rfl⟩;have e2:(#[.string ⟨#[]⟩,.slice none 0 0]:Array Value).size=2:=rfl;have hg:=grownCap_ge w (g.length+1) c 68
    have hCs:((t++y).toArray++Builtin.zeroCells #[.string ⟨#[]⟩,.slice none 0 0] (grownCap w (g.length+1) c 68-(g.length+1))).size=grownCap w (g.length+1) c 68*2:=by
     rw[Array.size_append,Ac,e2,List.size_toArray,List.length_append,m,f];omega
    refine fin _ w.heap.size 0 (grownCap w (g.length+1) c 68) _ (0,0) ⟨by show _<=(w.heap.push _).size;rw[Array.size_push];omega,rfl,rfl,λx hx _=>Af w _ hx⟩ (.inr (Nat.le_refl _)) (Al w _) hg (by rw[hCs];omega) (λo _ h=>absurd h.2 (Nat.not_lt_zero _)) (Nat.zero_mod _) (by rw[hCs];exact Nat.mul_mod_left _ _) λk I=> ?_
    rw[Nat.zero_add,<-Array.getElem?_toList,Array.toList_append,List.getElem?_append_left (by simp only[List.length_append,m,f];omega)];by_cases H:k<g.length*2
    ·rw[if_pos H,List.getElem?_append_left (by omega)]
    ·rw[if_neg H,if_pos (by omega),List.getElem?_append_right (by omega),m]
  ·have hlt':n<g.length:=by omega
   by_cases B:g.length+1<=c
   ·
    refine(Wa b o g.length c n O Y vc t y w hlt' B (by omega) hvbne m f hcc (λj Z=>T _ (by omega)) (λj Z=>hfrz _ (by omega)) p hc1 R ve 68 VC.size C.size hshv (by omega) hshb (by omega) hfe).mono ?_;rintro ev w' ⟨rfl,q,rfl⟩;have W:(t.drop (n*2)).length=(g.length-n)*2:=by rw[List.length_drop,m];omega
    have hrowq:(w.drewN q).heap[b]?=some (.cells C 68 fr):=r;rw[Aw b 68 fr _ (o+(n+1)*2) C (w.drewN q) hrowq,Aw b 68 fr y (o+n*2) (BQ C (o+(n+1)*2) (t.drop (n*2))) _ (Array.getElem?_setIfInBounds_self_of_lt hb)];refine fin _ b o c (BQ (BQ C (o+(n+1)*2) (t.drop (n*2))) (o+n*2) y) fr ⟨by show _<=((w.heap.setIfInBounds _ _).setIfInBounds _ _).size;rw[Array.size_setIfInBounds,Array.size_setIfInBounds];exact Nat.le_refl _,rfl,rfl,λx _ hne=>(Array.getElem?_setIfInBounds_ne (Ne.symm hne)).trans (Array.getElem?_setIfInBounds_ne (Ne.symm hne))⟩ (.inl rfl) (Array.getElem?_setIfInBounds_self_of_lt (by rw[Array.size_setIfInBounds];exact hb)) B (by rw[AJ,AJ];exact L) (by rw[AJ,AJ];exact hfr) F.1 (by rw[AJ,AJ];exact F.2) λk I=> ?_
    rw[gs _ _ _ _ (by rw[AJ,f];omega),gs _ _ _ _ (by rw[W];omega),f,W];by_cases H:k<n*2
    ·rw[if_neg (by omega),if_neg (by omega),if_pos H,K k (by omega)]
    ·rw[if_neg H];by_cases h2:k<(n+1)*2
     ·rw[if_pos (by omega),if_pos h2];congr 1;omega
     ·rw[if_neg (by omega),if_pos (by omega),if_neg h2,List.getElem?_drop];congr 1;omega
   ·
    refine(aP b o g.length c n O Y vc t y w hlt' hnc (by omega) (by omega) m f hb hvb hcc p hc1 R).mono ?_;rintro ev w' ⟨rfl,rfl⟩;have e2:(#[.string ⟨#[]⟩,.slice none 0 0]:Array Value).size=2:=rfl;have hg:=grownCap_ge w (g.length+1) c 68;obtain⟨G,hG⟩:∃G,G=grownCap w (g.length+1) c 68:=⟨_,rfl⟩
    rw[<-hG] at hg⊢;obtain⟨ROW,X⟩:∃ROW:Array Value,ROW=(t.take (n*2)).toArray++Builtin.zeroCells #[.string ⟨#[]⟩,.slice none 0 0] (g.length+1-n)++Builtin.zeroCells #[.string ⟨#[]⟩,.slice none 0 0] (G-(g.length+1)):=⟨_,rfl⟩
    have hRs:ROW.size=G*2:=by
     rw[X,Array.size_append,Array.size_append,Ac,Ac,e2,List.size_toArray,List.length_take,m];omega
    have W:(t.drop (n*2)).length=(g.length-n)*2:=by rw[List.length_drop,m];omega
    rw[<-X];have r1:((w.alloc (.cells ROW 68)).drew).heap[w.heap.size]?=some (.cells ROW 68 (0,0)):=Al w _;have hsz:w.heap.size<(w.heap.push (.cells ROW 68)).size:=by rw[Array.size_push];omega
    rw[Aw w.heap.size 68 (0,0) y (n*2) ROW _ r1];rw[Aw w.heap.size 68 (0,0) (t.drop (n*2)) ((n+1)*2) (BQ ROW (n*2) y) _ (Array.getElem?_setIfInBounds_self_of_lt hsz)];refine fin _ w.heap.size 0 G (BQ (BQ ROW (n*2) y) ((n+1)*2) (t.drop (n*2))) (0,0) ⟨by show _<=(((w.heap.push _).setIfInBounds _ _).setIfInBounds _ _).size;rw[Array.size_setIfInBounds,Array.size_setIfInBounds,Array.size_push];omega,rfl,rfl,λx hx _=>(Array.getElem?_setIfInBounds_ne (by omega)).trans ((Array.getElem?_setIfInBounds_ne (by omega)).trans (Af w _ hx))⟩ (.inr (Nat.le_refl _)) (Array.getElem?_setIfInBounds_self_of_lt (by show _<((w.heap.push _).setIfInBounds _ _).size;rw[Array.size_setIfInBounds];exact hsz)) hg (by rw[AJ,AJ,hRs];omega) (λo _ h=>absurd h.2 (Nat.not_lt_zero _)) (Nat.zero_mod _) (by rw[AJ,AJ,hRs];exact Nat.mul_mod_left _ _) λk I=> ?_
    rw[Nat.zero_add,gs _ _ _ _ (by rw[AJ,hRs,W];omega),gs _ _ _ _ (by rw[hRs,f];omega),f,W];by_cases H:k<n*2
    ·rw[if_neg (by omega),if_neg (by omega),if_pos H,X,<-Array.getElem?_toList,Array.toList_append,Array.toList_append,List.append_assoc,List.getElem?_append_left (by rw[List.length_take,m];omega),List.getElem?_take,if_pos H]
    ·rw[if_neg H];by_cases h2:k<(n+1)*2
     ·rw[if_neg (by omega),if_pos (by omega),if_pos h2]
     ·rw[if_pos (by omega),if_neg h2,List.getElem?_drop];congr 1;omega
theorem qS:OC 110 fG:=H2 λfz w own args y c f g b e d a=>by
 obtain⟨h,i,vs,⟨⟩⟩:=y;simp only[Bool.and_eq_true,decide_eq_true_eq] at a;exact fH h i vs c b d a.1 a.2.1 a.2.2.1 a.2.2.2
end Go.Proofs.YtkgejlchafionaaGreatDoor
namespace Nice
abbrev UN:OSpec:=R9 [.d (.slice AB)] AB 68 (λy=>decide (y.1.length<=1000000)) (λy=>y.1)
abbrev vW:OSpec:=⟨false,0,.unit,0,[.d (.slice AB)],[.vec AB 68],λ_ _=>true,λx y=>(x,y.1,())⟩
end Nice
namespace Go.Proofs.YtkgejlchafionaaGreatDoor
open Tryz
open Nice Go.RowKit
def vX (x:Unit) (y:Bz [.d (.slice AB)]):Option (Unit×Bz [.vec AB 68]):=mr prog (Dc [] []) (AC []) f109 vW x y
theorem vY (l:List (AB).Den):vX () (l,())=gd [decide ((2*(0+l.length)+400)*40<=281474976710656),decide (0<l.length)] (some ((),l,())):=by kernel_rfl
theorem aZ:OC 109 ⟨false,0,.unit,0,[.d (.slice AB)],[.vec AB 68],λ_ y=>decide (0<y.1.length)&&decide (y.1.length<=1000000),λx y=>(x,y.1,())⟩:=
 (rS (S:=vW) (sh:=AC []) (BN (l:=[]) (o:=[]) trivial trivial) AM func109 (by kernel_rfl) (by decide)).nice λ() ⟨l,()⟩ h=>by
  have h:(decide (0<l.length)&&decide (l.length<=1000000))=true:=h;rw[Bool.and_eq_true,decide_eq_true_eq,decide_eq_true_eq] at h;refine(vY l).trans ?_;rw[AP (by omega),AP h.1,xG]
theorem fI (q:Option Addr) (c:Nat) (w:World):Calls prog 109 #[.slice q 0 c] w λe w'=>(∃l,e=.returned (.slice l 0 0))/\Bx w w':=by
 have mixed:Tryz.prog.follows .mixedOrders=true:=by kernel_rfl
 have tS:Tryz.prog.underlying 24=some (.slice 68):=underlying24;have m:∀(w:World) (a:Option Addr) (n c g h:Nat),(binOp .eql 24 (.slice a n c) (.slice none g h)).run prog w=.ok (.bool a.isNone) w:=λw a n c g h=>Lib.run_eql_slice_nil w _ _ a n c g h tS
 obtain⟨i0,i,k⟩:∃i0:TypeInfo,Tryz.prog.info? 68=some i0/\i0.size=2:=⟨Tryz.t68,by kernel_rfl,by kernel_rfl⟩
 go_enter func109,ntmps109
 cases q with
 |none=>
  go_wp2
  go_ret
  exact⟨⟨_,rfl⟩,Nat.le_refl _,rfl,rfl,λ_ _=>rfl⟩
 |some a=>
  have d:∀(W:World) (b ty:Nat),(Builtin.append_ #[24,24] ty #[.slice (some ⟨b,0,none⟩) 0 0,.slice (some a) 0 c]).run prog W=.ok (.slice (some ⟨b,0,none⟩) 0 0) W:=λW b ty=>by
   have o:Src prog i0.size 24 (.slice (some a) 0 c) 0 [] W:=Src.ofSlice W tS a 0 c [] (by rw[k];rfl) (λj u f=>by cases f) (λu p=>by cases p);exact run_append_room_src (P:=prog) (w:=W) 24 24 ty 68 i0 tS i b 0 0 0 _ 0 [] o (Nat.le_refl _) (λj f=>absurd f (Nat.not_lt_zero _)) (λj f=>absurd f (Nat.not_lt_zero _))
  go_wp2_with (at_builtin;refine Lib.wpList_append_run _ rfl _ _ _ _ rfl _ _ rfl rfl _ _ (d _ _ _) ?_)
  go_ret
  exact⟨⟨_,rfl⟩,by show _<=(w.heap.push _).size;rw[Array.size_push];omega,rfl,rfl,λb r=>Af w _ r⟩
theorem fJ:OC 109 UN:=by
 intro fz w r u z args x y p A B i j k n s a;obtain⟨l,⟨⟩⟩:=y;have a:l.length<=1000000:=of_decide_eq_true a;cases l with
 |cons m l=>
  exact aZ fz w r u z args x (m::l,()) p A B i j k n s (by show(decide (0<(m::l).length)&&decide ((m::l).length<=1000000))=true;rw[decide_eq_true (by simp),decide_eq_true a];rfl)
 |nil=>
  have h:=H2 (P:=prog) (gl:=FP) (f:=109) (ts:=[.d (.slice AB)]) (t:=AB) (e:=68) (pre:=λy=>decide (y.1.length=0)) (g:=λy=>y.1) λfz w own args y p A B i j s a=>by
   obtain⟨l,⟨⟩⟩:=y;have E:l=[]:=List.length_eq_zero_iff.1 (of_decide_eq_true a);subst E;obtain⟨v,D,rfl,F,G⟩:=H3 p s;obtain⟨rfl,rfl⟩:=FG F;have key:∀q c,v=.slice q 0 c->Calls prog 109 #[v] w λev w'=>∃v,ev=.returned v/\H1 prog fz w [] AB 68 [] v w':=λq c e=>by
    subst e;refine(fI q c w).mono ?_;rintro e w' ⟨⟨H,rfl⟩,I,J,K,L⟩;exact⟨_,rfl,⟨I,J,K,λb M _=>L b M⟩,.inl ⟨rfl,H,rfl⟩⟩
   rcases G with⟨⟨q,c,e⟩, -⟩|⟨b,o,c,C,e,fr,N, -⟩
   ·exact key q c e
   ·exact key _ c N
  exact h fz w r u z args x ([],()) p A B i j k n s rfl
end Go.Proofs.YtkgejlchafionaaGreatDoor
namespace Nice
abbrev fK:OSpec:=R9 [.vec AB 68,.d IT,.d IT] AB 68 (λy=>decide (0<=y.2.1)&&(decide (y.2.1.toNat<y.1.length)&&(decide (y.2.2.1=y.2.1+1)&&decide (y.1.length<=1000000)))) (λy=>y.1.take y.2.1.toNat++y.1.drop (y.2.1.toNat+1))
end Nice
namespace Go.Proofs.YtkgejlchafionaaGreatDoor
open Tryz
open Nice
theorem fL {fz:Nat->Option (Array Value)} {w:World} {own:List Nat} {args:List Value} (a:List (AB).Den) (i j:Int) (_:Bs fz w) (R:∀b,b∈own->fz b=none)
  (F:OX prog w fz [.vec AB 68,.d IT,.d IT] (a,i,j,()) args own) (hi0:0<=i) (p:i.toNat<a.length) (G:j=i+1) (hbig:a.length<=1000000):
  Calls prog 155 args.toArray w λev w'=>∃v,ev=.returned v/\H1 prog fz w own AB 68 (a.take i.toNat++a.drop (i.toNat+1)) v w':=by
 have r:∀i,Tryz.prog.info? 68=some i->i.size=2:=λi Q=>by
  have h:Tryz.prog.info? 68=some Tryz.t68:=by kernel_rfl
  rw[h] at Q;cases Q;rfl
 obtain⟨n,rfl⟩:∃n:Nat,i=(n:Int):=⟨i.toNat,by omega⟩
 subst G;have p:n<a.length:=p;obtain⟨v,rest,o1,o2,rfl,rfl,H,S⟩:=KC F;obtain⟨T,rfl,I⟩:=IQ H;obtain⟨U,rfl,J⟩:=IQ I;obtain⟨rfl,rfl⟩:=FG J;clear F H I J;rcases S with⟨h, -⟩|⟨b,o,c,C,fr,rfl,rfl,A,g,s,K,L,f⟩
 ·have h:a=[]:=h;rw[h] at p;simp at p
 have A:a.length<=c:=A;have g:w.heap[b]?=some (.cells C 68 fr):=g;have s:o+c*2<=C.size:=s;have M:∀o,o<C.size->¬(fr.1<=o/\o<fr.2):=λo h=>K o (Nat.lt_add_right _ h)
 have hb:=Ap g;obtain⟨l,B⟩:∃l,l=(C.toList.drop o).take (a.length*2):=⟨_,rfl⟩
 have V:C.toList.length=C.size:=Array.length_toList;have m:l.length=a.length*2:=by rw[B,List.length_take,List.length_drop,V];omega
 have f:Co fz AB a (C.toList.drop o):=f;have f:Co fz AB a l:=by
  refine Co.congr f (by show a.length*2<=_;rw[m];exact Nat.le_refl _) λk D=> ?_
  have D:k<a.length*2:=D;rw[B,List.getElem?_take,if_pos D]
 have t:∀(j:Nat),j<a.length*2->l[j]?=C[o+j]?:=λj G=>by
  rw[B,List.getElem?_take,if_pos G,List.getElem?_drop,Array.getElem?_toList]
 have W:∀j u,l[j]?=some u->w.cell? ⟨b,o+j,none⟩=some u:=λj u X=>by
  have G:=EL X;rw[t j (by omega)] at X;simp only[World.cell?,g,Option.isSome_none,Bool.false_eq_true,if_false];exact X
 have Y:∀v∈l,v.oneCell'=true:=λv S=>GW (GH f (by rw[m];rfl) v S)
 have N:∀j,j<a.length*2->w.frozen? ⟨b,o+j,none⟩=false:=λj G=>by
  have:=M (o+j) (by omega);simp only[World.frozen?,g];simpa using this
 have hall:Co fz AB (a.take n++a.drop (n+1)) (l.take (n*2)++l.drop ((n+1)*2)):=
  Co.app (Co.take f n (by omega) (by rw[m];exact Nat.le_refl _)) (by rw[List.length_take,List.length_take,m,Nat.min_eq_left (show n<=a.length by omega)];show min (n*2) (a.length*2)=n*2;omega) (Co.drop f (n+1))
 have y:(a.take n++a.drop (n+1)).length=a.length-1:=by rw[List.length_append,List.length_take,List.length_drop];omega
 have z:o%2=0/\C.size%2=0:=by
  have h:Tryz.prog.info? 68=some Tryz.t68:=by kernel_rfl
  have:=L _ h;rw[r _ h] at this;exact this.2
 refine(eF b o a.length c n l w m Y W N A p (by omega)).mono ?_;rintro ev w' ⟨rfl,q,rfl⟩;have O:(l.drop ((n+1)*2)).length=(a.length-(n+1))*2:=by rw[List.length_drop,m];omega
 have Z:(Builtin.zeroCells #[.string ⟨#[]⟩,.slice none 0 0] 1).toList.length=2:=by rw[Array.length_toList,Ac];rfl
 have E:(w.drewN q).heap[b]?=some (.cells C 68 fr):=g;rw[Aw b 68 fr _ (o+n*2) C (w.drewN q) E,Aw b 68 fr _ (o+(a.length-1)*2) (BQ C (o+n*2) (l.drop ((n+1)*2))) _ (Array.getElem?_setIfInBounds_self_of_lt hb)];refine⟨_,rfl,⟨by show _<=((w.heap.setIfInBounds _ _).setIfInBounds _ _).size;rw[Array.size_setIfInBounds,Array.size_setIfInBounds];exact Nat.le_refl _,rfl,rfl,λx _ hm=>(Array.getElem?_setIfInBounds_ne (λe=>hm (by subst e;simp))).trans (Array.getElem?_setIfInBounds_ne (λe=>hm (by subst e;simp)))⟩,.inr ⟨b,o,_,c,BQ (BQ C (o+n*2) (l.drop ((n+1)*2))) (o+(a.length-1)*2) (Builtin.zeroCells #[.string ⟨#[]⟩,.slice none 0 0] 1).toList,fr,rfl,.inl (by simp),Array.getElem?_setIfInBounds_self_of_lt (by rw[Array.size_setIfInBounds];exact hb),y.symm,by omega,by rw[AJ,AJ];exact s,by rw[AJ,AJ];exact K,λi Q=> ?_,?_⟩⟩
 ·rw[r i Q,AJ,AJ];exact⟨rfl,z.1,z.2⟩
 ·refine hall.congr ?_ λk D=> ?_
  ·rw[y];show(a.length-1)*2<=_;have P:(BQ (BQ C (o+n*2) (l.drop ((n+1)*2))) (o+(a.length-1)*2) (Builtin.zeroCells #[.string ⟨#[]⟩,.slice none 0 0] 1).toList).toList.length=C.size:=by rw[Array.length_toList,AJ,AJ]
   rw[List.length_drop,P];omega
  ·rw[y] at D;have D:k<(a.length-1)*2:=D;have l1:(l.take (n*2)).length=n*2:=by rw[List.length_take,m];omega
   rw[List.getElem?_drop,Array.getElem?_toList,Bo _ _ _ _ (by rw[AJ,Z];omega),if_neg (by omega),Bo _ _ _ _ (by rw[O];omega),O];by_cases h1:k<n*2
   ·rw[if_neg (by omega),List.getElem?_append_left (by omega),List.getElem?_take,if_pos h1,t k (by omega)]
   ·rw[if_pos (by omega),List.getElem?_append_right (by omega),l1];congr 1;omega
theorem qT:OC 155 fK:=H2 λfz w own args y c f g b e d a=>by
 obtain⟨h,i,j,⟨⟩⟩:=y;simp only[Bool.and_eq_true,decide_eq_true_eq] at a;exact fL h i j c b d a.1 a.2.1 a.2.2.1 a.2.2.2
end Go.Proofs.YtkgejlchafionaaGreatDoor
namespace Nice
abbrev vZ:Ty:=.clo 72 (.pair (.ref IT) (.pair (.ref IT) .unit))
abbrev fM:OSpec:=R9 [.vec Ab 75,.d vZ] Ab 75 (λy=>decide (0<=y.2.1.2.1)&&(decide (y.2.1.2.1<=5)&&decide (y.1.length<=1000000))) (λy=>y.1.filter λm=> !Ls y.2.1.1 y.2.1.2.1 m)
def gz (m:AU):M3:=(m.1,m.2.1.1,m.2.1.2.1)
theorem Wt {fz:Nat->Option (Array Value)} {m:AU} {f:List Value} (h:Bj fz Ab m f):f=OS (gz m):=by
 obtain⟨c1,c2,rfl,a,c3,c4,rfl,⟨g,k,rfl,b,i,j,rfl,c,d⟩,e⟩:=h;have a:c1=[.int .i64 m.1]:=a;have b:g=[.int .i64 m.2.1.1]:=b;have c:i=[.int .i64 m.2.1.2.1]:=c;have d:j=[]:=d;have e:c4=[]:=e;rw[a,b,c,d,e];rfl
theorem kO (fz:Nat->Option (Array Value)) (m:AU):Bj fz Ab m (OS (gz m)):=
 ⟨[.int .i64 m.1],[.int .i64 m.2.1.1,.int .i64 m.2.1.2.1],rfl,rfl,[.int .i64 m.2.1.1,.int .i64 m.2.1.2.1],[],rfl,⟨[.int .i64 m.2.1.1],[.int .i64 m.2.1.2.1],rfl,rfl,[.int .i64 m.2.1.2.1],[],rfl,rfl,rfl⟩,rfl⟩
theorem UO {fz:Nat->Option (Array Value)} {w:World} (j:Bs fz w) {x:Int} {v:Value} (h:Bj fz (.ref IT) x [v]):∃(b o:Nat) (c:Array Value),v=.pointer (some ⟨b,o,none⟩)/\fz b=some c/\b<w.heap.size/\c[o]?=some (.int .i64 x)/\w.cell? ⟨b,o,none⟩=some (.int .i64 x):=by
 obtain⟨b,o,a,k,e,l,d⟩:=h;obtain⟨n,fr,f⟩:=j b a e;have g:o<a.size:=l;have m:(a.toList.drop o).take IT.sz=[a[o]]:=by
  show(a.toList.drop o).take 1=[a[o]];rw[List.drop_eq_getElem_cons (by simpa using g),List.take_succ_cons,List.take_zero];simp
 rw[m] at d;have d:[a[o]]=[.int .i64 x]:=d;have i:a[o]?=some (.int .i64 x):=by rw[Array.getElem?_eq_getElem g,(List.cons.inj d).1]
 exact⟨b,o,a,(List.cons.inj k).1,e,Ap f,i,by simp only[World.cell?,f,Option.isSome_none,Bool.false_eq_true,if_false];exact i⟩
end Nice
namespace Go.Proofs.YtkgejlchafionaaGreatDoor
open Tryz
open Nice
open Go.Shelf in
theorem fP (a:Option Addr) (c:Nat) (fv:Value) (w:World):Calls prog 113 #[.slice a 0 c,fv] w λe w'=>e=.returned (.int .i64 (-1))/\w'=w:=by
 have mixed:Tryz.prog.follows .mixedOrders=true:=by kernel_rfl
 go_enter func113,ntmps113
 go_wp2
 go_loopg [5,8] 0 (λ_ _ b wr=>b=.int .i64 0/\wr=w)
 case atStart=>exact⟨rfl,rfl⟩
 case round=>
  obtain⟨rfl,rfl⟩:=hrel
  go_wp2
  go_ret
  exact⟨rfl,rfl⟩
open Go.Shelf in
theorem fQ (a:Option Addr) (c:Nat) (fv:Value) (w:World):Calls prog 71 #[.slice a 0 c,fv] w λe w'=>e=.returned (.slice a 0 c)/\w'=w:=by
 have mixed:Tryz.prog.follows .mixedOrders=true:=by kernel_rfl
 have b:∀args w,(callFunc 113 args).run prog w=.ok (.enter 113 args) w:=enters_of func113 (by kernel_rfl) rfl
 go_enter func71,ntmps71
 go_wp2_with (go_at_fn 113;refine(fP _ _ _ _).mono ?_;rintro e w' ⟨rfl,rfl⟩)
 go_ret
 exact⟨rfl,rfl⟩
theorem fR {fz:Nat->Option (Array Value)} {w:World} {own:List Nat} {args:List Value} (f:List AU) (low a:Int) (I:Bs fz w) (E:∀b,b∈own->fz b=none)
  (U:OX prog w fz [.vec Ab 75,.d vZ] (f,(low,a,()),()) args own) (h0:0<=a) (h5:a<=5) (J:f.length<=1000000):
  Calls prog 71 args.toArray w λev w'=>∃v,ev=.returned v/\H1 prog fz w own Ab 75 (f.filter λm=> !Ls low a m) v w':=by
 have g:∀i,Tryz.prog.info? 75=some i->i.size=3:=λi S=>by
  have h:Tryz.prog.info? 75=some Tryz.t75:=by kernel_rfl
  rw[h] at S;cases S;rfl
 obtain⟨v,rest,o1,o2,rfl,rfl,V,hv⟩:=KC U;obtain⟨v2,X,p1,p2,rfl,rfl,hc,Y⟩:=V;obtain⟨rfl,rfl⟩:=FG Y;rcases hc with⟨h, -⟩|⟨-,rfl,us,K,c1,c2,rfl,L,c3,c4,rfl,M,F⟩
 ·cases h
 have F:c4=[]:=F;subst F;have K:=(List.cons.inj K).1;have one:∀(x:Int) (c:List Value),Bj fz (.ref IT) x c->∃v,c=[v]:=λx c h=>by
  obtain⟨b,o,arr,e, -⟩:=h;exact⟨_,e⟩
 obtain⟨u1,rfl⟩:=one _ _ L;obtain⟨u2,rfl⟩:=one _ _ M;obtain⟨B1,N,A1,rfl,f1,l1,g1,Z⟩:=UO I L;obtain⟨B2,O,A2,rfl,f2,l2,g2,k2⟩:=UO I M;have K:v2=.func (.func 72) #[] #[.pointer (some ⟨B1,N,none⟩),.pointer (some ⟨B2,O,none⟩)]:=K;subst K;let p:M3->Bool:=λx=>Ls low a (x.1,(x.2.1,x.2.2,()),())
 have hp:∀m:AU,p (gz m)=Ls low a m:=λm=>rfl
 have A:((f.map gz).filter λx=> !p x)=(f.filter λm=> !Ls low a m).map gz:=by
  rw[List.filter_map];rfl
 have ht:∀b,fz b=none->Yf w b #[.pointer (some ⟨B1,N,none⟩),.pointer (some ⟨B2,O,none⟩)] p:=λb hb W m H ho=>by
  have n1:B1≠b:=λe=>by rw[e,hb] at f1;cases f1
  have n2:B2≠b:=λe=>by rw[e,hb] at f2;cases f2
  have Z:W.cell? ⟨B1,N,none⟩=some (.int .i64 low):=by
   have:=Z;simp only[World.cell?,ho B1 l1 n1] at this⊢;exact this
  have k2:W.cell? ⟨B2,O,none⟩=some (.int .i64 a):=by
   have:=k2;simp only[World.cell?,ho B2 l2 n2] at this⊢;exact this
  exact sx (m.1,(m.2.1,m.2.2,()),()) low a h0 h5 B1 N B2 O W (by omega) (by omega) Z k2
 rcases hv with⟨u,rfl,q,rfl⟩|⟨b,o,c,C,fr,rfl,rfl,G,j,l,P,Q,n⟩
 ·have u:f=[]:=u;subst u;refine(fQ q 0 _ w).mono ?_;rintro e w' ⟨rfl,rfl⟩;exact⟨_,rfl,⟨Nat.le_refl _,rfl,rfl,λ_ _ _=>rfl⟩,.inl ⟨rfl,q,rfl⟩⟩
 ·have G:f.length<=c:=G;have j:w.heap[b]?=some (.cells C 75 fr):=j;have l:o+c*3<=C.size:=l;have n:Co fz Ab f (C.toList.drop o):=n;have y:(f.map gz).length=f.length:=List.length_map ..;have hcs:∀t s,s<3->∀m,(f.map gz)[t]?=some m->C[o+t*3+s]?=(OS m)[s]?:=λt s H m T=>by
   rw[List.getElem?_map,Option.map_eq_some_iff] at T;obtain⟨x,u,rfl⟩:=T;obtain⟨h1,h2⟩:=n t x u;rw[<-Wt h2,List.getElem?_take,if_pos (show s<Ab.sz from H),List.getElem?_drop,List.getElem?_drop,Array.getElem?_toList];congr 1;show o+t*3+s=o+(t*3+s);omega
  have B:=ABc b o c #[.pointer (some ⟨B1,N,none⟩),.pointer (some ⟨B2,O,none⟩)] p (f.map gz) w C fr (ht b (E b (by simp))) j (λo h=>P o (Nat.lt_add_right _ h)) (by rw[y];exact J) (by rw[y];exact G) (by rw[y];omega) hcs;rw[y] at B;refine B.mono ?_;rintro ev w' ⟨C',rfl,R,z,D⟩
  rw[A] at D;rw[A,List.length_map];have r:o%3=0/\C.size%3=0:=by
   have h:Tryz.prog.info? 75=some Tryz.t75:=by kernel_rfl
   have:=Q _ h;rw[g _ h] at this;exact this.2
  have hfl:(f.filter λm=> !Ls low a m).length<=f.length:=List.length_filter_le _ _;refine⟨_,rfl,⟨R.size,R.os,R.out,λx u T=>R.old x u λe=>T (by subst e;simp)⟩,.inr ⟨b,o,_,c,C',fr,rfl,.inl (by simp),R.row,rfl,by omega,by rw[z];exact l,by rw[z];exact P,λi S=> ?_,λk x u=> ?_⟩⟩
  ·rw[g i S,z];exact⟨rfl,r.1,r.2⟩
  ·have hk:k+1<=f.length:=Nat.le_trans (EL u) hfl;have hCl:C'.toList.length=C'.size:=Array.length_toList;refine⟨by show k*3+3<=_;rw[List.length_drop,hCl,z];omega,?_⟩;have e:((C'.toList.drop o).drop (k*3)).take 3=OS (gz x):=by
    apply List.ext_getElem?;intro s;by_cases H:s<3
    ·rw[List.getElem?_take,if_pos H,List.getElem?_drop,List.getElem?_drop,Array.getElem?_toList,<-D k s H (gz x) (by rw[List.getElem?_map,u];rfl)];congr 1;omega
    ·rw[List.getElem?_take,if_neg H,List.getElem?_eq_none (by show 3<=s;omega)]
   show Bj fz Ab x (((C'.toList.drop o).drop (k*3)).take 3);rw[e];exact kO fz x
theorem qU:OC 71 fM:=H2 λfz w own args y d g h b f e a=>by
 obtain⟨i,⟨low,c,⟨⟩⟩,⟨⟩⟩:=y;simp only[Bool.and_eq_true,decide_eq_true_eq] at a;exact fR i low c d b e a.1 a.2.1 a.2.2
end Go.Proofs.YtkgejlchafionaaGreatDoor
namespace Nice
abbrev fS:OSpec:=R9 [.d (.slice Ab)] Ab 75 (λy=>decide (y.1.length<=1000000)) (λy=>y.1)
abbrev va:OSpec:=⟨false,0,.unit,0,[.d (.slice Ab)],[.vec Ab 75],λ_ _=>true,λx y=>(x,y.1,())⟩
end Nice
namespace Go.Proofs.YtkgejlchafionaaGreatDoor
open Tryz
open Nice Go.RowKit
def vb (x:Unit) (y:Bz [.d (.slice Ab)]):Option (Unit×Bz [.vec Ab 75]):=mr prog (Dc [] []) (AC []) f70 va x y
theorem vd (l:List (Ab).Den):vb () (l,())=gd [decide ((2*(0+l.length)+400)*24<=281474976710656),decide (0<l.length)] (some ((),l,())):=by kernel_rfl
theorem aa:OC 70 ⟨false,0,.unit,0,[.d (.slice Ab)],[.vec Ab 75],λ_ y=>decide (0<y.1.length)&&decide (y.1.length<=1000000),λx y=>(x,y.1,())⟩:=
 (rS (S:=va) (sh:=AC []) (BN (l:=[]) (o:=[]) trivial trivial) AM func70 (by kernel_rfl) (by decide)).nice λ() ⟨l,()⟩ h=>by
  have h:(decide (0<l.length)&&decide (l.length<=1000000))=true:=h;rw[Bool.and_eq_true,decide_eq_true_eq,decide_eq_true_eq] at h;refine(vd l).trans ?_;rw[AP (by omega),AP h.1,xG]
theorem fT (q:Option Addr) (c:Nat) (w:World):Calls prog 70 #[.slice q 0 c] w λe w'=>(∃l,e=.returned (.slice l 0 0))/\Bx w w':=by
 have mixed:Tryz.prog.follows .mixedOrders=true:=by kernel_rfl
 have tS:Tryz.prog.underlying 25=some (.slice 75):=underlying25;have m:∀(w:World) (a:Option Addr) (n c g h:Nat),(binOp .eql 25 (.slice a n c) (.slice none g h)).run prog w=.ok (.bool a.isNone) w:=λw a n c g h=>Lib.run_eql_slice_nil w _ _ a n c g h tS
 obtain⟨i0,i,k⟩:∃i0:TypeInfo,Tryz.prog.info? 75=some i0/\i0.size=3:=⟨Tryz.t75,by kernel_rfl,by kernel_rfl⟩
 go_enter func70,ntmps70
 cases q with
 |none=>
  go_wp2
  go_ret
  exact⟨⟨_,rfl⟩,Nat.le_refl _,rfl,rfl,λ_ _=>rfl⟩
 |some a=>
  have d:∀(W:World) (b ty:Nat),(Builtin.append_ #[25,25] ty #[.slice (some ⟨b,0,none⟩) 0 0,.slice (some a) 0 c]).run prog W=.ok (.slice (some ⟨b,0,none⟩) 0 0) W:=λW b ty=>by
   have o:Src prog i0.size 25 (.slice (some a) 0 c) 0 [] W:=Src.ofSlice W tS a 0 c [] (by rw[k];rfl) (λj u f=>by cases f) (λu p=>by cases p);exact run_append_room_src (P:=prog) (w:=W) 25 25 ty 75 i0 tS i b 0 0 0 _ 0 [] o (Nat.le_refl _) (λj f=>absurd f (Nat.not_lt_zero _)) (λj f=>absurd f (Nat.not_lt_zero _))
  go_wp2_with (at_builtin;refine Lib.wpList_append_run _ rfl _ _ _ _ rfl _ _ rfl rfl _ _ (d _ _ _) ?_)
  go_ret
  exact⟨⟨_,rfl⟩,by show _<=(w.heap.push _).size;rw[Array.size_push];omega,rfl,rfl,λb r=>Af w _ r⟩
theorem qV:OC 70 fS:=by
 intro fz w r u z args x y p A B i j k n s a;obtain⟨l,⟨⟩⟩:=y;have a:l.length<=1000000:=of_decide_eq_true a;cases l with
 |cons m l=>
  exact aa fz w r u z args x (m::l,()) p A B i j k n s (by show(decide (0<(m::l).length)&&decide ((m::l).length<=1000000))=true;rw[decide_eq_true (by simp),decide_eq_true a];rfl)
 |nil=>
  have h:=H2 (P:=prog) (gl:=FP) (f:=70) (ts:=[.d (.slice Ab)]) (t:=Ab) (e:=75) (pre:=λy=>decide (y.1.length=0)) (g:=λy=>y.1) λfz w own args y p A B i j s a=>by
   obtain⟨l,⟨⟩⟩:=y;have E:l=[]:=List.length_eq_zero_iff.1 (of_decide_eq_true a);subst E;obtain⟨v,D,rfl,F,G⟩:=H3 p s;obtain⟨rfl,rfl⟩:=FG F;have key:∀q c,v=.slice q 0 c->Calls prog 70 #[v] w λev w'=>∃v,ev=.returned v/\H1 prog fz w [] Ab 75 [] v w':=λq c e=>by
    subst e;refine(fT q c w).mono ?_;rintro e w' ⟨⟨H,rfl⟩,I,J,K,L⟩;exact⟨_,rfl,⟨I,J,K,λb M _=>L b M⟩,.inl ⟨rfl,H,rfl⟩⟩
   rcases G with⟨⟨q,c,e⟩, -⟩|⟨b,o,c,C,e,fr,N, -⟩
   ·exact key q c e
   ·exact key _ c N
  exact h fz w r u z args x ([],()) p A B i j k n s rfl
end Go.Proofs.YtkgejlchafionaaGreatDoor
namespace Nice
abbrev fU:OSpec:=R9 [.vec Ab 75,.d IT,.d (.slice Ab)] Ab 75 (λy=>decide (0<=y.2.1)&&(decide (y.2.1.toNat<=y.1.length)&&(decide (y.2.2.1.length=1)&&decide (y.1.length<=1000000)))) (λy=>y.1.take y.2.1.toNat++(y.2.2.1++y.1.drop y.2.1.toNat))
end Nice
namespace Go.Proofs.YtkgejlchafionaaGreatDoor
open Tryz
open Nice
theorem ABe {fz:Nat->Option (Array Value)} {w:World} {own:List Nat} {args:List Value} (g:List (Ab).Den) (i:Int) (vs:List (Ab).Den) (hfz:Bs fz w) (hnone:∀b,b∈own->fz b=none)
  (hrd:OX prog w fz [.vec Ab 75,.d IT,.d (.slice Ab)] (g,i,vs,()) args own) (hi0:0<=i) (N:i.toNat<=g.length) (s:vs.length=1) (hbig:g.length<=1000000):
  Calls prog 69 args.toArray w λev w'=>∃v,ev=.returned v/\H1 prog fz w own Ab 75 (g.take i.toNat++(vs++g.drop i.toNat)) v w':=by
 have D:∀i,Tryz.prog.info? 75=some i->i.size=3:=λi hi=>by
  have h:Tryz.prog.info? 75=some Tryz.t75:=by kernel_rfl
  rw[h] at hi;cases hi;rfl
 obtain⟨n,rfl⟩:∃n:Nat,i=(n:Int):=⟨i.toNat,by omega⟩
 have N:n<=g.length:=N;obtain⟨v,rest,o1,o2,rfl,rfl,hr2,hv⟩:=KC hrd;obtain⟨rest2,rfl,hr3⟩:=IQ hr2;obtain⟨v3,rest3,rfl,hr4,hv3⟩:=H3 hfz hr3;obtain⟨rfl,rfl⟩:=FG hr4;clear hrd hr2 hr3 hr4;have hlt:∀b c,fz b=some c->b<w.heap.size:=λb c hb=>by obtain⟨_,_,h⟩:=hfz b c hb;exact Ap h
 rcases hv3 with⟨-,h⟩|⟨O,Y,vc,VC,ve,vfr,rfl,hvf,E,J,hvc,P⟩
 ·have h:vs=[]:=h;rw[h] at s;simp at s
 have E:w.heap[O]?=some (.cells VC ve vfr):=E;have P:Co fz Ab vs (VC.toList.drop Y):=P;have J:Y+vs.length*3<=VC.size:=J;rw[s] at J;show Calls prog 69 #[v,.int .i64 n,.slice (some ⟨O,Y,none⟩) vs.length vc] w _;rw[s];obtain⟨y,hus⟩:∃y,y=(VC.toList.drop Y).take 3:=⟨_,rfl⟩
 have f:y.length=3:=by rw[hus,List.length_take,List.length_drop,Array.length_toList];omega
 have Q:Co fz Ab vs y:=by
  have:=Co.take P 1 (by rw[s];omega) (by show vs.length*3<=_;rw[s,List.length_drop,Array.length_toList];omega);rw[List.take_of_length_le (by rw[s];omega)] at this;rw[hus];exact this
 have p:∀j u,y[j]?=some u->w.cell? ⟨O,Y+j,none⟩=some u:=λj u M=>by
  rw[hus,List.getElem?_take] at M
  split at M
  ·rw[List.getElem?_drop,Array.getElem?_toList] at M;simp only[World.cell?,E,Option.isSome_none,Bool.false_eq_true,if_false];exact M
  ·cases M
 have R:∀v∈y,v.oneCell'=true:=λv hv=>GW (GH Q (by rw[f,s];rfl) v hv)
 have hvb:=hlt O VC hvf;rcases hv with⟨rfl,rfl,q,rfl⟩|⟨b,o,c,C,fr,rfl,rfl,hnc,r,L,hfr,hdiv,z⟩
 ·
  obtain rfl:n=0:=by have:n<=0:=N;omega
  refine(J7 q 0 0 O Y vc [] y w (Nat.le_refl _) (by omega) (by omega) rfl f (λ_=>rfl) (λa ha j v hv=>by cases hv) p R).mono ?_;rintro ev w' ⟨rfl,rfl⟩;refine⟨_,rfl,⟨?_,rfl,rfl,λb hb _=>Af w _ hb⟩,.inr ⟨w.heap.size,0,_,_,_,(0,0),rfl,.inr (Nat.le_refl _),Al w _,?_,?_,?_,λo _ h=> ?_,λi hi=> ?_,?_⟩⟩
  ·show _<=(w.heap.push _).size;rw[Array.size_push];omega
  ·show 0+1=((([]:List (Ab).Den).take 0)++(vs++([]:List (Ab).Den).drop 0)).length;simp[s]
  ·exact grownCap_ge w _ _ _
  ·have e2:(#[.int .i64 0,.int .i64 0,.int .i64 0]:Array Value).size=3:=rfl;have hg:=grownCap_ge w (0+1) 0 75;show 0+grownCap w (0+1) 0 75*3<=_;rw[Array.size_append,Ac,e2,List.nil_append,List.size_toArray,f];omega
  ·exact absurd h.2 (Nat.not_lt_zero _)
  ·have e2:(#[.int .i64 0,.int .i64 0,.int .i64 0]:Array Value).size=3:=rfl;refine⟨(D i hi).symm,Nat.zero_mod _,?_⟩;rw[D i hi,Array.size_append,Ac,e2,List.nil_append,List.size_toArray,f];omega
  ·show Co fz Ab ([]++(vs++[])) _;rw[List.nil_append,List.append_nil];refine Q.congr ?_ λk I=> ?_
   ·show vs.length*3<=_;simp[s,f]
   ·have I:k<vs.length*3:=I;rw[s] at I;rw[List.drop_zero,Array.toList_append,List.nil_append,List.getElem?_append_left (by simpa using by omega)]
 ·have hnc:g.length<=c:=hnc;have r:w.heap[b]?=some (.cells C 75 fr):=r;have L:o+c*3<=C.size:=L;have hfr0:∀o,o<C.size->¬(fr.1<=o/\o<fr.2):=λo h=>hfr o (Nat.lt_add_right _ h)
  have hb:=Ap r;have hvbne:O≠b:=λe=>by
   have:=hnone b (by simp);rw[<-e,hvf] at this;cases this
  obtain⟨t,hcs⟩:∃t,t=(C.toList.drop o).take (g.length*3):=⟨_,rfl⟩
  have hCl:C.toList.length=C.size:=Array.length_toList;have m:t.length=g.length*3:=by rw[hcs,List.length_take,List.length_drop,hCl];omega
  have z:Co fz Ab g (C.toList.drop o):=z;have z:Co fz Ab g t:=by
   refine Co.congr z (by show g.length*3<=_;rw[m];exact Nat.le_refl _) λk I=> ?_
   have I:k<g.length*3:=I;rw[hcs,List.getElem?_take,if_pos I]
  have K:∀(j:Nat),j<g.length*3->t[j]?=C[o+j]?:=λj Z=>by
   rw[hcs,List.getElem?_take,if_pos Z,List.getElem?_drop,Array.getElem?_toList]
  have S:∀(j:Nat) (u:Value),C[j]?=some u->w.cell? ⟨b,j,none⟩=some u:=λj u M=>by
   simp only[World.cell?,r,Option.isSome_none,Bool.false_eq_true,if_false];exact M
  have hcc:∀j u,t[j]?=some u->w.cell? ⟨b,o+j,none⟩=some u:=λj u M=>by
   have Z:=EL M;rw[K j (by omega)] at M;exact S _ _ M
  have hc1:∀v∈t,v.oneCell'=true:=λv hv=>GW (GH z (by rw[m];rfl) v hv)
  have T:∀j,o+j<C.size->(w.cell? ⟨b,o+j,none⟩).isSome=true:=λj Z=>by
   rw[S _ _ (Array.getElem?_eq_getElem Z)];rfl
  have hfrz:∀j,j<C.size->w.frozen? ⟨b,j,none⟩=false:=λj Z=>by
   have:=hfr0 j Z;simp only[World.frozen?,r];simpa using this
  have hshb:w.shape? b=some (75,C.size):=by simp only[World.shape?,r]
  have hshv:w.shape? O=some (ve,VC.size):=by simp only[World.shape?,E]
  have hfe:w.frozen? ⟨b,C.size,none⟩=false:=by
   have:=hfr C.size (by show C.size<C.size+1;omega);simp only[World.frozen?,r];simpa using this
  have hall:Co fz Ab (g.take n++(vs++g.drop n)) (t.take (n*3)++(y++t.drop (n*3))):=
   Co.app (Co.take z n N (by rw[m];exact Nat.le_refl _)) (by rw[List.length_take,List.length_take,m,Nat.min_eq_left N];show min (n*3) (g.length*3)=n*3;omega) (Co.app Q (by rw[f,s];rfl) (Co.drop z n))
  have U:(g.take n++(vs++g.drop n)).length=g.length+1:=by
   rw[List.length_append,List.length_append,List.length_take,List.length_drop,s];omega
  have V:∀k,(t.take (n*3)++(y++t.drop (n*3)))[k]?=if k<n*3 then t[k]? else if k<(n+1)*3 then y[k-n*3]? else t[k-3]?:=λk=>by
   have l1:(t.take (n*3)).length=n*3:=by rw[List.length_take,m];omega
   by_cases H:k<n*3
   ·rw[if_pos H,List.getElem?_append_left (by omega),List.getElem?_take,if_pos H]
   ·rw[if_neg H,List.getElem?_append_right (by omega),l1];by_cases h2:k<(n+1)*3
    ·rw[if_pos h2,List.getElem?_append_left (by omega)]
    ·rw[if_neg h2,List.getElem?_append_right (by omega),f,List.getElem?_drop];congr 1;omega
  have fin:∀(w':World) (b' o' c':Nat) (C':Array Value) (fr':Nat×Nat),(w.heap.size<=w'.heap.size/\w'.os=w.os/\w'.output=w.output/\∀x,x<w.heap.size->x≠b->w'.heap[x]?=w.heap[x]?)->(b'=b\/w.heap.size<=b')->w'.heap[b']?=some (.cells C' 75 fr')->
    g.length+1<=c'->o'+c'*3<=C'.size->(∀o,o<C'.size+1->¬(fr'.1<=o/\o<fr'.2))->o'%3=0->C'.size%3=0->(∀k,k<(g.length+1)*3->C'[o'+k]?=if k<n*3 then t[k]? else if k<(n+1)*3 then y[k-n*3]? else t[k-3]?)->
    ∃v,Ending.returned (.slice (some ⟨b',o',none⟩) (g.length+1) c')=.returned v/\H1 prog fz w ([b]++[]) Ab 75 (g.take n++(vs++g.drop n)) v w':=λw' b' o' c' C' fr' hs hb' hrow' hc' hfit' hfr' ho' hC' hget=>by
   refine⟨_,rfl,⟨hs.1,hs.2.1,hs.2.2.1,λx hx hm=>hs.2.2.2 x hx λe=>hm (by subst e;simp)⟩,.inr ⟨b',o',_,c',C',fr',rfl,?_,hrow',U.symm,hc',hfit',hfr',λi hi=> ?_,?_⟩⟩
   ·rcases hb' with rfl|h
    ·exact .inl (by simp)
    ·exact .inr h
   ·rw[D i hi];exact⟨rfl,ho',hC'⟩
   ·refine hall.congr ?_ λk I=> ?_
    ·rw[U];show(g.length+1)*3<=_;have hCl':C'.toList.length=C'.size:=Array.length_toList;rw[List.length_drop,hCl'];omega
    ·rw[U] at I;rw[List.getElem?_drop,Array.getElem?_toList,V];exact hget k I
  have F:o%3=0/\C.size%3=0:=by
   have h:Tryz.prog.info? 75=some Tryz.t75:=by kernel_rfl
   have:=hdiv _ h;rw[D _ h] at this;exact this.2
  have gs:∀(o1:Nat) (l:List Value) (A:Array Value) (k:Nat),o1+l.length<=A.size->(BQ A o1 l)[k]?=if o1<=k/\k<o1+l.length then l[k-o1]? else A[k]?:=λo1 l A k I=>Bo _ _ _ _ I
  by_cases hend:n=g.length
  ·subst hend;by_cases B:g.length+1<=c
   ·
    refine(R0 b o g.length c O Y vc y w B f (λj Z=>by rw[Nat.add_assoc];exact T _ (by omega)) (λj Z=>hfrz _ (by omega)) p R).mono ?_;rintro ev w' ⟨rfl,rfl⟩;rw[Aw b 75 fr y (o+g.length*3) C w r];refine fin _ b o c (BQ C (o+g.length*3) y) fr ⟨by show _<=(w.heap.setIfInBounds _ _).size;rw[Array.size_setIfInBounds];exact Nat.le_refl _,rfl,rfl,λx _ hne=>Array.getElem?_setIfInBounds_ne (Ne.symm hne)⟩ (.inl rfl) (Array.getElem?_setIfInBounds_self_of_lt hb) B (by rw[AJ];exact L) (by rw[AJ];exact hfr) F.1 (by rw[AJ];exact F.2) λk I=> ?_
    rw[gs _ _ _ _ (by rw[f];omega),f];by_cases H:k<g.length*3
    ·rw[if_neg (by omega),if_pos H,K k H]
    ·rw[if_pos (by omega),if_neg H,if_pos (by omega)];congr 1;omega
   ·
    refine(J7 (some ⟨b,o,none⟩) g.length c O Y vc t y w hnc (by omega) (by omega) m f (λh=>by cases h) (λa ha j u M=>by cases ha;rw[Addr.add_lit];exact hcc j u M) p R).mono ?_;rintro ev w' ⟨rfl,rfl⟩;have e2:(#[.int .i64 0,.int .i64 0,.int .i64 0]:Array Value).size=3:=rfl
    have hg:=grownCap_ge w (g.length+1) c 75;have hCs:((t++y).toArray++Builtin.zeroCells #[.int .i64 0,.int .i64 0,.int .i64 0] (grownCap w (g.length+1) c 75-(g.length+1))).size=grownCap w (g.length+1) c 75*3:=by
     rw[Array.size_append,Ac,e2,List.size_toArray,List.length_append,m,f];omega
    refine fin _ w.heap.size 0 (grownCap w (g.length+1) c 75) _ (0,0) ⟨by show _<=(w.heap.push _).size;rw[Array.size_push];omega,rfl,rfl,λx hx _=>Af w _ hx⟩ (.inr (Nat.le_refl _)) (Al w _) hg (by rw[hCs];omega) (λo _ h=>absurd h.2 (Nat.not_lt_zero _)) (Nat.zero_mod _) (by rw[hCs];exact Nat.mul_mod_left _ _) λk I=> ?_
    rw[Nat.zero_add,<-Array.getElem?_toList,Array.toList_append,List.getElem?_append_left (by simp only[List.length_append,m,f];omega)];by_cases H:k<g.length*3
    ·rw[if_pos H,List.getElem?_append_left (by omega)]
    ·rw[if_neg H,if_pos (by omega),List.getElem?_append_right (by omega),m]
  ·have hlt':n<g.length:=by omega
   by_cases B:g.length+1<=c
   ·
    refine(Wb b o g.length c n O Y vc t y w hlt' B (by omega) hvbne m f hcc (λj Z=>T _ (by omega)) (λj Z=>hfrz _ (by omega)) p hc1 R ve 75 VC.size C.size hshv (by omega) hshb (by omega) hfe).mono ?_;rintro ev w' ⟨rfl,q,rfl⟩;have W:(t.drop (n*3)).length=(g.length-n)*3:=by rw[List.length_drop,m];omega
    have hrowq:(w.drewN q).heap[b]?=some (.cells C 75 fr):=r;rw[Aw b 75 fr _ (o+(n+1)*3) C (w.drewN q) hrowq,Aw b 75 fr y (o+n*3) (BQ C (o+(n+1)*3) (t.drop (n*3))) _ (Array.getElem?_setIfInBounds_self_of_lt hb)];refine fin _ b o c (BQ (BQ C (o+(n+1)*3) (t.drop (n*3))) (o+n*3) y) fr ⟨by show _<=((w.heap.setIfInBounds _ _).setIfInBounds _ _).size;rw[Array.size_setIfInBounds,Array.size_setIfInBounds];exact Nat.le_refl _,rfl,rfl,λx _ hne=>(Array.getElem?_setIfInBounds_ne (Ne.symm hne)).trans (Array.getElem?_setIfInBounds_ne (Ne.symm hne))⟩ (.inl rfl) (Array.getElem?_setIfInBounds_self_of_lt (by rw[Array.size_setIfInBounds];exact hb)) B (by rw[AJ,AJ];exact L) (by rw[AJ,AJ];exact hfr) F.1 (by rw[AJ,AJ];exact F.2) λk I=> ?_
    rw[gs _ _ _ _ (by rw[AJ,f];omega),gs _ _ _ _ (by rw[W];omega),f,W];by_cases H:k<n*3
    ·rw[if_neg (by omega),if_neg (by omega),if_pos H,K k (by omega)]
    ·rw[if_neg H];by_cases h2:k<(n+1)*3
     ·rw[if_pos (by omega),if_pos h2];congr 1;omega
     ·rw[if_neg (by omega),if_pos (by omega),if_neg h2,List.getElem?_drop];congr 1;omega
   ·
    refine(aQ b o g.length c n O Y vc t y w hlt' hnc (by omega) (by omega) m f hb hvb hcc p hc1 R).mono ?_;rintro ev w' ⟨rfl,rfl⟩;have e2:(#[.int .i64 0,.int .i64 0,.int .i64 0]:Array Value).size=3:=rfl;have hg:=grownCap_ge w (g.length+1) c 75;obtain⟨G,hG⟩:∃G,G=grownCap w (g.length+1) c 75:=⟨_,rfl⟩
    rw[<-hG] at hg⊢;obtain⟨ROW,X⟩:∃ROW:Array Value,ROW=(t.take (n*3)).toArray++Builtin.zeroCells #[.int .i64 0,.int .i64 0,.int .i64 0] (g.length+1-n)++Builtin.zeroCells #[.int .i64 0,.int .i64 0,.int .i64 0] (G-(g.length+1)):=⟨_,rfl⟩
    have hRs:ROW.size=G*3:=by
     rw[X,Array.size_append,Array.size_append,Ac,Ac,e2,List.size_toArray,List.length_take,m];omega
    have W:(t.drop (n*3)).length=(g.length-n)*3:=by rw[List.length_drop,m];omega
    rw[<-X];have r1:((w.alloc (.cells ROW 75)).drew).heap[w.heap.size]?=some (.cells ROW 75 (0,0)):=Al w _;have hsz:w.heap.size<(w.heap.push (.cells ROW 75)).size:=by rw[Array.size_push];omega
    rw[Aw w.heap.size 75 (0,0) y (n*3) ROW _ r1];rw[Aw w.heap.size 75 (0,0) (t.drop (n*3)) ((n+1)*3) (BQ ROW (n*3) y) _ (Array.getElem?_setIfInBounds_self_of_lt hsz)];refine fin _ w.heap.size 0 G (BQ (BQ ROW (n*3) y) ((n+1)*3) (t.drop (n*3))) (0,0) ⟨by show _<=(((w.heap.push _).setIfInBounds _ _).setIfInBounds _ _).size;rw[Array.size_setIfInBounds,Array.size_setIfInBounds,Array.size_push];omega,rfl,rfl,λx hx _=>(Array.getElem?_setIfInBounds_ne (by omega)).trans ((Array.getElem?_setIfInBounds_ne (by omega)).trans (Af w _ hx))⟩ (.inr (Nat.le_refl _)) (Array.getElem?_setIfInBounds_self_of_lt (by show _<((w.heap.push _).setIfInBounds _ _).size;rw[Array.size_setIfInBounds];exact hsz)) hg (by rw[AJ,AJ,hRs];omega) (λo _ h=>absurd h.2 (Nat.not_lt_zero _)) (Nat.zero_mod _) (by rw[AJ,AJ,hRs];exact Nat.mul_mod_left _ _) λk I=> ?_
    rw[Nat.zero_add,gs _ _ _ _ (by rw[AJ,hRs,W];omega),gs _ _ _ _ (by rw[hRs,f];omega),f,W];by_cases H:k<n*3
    ·rw[if_neg (by omega),if_neg (by omega),if_pos H,X,<-Array.getElem?_toList,Array.toList_append,Array.toList_append,List.append_assoc,List.getElem?_append_left (by rw[List.length_take,m];omega),List.getElem?_take,if_pos H]
    ·rw[if_neg H];by_cases h2:k<(n+1)*3
     ·rw[if_neg (by omega),if_pos (by omega),if_pos h2]
     ·rw[if_pos (by omega),if_neg h2,List.getElem?_drop];congr 1;omega
theorem qW:OC 69 fU:=H2 λfz w own args y c f g b e d a=>by
 obtain⟨h,i,vs,⟨⟩⟩:=y;simp only[Bool.and_eq_true,decide_eq_true_eq] at a;exact ABe h i vs c b d a.1 a.2.1 a.2.2.1 a.2.2.2
end Go.Proofs.YtkgejlchafionaaGreatDoor
namespace Nice
abbrev SU:=Option (AA [Dj])
def U5 (n:Int):EK:=(n,[],[],())
def AA7 (t:L8):BU:=([86,101,114,115,105,111,110],t,())
def Fs (b:L8):BU:=([69,84,97,103],[34]++Im b++[34],())
def xj:BU:=([67,111,110,116,101,110,116,45,84,121,112,101],[97,112,112,108,105,99,97,116,105,111,110,47,120,109,108],())
def UP:PSpec:=⟨[IT],[DS],λx=>BR x.1,λx=>(AA7 (DV x.1),())⟩
def UQ:PSpec:=⟨[.str],[DS],λx=>AY x.1,λx=>(Fs x.1,())⟩
def kP (er:Int) (g:EK):EK:=bif er==0 then g else bif er==9 then U5 412 else bif er==6 then U5 404 else bif er==5 then U5 507 else U5 503
def qX (t:L8) (a:Int) (b:L8) (er:Int):EK:=
 bif a !=2 then(bif a !=3 then U5 0 else kP er (bif a==2 then(200,[AA7 t,Fs b],[],()) else(200,[AA7 t],[],()))) else kP er (bif a==2 then(200,[AA7 t,Fs b],[],()) else(200,[AA7 t],[],()))
def zW:PSpec:=⟨[Ah,FR],[Dj],λx=>BR x.2.1.2.1&&AY x.1.2.2.2.1,λx=>(qX (DV x.2.1.2.1) x.1.1 x.1.2.2.2.1 x.2.1.1,())⟩
def fW:PSpec:=⟨[Ah,FR],[Dj],λx=>BR x.2.1.2.1&&AY x.1.2.2.2.1,λx=>(qX (Bp x.2.1.2.1) x.1.1 x.1.2.2.2.1 x.2.1.1,())⟩
def aO (a:EK):SU:=some (a,())
def zX (er:Int) (g:SU):SU:=bif er==0 then g else bif er==9 then aO (U5 412) else bif er==6 then aO (U5 404) else bif er==5 then aO (U5 507) else aO (U5 503)
def xk (a er:Int) (g:SU):SU:=bif a !=2 then(bif a !=3 then aO (U5 0) else zX er g) else zX er g
abbrev vf (a:L8):List Bool:=[decide (([34]++Im a).length+1<=1099511627776),decide (1+(Im a).length<=1099511627776),AY a]
def qY (c:Int) (b:L8) (a:Int):SU:=gd [BR a] (bif c==2 then gd [AY b] (aO (200,[AA7 (DV a),Fs b],[],())) else aO (200,[AA7 (DV a)],[],()))
def qZ (c:Int) (b:L8) (a:Int):SU:=gd [BR a] (bif c==2 then gd (vf b) (aO (200,[AA7 (Bp a),Fs b],[],())) else aO (200,[AA7 (Bp a)],[],()))
def ab (t:L8) (v:Ae) (er:Int) (sh:O2) (a:Int):EK:=bif a==1 then(bif er !=0 then U5 404 else(200,[Fs v.2.2.1,AA7 t],v.2.2.1,())) else bif a==4 then(200,[xj],HQ sh,()) else bif a==5 then(200,[xj],HQ sh,()) else U5 0
def Wu (a:Ak) (s:BB):EK:=ab (DV (Cy s a.2.1 a.2.2.1).1.1) (Cy s a.2.1 a.2.2.1).1 (Cy s a.2.1 a.2.2.1).2 (LF s a) a.1
def Gn (a:Ak) (s:BB):EK:=ab (Bp (Dk s a.2.1 a.2.2.1).1.1) (Dk s a.2.1 a.2.2.1).1 (Dk s a.2.1 a.2.2.1).2 (DJ s a) a.1
def Wv (a:Ak) (s:BB):Bool:=Gq s&&(AY (Cy s a.2.1 a.2.2.1).1.2.2.1&&(BR (Cy s a.2.1 a.2.2.1).1.1&&(Mh s a&&Eu (LF s a))))
def Le (a:Ak) (s:BB):Bool:=Gq s&&(AY (Dk s a.2.1 a.2.2.1).1.2.2.1&&(BR (Dk s a.2.1 a.2.2.1).1.1&&(BZ s&&Eu (DJ s a))))
def qa:PSpec:=⟨[Ah,A9],[Dj],λx=>Wv x.1 x.2.1,λx=>(Wu x.1 x.2.1,())⟩
def UR:PSpec:=⟨[Ah,A9],[Dj],λx=>Le x.1 x.2.1,λx=>(Gn x.1 x.2.1,())⟩
def xl (a:Int) (g1 g4:SU):SU:=bif a==1 then g1 else bif a==4 then g4 else bif a==5 then g4 else aO (U5 0)
def fd1 (s:BB) (x:Ae×Int):SU:=gd [Gq s] (bif x.2 !=0 then aO (U5 404) else gd [BR x.1.1,AY x.1.2.2.1] (aO (200,[Fs x.1.2.2.1,AA7 (DV x.1.1)],x.1.2.2.1,())))
def fd2 (s:BB) (x:Ae×Int):SU:=gd [Gq s] (bif x.2 !=0 then aO (U5 404) else gd (BR x.1.1::vf x.1.2.2.1) (aO (200,[Fs x.1.2.2.1,AA7 (Bp x.1.1)],x.1.2.2.1,())))
def xm (p:Bool) (sh:O2):SU:=gd [Eu sh,p] (aO (200,[xj],HQ sh,()))
end Nice
namespace Go.Proofs.YtkgejlchafionaaGreatDoor
open Tryz
open Nice
def vg (x:AA [IT]):Option (AA [DS]):=fO prog (AL [(48,Hw)]) (AC []) f75 [IT] [DS] x
theorem vi (n:Int):vg (n,())=gd [BR n&&((10:Int)==10)] (some (AA7 (DV n),())):=by kernel_rfl
theorem mU:PC 75 UP:=(AN (AG (l:=[(48,Hw)]) ⟨eT,trivial⟩) AM func75 (by kernel_rfl) (by decide)).nice λ⟨n,()⟩ h=>by
 refine(vi n).trans ?_;have h:BR n=true:=h;rw[h];rfl
def qb (x:AA [.str]):Option (AA [DS]):=fO prog (AL [(114,IY)]) (AC []) f76 [.str] [DS] x
theorem qc (n:L8):qb (n,())=gd (vf n) (some (Fs n,())):=by kernel_rfl
theorem Ww {α:Type} {n:L8} (h:AY n=true) (y:Option α):gd (vf n) y=y:=by
 have e:=Sc n;unfold vf;rw[AP (by simp only[List.length_append,List.length_cons,List.length_nil];omega),AP (by omega),Ag h,xG]
theorem mV:PC 76 UQ:=(AN (AG (l:=[(114,IY)]) ⟨VG,trivial⟩) AM func76 (by kernel_rfl) (by decide)).nice λ⟨n,()⟩ h=>by
 refine(qc n).trans ?_;exact Ww h _
def vj (x:AA [Ah,FR]):SU:=fO prog (AL [(75,UP),(76,UQ)]) (AC []) f40 [Ah,FR] [Dj] x
theorem vk (b:Int) (key:L8) (v:Int) (c:L8) (d:Int) (t p f:L8) (e:Int) (g:Bool) (er a:Int):vj ((b,key,v,c,d,t,p,f,e,g,()),(er,a,()),())=xk b er (qY b c a):=by kernel_rfl
def vl (x:AA [Ah,FR]):SU:=fO prog (AL [(31,D6),(30,Qy)]) (AC []) f16 [Ah,FR] [Dj] x
theorem vm (b:Int) (key:L8) (v:Int) (c:L8) (d:Int) (t p f:L8) (e:Int) (g:Bool) (er a:Int):vl ((b,key,v,c,d,t,p,f,e,g,()),(er,a,()),())=xk b er (qZ b c a):=by kernel_rfl
def zY (x:AA [Ah,A9]):SU:=fO prog (AL [(77,gO),(76,UQ),(75,UP),(79,bS),(78,Pa)]) (AC []) f41 [Ah,A9] [Dj] x
theorem zZ (g:Int) (key:L8) (v:Int) (h:L8) (i:Int) (t p f:L8) (j:Int) (k:Bool) (q:Int) (l:List AD) (m:List AU) (a b c d e:Int):
 zY ((g,key,v,h,i,t,p,f,j,k,()),(q,l,m,(a,b,c,d,e,()),()),())=xl g (fd1 (q,l,m,(a,b,c,d,e,()),()) (Cy (q,l,m,(a,b,c,d,e,()),()) key v)) (xm (Mh (q,l,m,(a,b,c,d,e,()),()) (g,key,v,h,i,t,p,f,j,k,())) (LF (q,l,m,(a,b,c,d,e,()),()) (g,key,v,h,i,t,p,f,j,k,()))):=by kernel_rfl
def vn (x:AA [Ah,A9]):SU:=fO prog (AL [(29,gW),(30,Qy),(31,D6),(33,XF),(32,Pa)]) (AC []) f14 [Ah,A9] [Dj] x
theorem vo (g:Int) (key:L8) (v:Int) (h:L8) (i:Int) (t p f:L8) (j:Int) (k:Bool) (q:Int) (l:List AD) (m:List AU) (a b c d e:Int) {Qa}[Qa':QA (q,l,m,(a,b,c,d,e,()),()) Qa]:
 vn ((g,key,v,h,i,t,p,f,j,k,()),(q,l,m,(a,b,c,d,e,()),()),())=xl g (fd2 Qa (Dk Qa key v)) (xm (BZ Qa) (DJ Qa (g,key,v,h,i,t,p,f,j,k,()))):=by obtain ⟨rfl⟩:=Qa';kernel_rfl
theorem vp {a er:Int} {t:L8} {b:L8} {g:SU} (h:g=(bif a==2 then aO (200,[AA7 t,Fs b],[],()) else aO (200,[AA7 t],[],()))):xk a er g=aO (qX t a b er):=by
 subst h;unfold xk qX zX kP;cases a !=2<;>cases a !=3<;>cases er==0<;>cases er==9<;>cases er==6<;>cases er==5<;>cases a==2<;>rfl
theorem qd {c:Int} {b:L8} {a:Int} (d:BR a=true) (e:AY b=true):qY c b a=(bif c==2 then aO (200,[AA7 (DV a),Fs b],[],()) else aO (200,[AA7 (DV a)],[],())):=by
 unfold qY;rw[Ag d,Ag e,xG,xG]
theorem qe {c:Int} {b:L8} {a:Int} (d:BR a=true) (e:AY b=true):qZ c b a=(bif c==2 then aO (200,[AA7 (Bp a),Fs b],[],()) else aO (200,[AA7 (Bp a)],[],())):=by
 unfold qZ;rw[Ag d,Ww e,xG]
theorem za:PC 40 zW:=(AN (AG (l:=[(75,UP),(76,UQ)]) ⟨mU,mV,trivial⟩) AM func40 (by kernel_rfl) (by decide)).nice λ⟨⟨c,key,v,b,d,t,p,f,e,g,()⟩,⟨er,a,()⟩,()⟩ h=>by
 have h:(BR a&&AY b)=true:=h;rw[Bool.and_eq_true] at h;exact(vk c key v b d t p f e g er a).trans (vp (qd h.1 h.2))
theorem mW:PC 16 fW:=(AN (AG (l:=[(31,D6),(30,Qy)]) ⟨M9,XV,trivial⟩) AM func16 (by kernel_rfl) (by decide)).nice λ⟨⟨c,key,v,b,d,t,p,f,e,g,()⟩,⟨er,a,()⟩,()⟩ h=>by
 have h:(BR a&&AY b)=true:=h;rw[Bool.and_eq_true] at h;exact(vm c key v b d t p f e g er a).trans (vp (qe h.1 h.2))
theorem vq {a:Int} {t:L8} {v:Ae} {er:Int} {sh:O2} {g1 g4:SU} (b:g1=(bif er !=0 then aO (U5 404) else aO (200,[Fs v.2.2.1,AA7 t],v.2.2.1,()))) (c:g4=aO (200,[xj],HQ sh,())):xl a g1 g4=aO (ab t v er sh a):=by
 subst b c;unfold xl ab;cases a==1<;>cases a==4<;>cases a==5<;>cases er !=0<;>rfl
theorem vu:PC 41 qa:=(AN (AG (l:=[(77,gO),(76,UQ),(75,UP),(79,bS),(78,Pa)]) ⟨rF,mV,mU,nD,qv,trivial⟩) AM func41 (by kernel_rfl) (by decide)).nice λ⟨⟨g,key,v,i,j,t,p,f,k,n,()⟩,⟨q,l,m,⟨a,b,c,d,e,()⟩,()⟩,()⟩ h=>by
 have h:Wv (g,key,v,i,j,t,p,f,k,n,()) (q,l,m,(a,b,c,d,e,()),())=true:=h;unfold Wv at h;simp only[Bool.and_eq_true] at h;obtain⟨o,r,s,u,w⟩:=h;refine(zZ g key v i j t p f k n q l m a b c d e).trans (vq ?_ ?_)
 ·unfold fd1;rw[Ag o,xG,Ag s,Ag r,xG]
 ·unfold xm;rw[Ag w,Ag u,xG]
theorem fX:PC 14 UR:=(AN (AG (l:=[(29,gW),(30,Qy),(31,D6),(33,XF),(32,Pa)]) ⟨rM,XV,M9,kq,kj,trivial⟩) AM func14 (by kernel_rfl) (by decide)).nice λ⟨⟨g,key,v,i,j,t,p,f,k,n,()⟩,⟨q,l,m,⟨a,b,c,d,e,()⟩,()⟩,()⟩ h=>by
 have h:Le (g,key,v,i,j,t,p,f,k,n,()) (q,l,m,(a,b,c,d,e,()),())=true:=h;unfold Le at h;simp only[Bool.and_eq_true] at h;obtain⟨o,r,s,u,w⟩:=h;refine(vo g key v i j t p f k n q l m a b c d e).trans (vq ?_ ?_)
 ·unfold fd2;rw[Ag o,xG,Ag s,Ww r]
 ·unfold xm;rw[Ag w,Ag u,xG]
