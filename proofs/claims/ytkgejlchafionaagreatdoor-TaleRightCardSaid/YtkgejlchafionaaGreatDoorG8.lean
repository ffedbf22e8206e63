/-
  Part of the proof. No condition.
-/
import Derived.Test.YtkgejlchafionaaGreatDoorG7
open Array renaming getElem?_eq_getElem->CX,getElem?_setIfInBounds_ne->FG,getElem?_setIfInBounds_self_of_lt->Ig,getElem?_toList->Bf,length_toList->D0,size_append->ANM,size_push->I9,size_setIfInBounds->GK,toList_append->Kv
open Bool renaming and_eq_true->A0,false->AK,false_eq_true->CI,noConfusion->z8,or_eq_true->ED,true->AD
open Decidable renaming decide->AG
open Go renaming Addr->EG,Calls->BU,TypeId->AQ,TypeInfo->EF,Value->AJ,World->AN,grownCap->Dp,grownCap_ge->ML,run_append_room_src->Wv
open Go.Addr renaming add_lit->Ge
open Go.Builtin renaming append_->Eo,zeroCells->Ch
open Go.Ending renaming returned->O6
open Go.IntKind renaming u64->GH
open Go.Lib renaming run_eql_slice_nil->sM,wpList_append_run->Kz
open Go.Op renaming bytesLess->CG
open Go.Src renaming ofSlice->RT
open Go.World renaming cell?->C0,frozen?->Wx,shape?->Uk
open List renaming all_eq_true->C8,append_assoc->C9,append_nil->Ce,drop_drop->En,drop_zero->Do,getD_eq_getElem?_getD->Bg,getElem?_append_left->EE,getElem?_append_right->Fw,getElem?_drop->CA,getElem?_eq_getElem->B4,getElem?_eq_none->DA,getElem?_map->Fe,getElem?_take->CB,getElem_mem->EK,getElem_of_mem->M5,length_append->BA,length_cons->B7,length_drop->CC,length_eq_zero_iff->Gu,length_map->Eg,length_take->Bw,nil_append->DN,not_mem_nil->RS,size_toArray->Hx,take_of_length_le->GB
open List.cons renaming inj->FP
open Nat renaming add_assoc->Dg,add_mul->DB,le_refl->Ak,lt_add_right->M1,min_eq_left->MH,mul_le_mul_right->Gc,mul_mod_left->MC,not_lt_zero->Hi,one_mul->ANa,zero_add->CJ,zero_le->Cx,zero_mod->MF
open Ne renaming symm->ES
open Option renaming isSome_none->Df,none->AF,some->AC
open _root_ renaming Array->Aa,Bool->AH,Int->AA,List->AE,Nat->AB,Option->AP,absurd->Aq,beq_eq_false_iff_ne->CE,beq_iff_eq->Be,beq_self_eq_true->GD,decide_eq_false->BP,decide_eq_true->BK,decide_eq_true_eq->A6,if_false->BR,if_neg->AY,if_pos->Ae,of_decide_eq_true->BL,trivial->A3
set_option maxRecDepth 1000000
open Go Go.Eng
noncomputable section
namespace Nice
theorem KT:∀{a b c:L8},CG a b=AD->CG b c=AD->CG a c=AD
 |_,_,[],_,h=>by rename_i b _;cases b<;>simp[CG]at h
 |_,[],_::_,h,_=>by rename_i a;cases a<;>simp[CG]at h
 |[],_::_,_::_,_,_=>by simp[CG]
 |x::a,y::b,z::c,e,d=>by
  simp only[CG]at e d⊢;simp only[ED,A0,A6,Be]at e d⊢;rcases e with e|⟨rfl,e⟩
  ·rcases d with d|⟨rfl,d⟩
   ·exact .inl (UInt8.lt_trans e d)
   ·exact .inl e
  ·rcases d with d|⟨rfl,d⟩
   ·exact .inl d
   ·exact .inr ⟨rfl,KT e d⟩
abbrev LA(l:AE AX):Prop:=l.Pairwise λa b=>CG a.1 b.1=AD
theorem Lt{s:Bc}(h:C6 s=AD):s.2.1.length<=40/\∀i,i<s.2.1.length->K8 s.1 s.2.1 i=true:=by
 unfold C6 at h;simp only[A0,A6]at h;exact⟨h.2.2.1,λi a=>H6.1 h.2.2.2.2.1 i (Cx _) (by omega)⟩
theorem Hb{l:AE AX}{i:AB}(h:i<l.length):As l i=l[i]:=by
 unfold As;rw[Bg,B4 h];rfl
theorem UD{s:Bc}(h:C6 s=AD):LA s.2.1:=by
 have b:=(Lt h).2;have step:∀i (a:i+1<s.2.1.length),CG (s.2.1[i]).1 (s.2.1[i+1]).1=true:=λi a=>by
  have:=b (i+1) a;unfold K8 at this;simp only[A0,ED]at this;have:=this.2.2;rw[show i+1-1=i from rfl,Hb a,Hb (by omega)]at this;rcases this with h|h
  ·cases h
  ·exact h
 have all:∀d i (a:i+d+1<s.2.1.length),CG (s.2.1[i]).1 (s.2.1[i+d+1]).1=true:=by
  intro d
  induction d with
  |zero=>intro i a;exact step i a
  |succ d c=>intro i a;exact KT (c i (by omega)) (step (i+d+1) a)
 exact List.pairwise_iff_getElem.2 λi j a g f=>by
  have:=all (j-i-1) i (by omega);have e:i+(j-i-1)+1=j:=by omega
  simp only[e]at this;exact this
theorem UE:∀a:L8,CG a a=AK
 |[]=>rfl
 |x::a=>by
  show(AG (x<x)||(x==x&&CG a a))=AK;rw[UE a,Bool.and_false,BP (UInt8.lt_irrefl x)];rfl
theorem NW{α:Type}{p:α->AH}:∀(l:AE α) (i:AB),(∀x,x∈l->p x=AK)->FH p l i= -1
 |[],_,_=>rfl
 |y::r,i,h=>by
  unfold FH;rw[h y (List.mem_cons_self ..),AY (by decide)];exact NW r (i+1) λx a=>h x (List.mem_cons_of_mem _ a)
theorem pV{key:L8}:∀(l:AE AX) (i:AB),LA l->(FH (λy:AX=>y.1==key) l i= -1/\(O0 key l i).2=AK)\/∃k:AB,FH (λy:AX=>y.1==key) l i=((i+k:AB):AA)/\k<l.length/\O0 key l i=(((i+k:AB):AA),AD)
 |[],_,_=>.inl ⟨rfl,rfl⟩
 |e::r,i,h=>by
  obtain⟨j,m⟩:=List.pairwise_cons.1 h;cases a:CG e.1 key
  ·cases b:e.1==key
   ·refine .inl ⟨NW _ _ λx hx=> ?_,?_⟩
    ·rcases List.mem_cons.1 hx with rfl|hx
     ·exact b
     ·show(x.1==key)=AK;rw[CE];intro c;have:=j x hx;rw[c,a]at this;cases this
    ·unfold O0;rw[a,xF];exact b
   ·refine .inr ⟨0,?_,by rw[B7];omega,?_⟩
    ·unfold FH;rw[b,Ae rfl];rfl
    ·unfold O0;rw[a,xF,b];rfl
  ·have d:(e.1==key)=false:=by
    rw[CE];intro b;rw[b,UE]at a;cases a
   have n:FH (λy:AX=>y.1==key) (e::r) i=FH (λy:AX=>y.1==key) r (i+1):=by
    conv=>lhs;unfold FH
    rw[d,AY (by decide)]
   have o:O0 key (e::r) i=O0 key r (i+1):=by
    conv=>lhs;unfold O0
    rw[a,xT]
   rw[n,o];rcases pV r (i+1) m with⟨f,g⟩|⟨k,f,g,p⟩
   ·exact .inl ⟨f,g⟩
   ·refine .inr ⟨k+1,?_,by rw[B7];omega,?_⟩
    ·rw[f,show i+1+k=i+(k+1) by omega]
    ·rw[p,show i+1+k=i+(k+1) by omega]
theorem YD{n:AA}:∀(l:AE BE) (i:AB),(FH (λy:BE=>y.1==n) l i= -1/\Fa n l i=(0,AK))\/∃k:AB,FH (λy:BE=>y.1==n) l i=((i+k:AB):AA)/\k<l.length/\Fa n l i=(((i+k:AB):AA),AD)
 |[],_=>.inl ⟨rfl,rfl⟩
 |e::r,i=>by
  cases a:e.1==n
  ·have d:FH (λy:BE=>y.1==n) (e::r) i=FH (λy:BE=>y.1==n) r (i+1):=by
    conv=>lhs;unfold FH
    rw[a,AY (by decide)]
   have f:Fa n (e::r) i=Fa n r (i+1):=by
    conv=>lhs;unfold Fa
    rw[a,xF]
   rw[d,f];rcases YD r (i+1)with⟨b,c⟩|⟨k,b,c,g⟩
   ·exact .inl ⟨b,c⟩
   ·refine .inr ⟨k+1,?_,by rw[B7];omega,?_⟩
    ·rw[b,show i+1+k=i+(k+1) by omega]
    ·rw[g,show i+1+k=i+(k+1) by omega]
  ·refine .inr ⟨0,?_,by rw[B7];omega,?_⟩
   ·unfold FH;rw[a,Ae rfl];rfl
   ·unfold Fa;rw[a,xT];rfl
theorem pW{s:Bc}(g:LA s.2.1)(h:∀e,e∈s.2.1->1<=e.2.1.length)(key:L8)(n:AA):GX s key n=FI s key n:=by
 unfold GX FI;rcases pV (key:=key) s.2.1 0 g with⟨a,b⟩|⟨k,a,b,c⟩
 ·have a:Oj s.2.1 key= -1:=a;rw[a,b];rfl
 ·have a:Oj s.2.1 key=((0+k:AB):AA):=a;rw[a,c,Bm (by omega),xT];have i:VG s.2.1 ((0+k:AB):AA)∈s.2.1:=by
   rw[CJ];show s.2.1.getD k _∈s.2.1;rw[Bg,B4 b];exact EK b
  have f:=h _ i
  revert f
  generalize VG s.2.1 ((0+k:AB):AA)=e;intro f;unfold UX WW;by_cases d:n=0
  ·rw[show(n !=0)=AK from by rw[bne_eq_false_iff_eq];exact d,show(n==0)=AD from Be.2 d,xF,xT,BK (by omega)]
  ·rw[show(n !=0)=AD from bne_iff_ne.2 d,CE.2 d,xT,xF];unfold Oz;rcases YD (n:=n) e.2.1 0 with⟨a,b⟩|⟨j,a,b,c⟩
   ·have a:Db e.2.1 n= -1:=a;rw[a,b];rfl
   ·have a:Db e.2.1 n=((0+j:AB):AA):=a;rw[a,c,Bm (by omega)]
theorem ADI{s:Bc}(key:L8)(n:AA):(FI s key n).1=Nj\/∃e,e∈s.2.1/\(FI s key n).1∈e.2.1:=by
 have g:∀v is,(Rg v is).1=Nj\/(is=AD/\(Rg v is).1=v):=λv is=>by
  unfold Rg;cases is
  ·exact .inl rfl
  ·cases v.2.1
   ·exact .inr ⟨rfl,rfl⟩
   ·exact .inl rfl
 unfold FI;rcases Jq (λy:AX=>y.1==key) s.2.1 0 with⟨a, -⟩|⟨k,a,b⟩
 ·have a:Oj s.2.1 key= -1:=a;rw[a];exact .inl rfl
 ·have a:Oj s.2.1 key=((0+k:AB):AA):=a;rw[a,Bm (by omega)];have d:VG s.2.1 ((0+k:AB):AA)∈s.2.1:=by
   rw[CJ];show s.2.1.getD k _∈s.2.1;rw[Bg,B4 b];exact EK b
  revert d
  generalize VG s.2.1 ((0+k:AB):AA)=e;intro d;unfold WW;cases n==0
  ·rw[xF];rcases g (Oz e n).1 (Oz e n).2 with h|⟨c,f⟩
   ·exact .inl h
   ·refine .inr ⟨e,d,?_⟩;rw[f];unfold Oz at c⊢;rcases Jq (λy:BE=>y.1==n) e.2.1 0 with⟨a, -⟩|⟨j,a,b⟩
    ·have a:Db e.2.1 n= -1:=a;rw[a]at c;cases c
    ·have a:Db e.2.1 n=((0+j:AB):AA):=a;rw[a,Bm (by omega),CJ];show e.2.1.getD j _∈e.2.1;rw[Bg,B4 b];exact EK b
  ·rw[xT];rcases g (D3 e).1 (AG ((e.2.1.length:AA)>0))with h|⟨c,f⟩
   ·exact .inl h
   ·refine .inr ⟨e,d,?_⟩;have i:0<e.2.1.length:=by have:=BL c;omega
    rw[f];unfold D3;rw[show(e.2.1.length==0)=AK from CE.2 (by omega),xF];show B3 e∈e.2.1;unfold B3;rw[Bg,B4 (by omega)];exact EK _
theorem vS{s:Bc}(h:C6 s=AD)(key:L8)(n:AA):(FI s key n).1.2.2.1.length<=300/\0<=(FI s key n).1.1/\(FI s key n).1.1<=1099511627776:=by
 rcases ADI (s:=s) key n with e|⟨e,d,a⟩
 ·rw[e];exact⟨Cx _,Int.le_refl _,by show(0:AA)<=1099511627776;omega⟩
 ·obtain⟨i,c,rfl⟩:=M5 d;have b:=(Lt h).2 i c;unfold K8 at b;rw[A0,Hb c]at b;have a:=Gv _ _ (D4.1 b.1).1 _ a;unfold DJ at a;simp only[A0,A6]at a;exact⟨a.2.2.1,by omega,a.2.1⟩
end Nice
namespace Nice
abbrev cA:=AP (AM [IT,.bool])
def lX(a b:L8):AA:=bif CG a b then -1 else bif !(CG a b||a==b)then 1 else 0
def lY(a b:AA):AA:=bif AG (a<b)then -1 else bif AG (a>b)then 1 else 0
def pX:PSpec:=⟨[.str,.str],[IT],λ_=>AD,λx=>(lX x.1 x.2.1,())⟩
def pY:PSpec:=⟨[IT,IT],[IT],λ_=>AD,λx=>(lY x.1 x.2.1,())⟩
def fES:PSpec:=⟨[AW,.str],[IT],λ_=>AD,λx=>(lX x.1.1 x.2.1,())⟩
def fMS:PSpec:=⟨[BB,IT],[IT],λ_=>AD,λx=>(lY x.1.1 x.2.1,())⟩
def FC{α:Type}(lt eq:α->AH):AE α->AB->AA×AH
 |[],i=>((i:AA),AK)
 |e::r,i=>bif lt e then FC lt eq r (i+1)else((i:AA),eq e)
theorem pZ(key:L8):∀(l:AE AX) (i:AB),O0 key l i=FC (λe=>CG e.1 key) (λe=>e.1==key) l i
 |[],_=>rfl
 |e::r,i=>by unfold O0 FC;rw[pZ key r (i+1)]
theorem pb{α:Type}{lt eq:α->AH}:∀(l:AE α) (i m:AB),m<=l.length->(∀k x,k<m->l[k]?=AC x->lt x=AD)->(∀x,l[m]?=AC x->lt x=AK)->
  FC lt eq l i=(((i+m:AB):AA),match l[m]? with|some x=>eq x|none=>AK)
 |[],i,m,a,_,_=>by
  obtain rfl:m=0:=by simpa using a
  rfl
 |e::r,i,0,_,_,h=>by
  unfold FC;rw[h e rfl];rfl
 |e::r,i,m+1,a,c,d=>by
  unfold FC;rw[c 0 e (by omega) rfl,xT,pb r (i+1) m (by simpa using a) (λk x f b=>c (k+1) x (by omega) (by simpa using b)) (λx b=>d x (by simpa using b))];rw[show i+1+m=i+(m+1) by omega];rfl
def YE(i j:AA):AA:=(GH.wrap (i+j)).fdiv 2
theorem ADJ{i j:AB}(h:i+j<=4000000):YE (i:AA) (j:AA)=((i+j)/2:AB):=by
 unfold YE;have e:GH.wrap ((i:AA)+(j:AA))=(i:AA)+(j:AA):=by
  simp only[IntKind.wrap,IntKind.bits,IntKind.signed];simp;omega
 rw[e,Int.fdiv_eq_ediv_of_nonneg _ (by omega)];omega
def EV(m:AA)(L:AB):AE AH:=[AG (m.toNat<L),AG (0<=m),AG (m<(L:AA))]
def stB(L:AB)(c:AB->AA)(i j:AA)(nx:AA->AA->cA):cA:=
 bif AG (i<j)then gd [AG (A4 .i64 (YE i j)),AG (A4 .i64 (i+j))] (bif AG (c (YE i j).toNat<0)then gd (AG (A4 .i64 (YE i j+1))::EV (YE i j) L) (nx (YE i j+1) j)else gd (EV (YE i j) L) (nx i (YE i j)))
 else bif AG (i<(L:AA))then(bif c i.toNat==0 then gd (EV i L) (AC (i,AD,()))else gd (EV i L) (AC (i,AK,())))else AC (i,AK,())
theorem YF{α:Type}{m L:AB}(h:m<L)(x:AP α):gd (EV (m:AA) L) x=x:=by
 unfold EV;rw[An (by omega),An (by omega),An (by omega),xG]
theorem AHS{α:Type}{l:AE α}{lt eq:α->AH}{c:AB->AA}(z:∀(k:AB) x,l[k]?=AC x->AG (c k<0)=lt x/\(c k==0)=eq x)(A:∀(a b:AB) x y,a<b->l[a]?=AC x->l[b]?=AC y->lt y=AD->lt x=AD)(J:l.length<=1000000){h:AB->AA->AA->cA}(B:∀n i j,h (n+1) i j=stB l.length c i j (h n)):
  ∀(m i j n:AB),j<=i+m->m<n->i<=j->j<=l.length->(∀k x,k<i->l[k]?=AC x->lt x=AD)->(∀k x,j<=k->l[k]?=AC x->lt x=AK)->h n (i:AA) (j:AA)=AC ((FC lt eq l 0).1,(FC lt eq l 0).2,()):=by
 intro m
 induction m with
 |zero=>
  intro i j n E F C g o p;obtain⟨n,rfl⟩:∃q,n=q+1:=⟨n-1,by omega⟩
  obtain rfl:i=j:=by omega
  rw[B];unfold stB;rw[Bm (by omega),pb l 0 i g (λk x s f=>o k x s f) (λx f=>p i x (Ak _) f),CJ];by_cases t:i<l.length
  ·have f:l[i]?=AC l[i]:=B4 t;have:=(z i _ f).2;rw[Bn (by omega),YF t,YF t,show((i:AA)).toNat=i from rfl,this,f];show(bif eq l[i]then(AC ((i:AA),AD,()):cA)else AC ((i:AA),AK,()))=AC ((i:AA),eq l[i],());cases eq l[i]<;>rfl
  ·rw[Bm (by omega),DA (by omega)]
 |succ m u=>
  intro i j n E F C g o p;obtain⟨n,rfl⟩:∃q,n=q+1:=⟨n-1,by omega⟩
  by_cases G:i<j
  ·rw[B];unfold stB;obtain⟨q,H⟩:∃q,q=(i+j)/2:=⟨_,rfl⟩
   have D:=ADJ (i:=i) (j:=j) (by omega);rw[<-H]at D;have I:q<j:=by omega
   have v:i<=q:=by omega
   have f:l[q]?=AC l[q]:=B4 (by omega);rw[Bn (by omega),D,An (AZ.2 ⟨by omega,by omega⟩),An (AZ.2 ⟨by omega,by omega⟩),xG,show((q:AA)).toNat=q from rfl,(z q _ f).1];cases r:lt l[q]
   ·rw[xF,YF (by omega)];exact u i q n (by omega) (by omega) v (by omega) o λk x s d=>by
     by_cases e:k=q
     ·subst e;rw[f]at d;cases d;exact r
     ·cases w:lt x
      ·rfl
      ·have:=A q k _ _ (by omega) f d w;rw[r]at this;cases this
   ·rw[xT,An (AZ.2 ⟨by omega,by omega⟩),YF (by omega)];have:=u (q+1) j n (by omega) (by omega) (by omega) g (λk x s d=>by
     by_cases e:k=q
     ·subst e;rw[f]at d;cases d;exact r
     ·exact A k q _ _ (by omega) d f r) p
    rwa[Int.natCast_add]at this
  ·exact u i j (n+1) (by omega) (by omega) C g o p
def Ej:AE AH->AH
 |[]=>AD
 |b::r=>(b||r.all λx=> !x)&&Ej r
theorem QB:∀{l:AE AH},Ej l=AD->∀(a b:AB) x y,a<b->l[a]?=AC x->l[b]?=AC y->y=AD->x=AD
 |[],_,a,b,x,y,_,e,_,_=>by cases e
 |c::r,h,0,b+1,x,y,_,e,f,d=>by
  obtain rfl:c=x:=by simpa using e
  have h:((c||r.all λx=> !x)&&Ej r)=true:=h;rw[A0,ED]at h;rcases h.1 with h|h
  ·exact h
  ·have f:r[b]?=AC y:=by simpa using f
   have:=C8.1 h y (List.mem_of_getElem? f);rw[d]at this;cases this
 |c::r,h,a+1,b+1,x,y,g,e,f,d=>by
  have h:((c||r.all λx=> !x)&&Ej r)=true:=h;rw[A0]at h;exact QB h.2 a b x y (by omega) (by simpa using e) (by simpa using f) d
theorem aQ:∀{l:AE AH},(∀(a b:AB) x y,a<b->l[a]?=AC x->l[b]?=AC y->y=AD->x=AD)->Ej l=AD
 |[],_=>rfl
 |c::r,h=>by
  show((c||r.all λx=> !x)&&Ej r)=AD;rw[aQ (l:=r) λa b x y e f d=>h (a+1) (b+1) x y (by omega) (by simpa using f) (by simpa using d),Bool.and_true,ED];cases g:c
  ·right;rw[C8];intro y d;obtain⟨i,j,rfl⟩:=M5 d;cases k:r[i]
   ·rfl
   ·have:=h 0 (i+1) c _ (by omega) rfl (List.getElem?_cons_succ.trans (B4 j)) k;rw[g]at this;cases this
  ·exact .inl rfl
abbrev DM(k:L8)(e:AX):AH:=CG e.1 k
abbrev EJ(k:L8)(e:AX):AH:=e.1==k
abbrev Fu(k:AA)(m:Ar):AH:=AG (m.1<k)
abbrev H1(k:AA)(m:Ar):AH:=m.1==k
def ADK(f:AB):PSpec:=⟨[.slice AW,.str,.fn f],[IT,.bool],λx=>AG (x.1.length<=1000000)&&Ej (x.1.map (DM x.2.1)),λx=>((FC (DM x.2.1) (EJ x.2.1) x.1 0).1,(FC (DM x.2.1) (EJ x.2.1) x.1 0).2,())⟩
def ADL(f:AB):PSpec:=⟨[.slice BB,IT,.fn f],[IT,.bool],λx=>AG (x.1.length<=1000000)&&Ej (x.1.map (Fu x.2.1)),λx=>((FC (Fu x.2.1) (H1 x.2.1) x.1 0).1,(FC (Fu x.2.1) (H1 x.2.1) x.1 0).2,())⟩
theorem ADM(a b:L8):AG (lX a b<0)=CG a b/\(lX a b==0)=(a==b):=by
 unfold lX;cases h:CG a b
 ·cases c:a==b
  ·exact⟨rfl,rfl⟩
  ·exact⟨rfl,rfl⟩
 ·have:(a==b)=false:=by
   rw[CE];intro e;rw[e,UE]at h;cases h
  rw[this];exact⟨rfl,rfl⟩
theorem ADN(a b:AA):AG (lY a b<0)=AG (a<b)/\(lY a b==0)=(a==b):=by
 unfold lY;by_cases h:a<b
 ·rw[Bn h,BK h,CE.2 (show a≠b by omega)];exact⟨rfl,rfl⟩
 ·rw[Bm h,BP h];by_cases c:a>b
  ·rw[Bn c,CE.2 (show a≠b by omega)];exact⟨rfl,rfl⟩
  ·rw[Bm c,Be.2 (show a=b by omega)];exact⟨rfl,rfl⟩
end Nice
namespace Go.Proofs.YtkgejlchafionaaGreatDoor
open Tryz
open Nice
def ALc(x:AM [.str,.str]):AP (AM [IT]):=fO prog (Aj []) (AV []) f153 [.str,.str] [IT] x
def ADO(a b:L8):AP (AM [IT]):=bif !(a==a)then(bif !(b==b)then AC (0,())else AC (-1,()))else bif !(b==b)then AC (1,())else bif CG a b then AC (-1,())else bif !(CG a b||a==b)then AC (1,())else AC (0,())
theorem ALd(a b:L8):ALc (a,b,())=ADO a b:=by kernel_rfl
theorem AHT:PC 153 pX:=(Ap (Ac (l:=[]) trivial) Al func153 (by kernel_rfl) (by decide)).nice λ⟨a,b,()⟩ _=>by
 refine(ALd a b).trans ?_;show ADO a b=AC (lX a b,());unfold ADO lX;rw[GD,GD];cases CG a b<;>cases a==b<;>rfl
def ALe(x:AM [IT,IT]):AP (AM [IT]):=fO prog (Aj []) (AV []) f104 [IT,IT] [IT] x
def ADP(a b:AA):AP (AM [IT]):=bif a !=a then(bif b !=b then AC (0,())else AC (-1,()))else bif b !=b then AC (1,())else bif AG (a<b)then AC (-1,())else bif AG (a>b)then AC (1,())else AC (0,())
theorem ALf(a b:AA):ALe (a,b,())=ADP a b:=by kernel_rfl
theorem AHU:PC 104 pY:=(Ap (Ac (l:=[]) trivial) Al func104 (by kernel_rfl) (by decide)).nice λ⟨a,b,()⟩ _=>by
 refine(ALf a b).trans ?_;show ADP a b=AC (lY a b,());unfold ADP lY;rw[show(a !=a)=AK from by simp,show(b !=b)=AK from by simp];cases AG (a<b)<;>cases AG (a>b)<;>rfl
def ALg(x:AM [AW,.str]):AP (AM [IT]):=fO prog (Aj [(153,pX)]) (AV []) f152 [AW,.str] [IT] x
theorem ALh(k:L8)(l:AE BE)(b:L8):ALg ((k,l,()),b,())=AC (lX k b,()):=by kernel_rfl
theorem ALi:PC 152 fES:=(Ap (Ac (l:=[(153,pX)]) ⟨AHT,A3⟩) Al func152 (by kernel_rfl) (by decide)).nice λ⟨⟨k,l,()⟩,b,()⟩ _=>ALh k l b
def ALj(x:AM [BB,IT]):AP (AM [IT]):=fO prog (Aj [(104,pY)]) (AV []) f103 [BB,IT] [IT] x
theorem ALk(a e v b:AA):ALj ((a,(e,v,()),()),b,())=AC (lY a b,()):=by kernel_rfl
theorem ALl:PC 103 fMS:=(Ap (Ac (l:=[(104,pY)]) ⟨AHU,A3⟩) Al func103 (by kernel_rfl) (by decide)).nice λ⟨⟨a,⟨e,v,()⟩,()⟩,b,()⟩ _=>ALk a e v b
abbrev aR:AE (AB×AE (AB×Sh)):=[(3,[(0,.one (.dat AW)),(1,.one .sym),(2,.one .any),(6,.one .sym),(7,.one .sym),(8,.one .sym),(9,.one .sym),(10,.one .sym)])]
def vT(n:AB)(l:AE AX)(k:L8)(i j:AA):cA:=rH prog (Aj [(152,fES)]) (AV aR) f151 [IT,.bool] n 0 [(0,dt 10),(1,sy (.string (bs k))),(2,.func (.func 152) #[] #[]),(6,sy (.int .i64 0)),(7,.bool AK),(8,sy (.int .i64 l.length)),(9,sy (.int .i64 i)),(10,sy (.int .i64 j))] [.dat AW l]
def AHV(x:AM [.slice AW,.str,.fn 152]):cA:=fO prog (Aj [(152,fES)]) (AV aR) f151 [.slice AW,.str,.fn 152] [IT,.bool] x
theorem ADQ(x:AM [.slice AW,.str,.fn 152]):AHV x=Cy prog (Aj [(152,fES)]) (AV aR) f151 [.slice AW,.str,.fn 152] [IT,.bool] AU x:=rfl
theorem ADR(N:AB)(l:AE AX)(k:L8):Cy prog (Aj [(152,fES)]) (AV aR) f151 [.slice AW,.str,.fn 152] [IT,.bool] N (l,k,(),())=vT N l k 0 l.length:=by kernel_rfl
theorem ADS(n:AB)(l:AE AX)(k:L8)(i j:AA):vT (n+1) l k i j=stB l.length (λq=>lX (As l q).1 k) i j (vT n l k):=by kernel_rfl
theorem AHW:PC 151 (ADK 152):=(Ap (sh:=AV aR) (Ac (l:=[(152,fES)]) ⟨ALi,A3⟩) Al func151 (by kernel_rfl) (by decide)).nice λ⟨l,k,(),()⟩ h=>by
 have h:(AG (l.length<=1000000)&&Ej (l.map (DM k)))=true:=h;rw[A0,A6]at h;show AHV (l,k,(),())=_;rw[ADQ,ADR];exact AHS (c:=λq=>lX (As l q).1 k) (lt:=DM k) (eq:=EJ k) (λq x d=>by
   have e:As l q=x:=by unfold As;rw[Bg,d];rfl
   show AG (lX (As l q).1 k<0)=_/\(lX (As l q).1 k==0)=_;rw[e];exact ADM _ _)
  (λa b x y f d m=>QB h.2 a b _ _ f (by rw[Fe,d];rfl) (by rw[Fe,m];rfl)) h.1 (h:=λn i j=>vT n l k i j) (λn i j=>ADS n l k i j) l.length 0 l.length AU (by omega) (by unfold AU;omega) (by omega) (Ak _) (λq x g=>Aq g (Hi _)) (λq x g d=>by rw[DA g]at d;cases d)
abbrev aS:AE (AB×AE (AB×Sh)):=[(3,[(0,.one (.dat BB)),(1,.one .sym),(2,.one .any),(6,.one .sym),(7,.one .sym),(8,.one .sym),(9,.one .sym),(10,.one .sym)])]
def vU(n:AB)(l:AE Ar)(k i j:AA):cA:=rH prog (Aj [(103,fMS)]) (AV aS) f102 [IT,.bool] n 0 [(0,dt 10),(1,sy (.int .i64 k)),(2,.func (.func 103) #[] #[]),(6,sy (.int .i64 0)),(7,.bool AK),(8,sy (.int .i64 l.length)),(9,sy (.int .i64 i)),(10,sy (.int .i64 j))] [.dat BB l]
def AHX(x:AM [.slice BB,IT,.fn 103]):cA:=fO prog (Aj [(103,fMS)]) (AV aS) f102 [.slice BB,IT,.fn 103] [IT,.bool] x
theorem ADT(x:AM [.slice BB,IT,.fn 103]):AHX x=Cy prog (Aj [(103,fMS)]) (AV aS) f102 [.slice BB,IT,.fn 103] [IT,.bool] AU x:=rfl
theorem ADU(N:AB)(l:AE Ar)(k:AA):Cy prog (Aj [(103,fMS)]) (AV aS) f102 [.slice BB,IT,.fn 103] [IT,.bool] N (l,k,(),())=vU N l k 0 l.length:=by kernel_rfl
theorem ADV(n:AB)(l:AE Ar)(k i j:AA):vU (n+1) l k i j=stB l.length (λq=>lY (Bv l q).1 k) i j (vU n l k):=by kernel_rfl
theorem AHY:PC 102 (ADL 103):=(Ap (sh:=AV aS) (Ac (l:=[(103,fMS)]) ⟨ALl,A3⟩) Al func102 (by kernel_rfl) (by decide)).nice λ⟨l,k,(),()⟩ h=>by
 have h:(AG (l.length<=1000000)&&Ej (l.map (Fu k)))=true:=h;rw[A0,A6]at h;show AHX (l,k,(),())=_;rw[ADT,ADU];exact AHS (c:=λq=>lY (Bv l q).1 k) (lt:=Fu k) (eq:=H1 k) (λq x d=>by
   have e:Bv l q=x:=by unfold Bv;rw[Bg,d];rfl
   show AG (lY (Bv l q).1 k<0)=_/\(lY (Bv l q).1 k==0)=_;rw[e];exact ADN _ _)
  (λa b x y f d m=>QB h.2 a b _ _ f (by rw[Fe,d];rfl) (by rw[Fe,m];rfl)) h.1 (h:=λn i j=>vU n l k i j) (λn i j=>ADV n l k i j) l.length 0 l.length AU (by omega) (by unfold AU;omega) (by omega) (Ak _) (λq x g=>Aq g (Hi _)) (λq x g d=>by rw[DA g]at d;cases d)
end Go.Proofs.YtkgejlchafionaaGreatDoor
namespace Go.Eng
open Go
section
variable {P:Program} {fz:AB->AP (Aa AJ)} {t:Ty}
theorem Et.take{a:AE t.Den}{c:AE AJ}(h:Et fz t a c)(n:AB)(d:n<=a.length)(_:a.length*t.sz<=c.length):Et fz t (a.take n) (c.take (n*t.sz)):=λk x b=>by
 rw[CB]at b
 split at b
 ·rename_i e;obtain⟨l,f⟩:=h k x b;have g:=Gc t.sz (show k+1<=n from e);have i:=Gc t.sz d;rw[DB,ANa]at g;refine⟨by rw[Bw];omega,?_⟩;rw[List.drop_take,List.take_take,MH (by omega)];exact f
 ·cases b
theorem Et.drop{a:AE t.Den}{b:AE AJ}(h:Et fz t a b)(n:AB):Et fz t (a.drop n) (b.drop (n*t.sz)):=λk x c=>by
 rw[CA]at c;obtain⟨e,d⟩:=h (n+k) x c;rw[DB]at e d;refine⟨by rw[CC];omega,?_⟩;rw[En];exact d
def Lu(P:Program)(fz:AB->AP (Aa AJ))(w:AN)(own:AE AB)(t:Ty)(e:AQ)(a:AE t.Den)(v:AJ)(w':AN):Prop:=
 (w.heap.size<=w'.heap.size/\w'.os=w.os/\w'.output=w.output/\∀b,b<w.heap.size->b∉own->w'.heap[b]?=w.heap[b]?)/\
 ((a=[]/\∃q,v=.slice q 0 0)\/∃(b o n c:AB) (C:Aa AJ) (fr:AB×AB),v=.slice (AC ⟨b,o,AF⟩) n c/\(b∈own\/w.heap.size<=b)/\w'.heap[b]?=AC (.cells C e fr)/\n=a.length/\n<=c/\o+c*t.sz<=C.size/\
   (∀o,o<C.size+t.slk->¬(fr.1<=o/\o<fr.2))/\(∀i,P.info? e=AC i->t.sz=i.size/\o%i.size=0/\C.size%i.size=0)/\Et fz t a (C.toList.drop o))
abbrev YG(ts:AE OT)(t:Ty)(e:AQ)(pre:DX ts->AH)(g:DX ts->AE t.Den):OSpec:=⟨AK,0,.unit,0,ts,[.vec t e],λ_ y=>pre y,λx y=>(x,g y,())⟩
theorem Lw{gl:AE (AB×AE AJ)}{f:FuncId}{ts:AE OT}{e:AQ}{pre:DX ts->AH}{g:DX ts->AE t.Den}(h:∀(fz:AB->AP (Aa AJ)) (w:AN) (own:AE AB) (args:AE AJ) (y:DX ts),DK fz w->NP gl w->own.Nodup->(∀b,b∈own->fz b=AF)->(∀p,p∈gl->p.1∉own)->UC P w fz ts y args own->pre y=AD->
   BU P f args.toArray w λev w'=>∃v,ev=.returned v/\Lu P fz w own t e (g y) v w'):Xu P gl f (YG ts t e pre g):=by
 intro fz w r s i args x y k I l a u J m K z;have L:s=[]:=m rfl;subst L;have l:i.Nodup:=l;have a:∀b,b∈i->fz b=none:=a;refine(h fz w i args y k I l a u K z).mono ?_;rintro ev w' ⟨v,rfl,⟨S,T,U,M⟩,V⟩;have A:∀b c,fz b=AC c->b<w.heap.size:=λb c d=>by obtain⟨_,_,h⟩:=k b c d;exact BX h
 have j:DK fz w':=λb c d=>by
  obtain⟨e,fr,h⟩:=k b c d;refine⟨e,fr,?_⟩;rw[M b (A b c d) λB=>by rw[a b B]at d;cases d];exact h
 rcases V with⟨W,q,rfl⟩|⟨b,o,n,c,C,fr,rfl,d,D,X,N,O,Q,E,R⟩
 ·refine⟨[.slice q 0 0],fz,[],[],rfl,λ_ _ h=>h,j,λ_ _ h=>.inl h,List.nodup_nil,(λb (h:b∈([]:AE AB))=>Aq h RS),(λb (h:b∈([]:AE AB))=>Aq h RS),(λ(h:AK=AD)=>z8 h),λ_=>rfl,?_,S,T,U,λb d B=>M b d B⟩;refine⟨_,[],[],[],rfl,rfl,.inr ⟨rfl,⟨0,0,0,t.sz,AK,λ_=>AF,.slice q 0 0⟩,rfl,rfl,⟨rfl,(λb c (h:AF=AC c)=>by cases h),.inl ⟨rfl,W,q,rfl⟩⟩,(λb c (h:AF=AC c)=>by cases h)⟩,rfl,rfl⟩
 ·have F:fz b=none:=by
   rcases d with d|d
   ·exact a b d
   ·cases Y:fz b with
    |none=>rfl
    |some c=>exact Aq (A b c Y) (by omega)
  subst X;refine⟨[.slice (AC ⟨b,o,AF⟩) (g y).length c],fz,[],[b],rfl,λ_ _ h=>h,j,λ_ _ h=>.inl h,?_,(λG (h:G∈[b])=> ?_),(λG (h:G∈[b])=> ?_),(λ(h:AK=AD)=>z8 h),λ_=>rfl,?_,S,T,U,λb d B=>M b d B⟩
  ·show([]++([]++[b])).Nodup;simp
  ·have:G=b:=by simpa using h
   subst this;exact F
  ·have:G=b:=by simpa using h
   subst this;exact d
  ·refine⟨_,[],[b],[],rfl,rfl,.inr ⟨rfl,DD b o (C.size-o) t.sz fz (.slice (AC ⟨b,o,AF⟩) (g y).length c),rfl,rfl,⟨rfl,j,.inr ⟨rfl,λ⟨Z,H⟩=> ?_,c,C,fr,rfl,N,D,?_,?_,E,Q,R⟩⟩,λb c h=>h⟩,rfl,rfl⟩
   ·have H:fz b=AC Z:=H;rw[F]at H;cases H
   ·show o+(C.size-o)=C.size;omega
   ·show c*t.sz<=C.size-o;omega
theorem Om{w:AN}{e:AQ}{ts:AE OT}{y:DX (.vec t e::ts)}{args:AE AJ}{own:AE AB}(h:UC P w fz (.vec t e::ts) y args own):
  ∃(v:AJ) (a:AE AJ) (d g:AE AB),args=v::a/\own=d++g/\UC P w fz ts y.2 a g/\((y.1=[]/\d=[]/\∃q,v=.slice q 0 0)\/∃(b o c:AB) (C:Aa AJ) (fr:AB×AB),d=[b]/\v=.slice (AC ⟨b,o,AF⟩) y.1.length c/\y.1.length<=c/\
   w.heap[b]?=AC (.cells C e fr)/\o+c*t.sz<=C.size/\(∀o,o<C.size+t.slk->¬(fr.1<=o/\o<fr.2))/\(∀i,P.info? e=AC i->t.sz=i.size/\o%i.size=0/\C.size%i.size=0)/\Et fz t y.1 (C.toList.drop o)):=by
 obtain⟨v,a,d,g,rfl,rfl,A,B⟩:=h;refine⟨v,a,d,g,rfl,rfl,B,?_⟩;rcases A with⟨h, -⟩|⟨-,r,l,j,⟨J,K,D⟩,E⟩
 ·cases h
 have l:v=r.sv:=(FP l).1;subst l;rcases D with⟨m,p,q,n⟩|⟨m,p,cap,c,fr,n,F,G,s,u,H,I,f⟩
 ·rw[m]at j;exact .inl ⟨p,j,q,n⟩
 ·rw[m]at j;refine .inr ⟨r.blk,r.base,cap,c,fr,j,n,F,G,?_,I,H,λk x z=>⟨(f k x z).1,Cw.mono E _ _ _ (f k x z).2⟩⟩;have s:r.base+r.room=c.size:=s;have u:cap*t.sz<=r.room:=u;omega
theorem Ma{w:AN}{k:IntKind}{ts:AE OT}{y:DX (.d (.int k)::ts)}{args:AE AJ}{own:AE AB}(h:UC P w fz (.d (.int k)::ts) y args own):
  ∃a,args=.int k y.1::a/\UC P w fz ts y.2 a own:=by
 obtain⟨v,a,e,f,rfl,rfl,b,c⟩:=h;rcases b with⟨h, -⟩|⟨-,rfl,h⟩
 ·cases h
 have h:[v]=[.int k y.1]:=h;exact⟨a,by rw[(FP h).1],c⟩
theorem Lx{w:AN}(j:DK fz w){ts:AE OT}{y:DX (.d (.slice t)::ts)}{args:AE AJ}{own:AE AB}(h:UC P w fz (.d (.slice t)::ts) y args own):
  ∃(v:AJ) (a:AE AJ),args=v::a/\UC P w fz ts y.2 a own/\(((∃q c,v=.slice q 0 c)/\y.1=[])\/∃(b o c:AB) (C:Aa AJ) (e:AQ) (fr:AB×AB),v=.slice (AC ⟨b,o,AF⟩) y.1.length c/\fz b=AC C/\
   w.heap[b]?=AC (.cells C e fr)/\o+y.1.length*t.sz<=C.size/\y.1.length<=c/\Et fz t y.1 (C.toList.drop o)):=by
 obtain⟨v,a,B,D,rfl,rfl,l,m⟩:=h;rcases l with⟨h, -⟩|⟨-,rfl,sv,n,h⟩
 ·cases h
 obtain rfl:v=sv:=(FP n).1;refine⟨v,a,rfl,m,?_⟩;rcases h with⟨⟨q,c,rfl⟩,g⟩|⟨b,o,c,f,rfl,g,p,r,s⟩
 ·exact .inl ⟨⟨q,c,rfl⟩,g⟩
 ·obtain⟨el,fr,u⟩:=j b f g;refine .inr ⟨b,o,c,f,el,fr,rfl,g,u,p,r,λk x i=>⟨?_,?_⟩⟩
  ·have z:=GP i;have A:=Gc t.sz (show k+1<=y.1.length from z);rw[DB,ANa]at A;rw[CC,D0];omega
  ·rw[En];exact s k x i
theorem Ix{w:AN}{y:DX []}{args:AE AJ}{own:AE AB}(h:UC P w fz [] y args own):args=[]/\own=[]:=h
end
end Go.Eng
namespace Nice
abbrev aT:OSpec:=YG [.d (.slice A8)] A8 72 (λy=>AG (y.1.length<=1000000)) (λy=>y.1)
abbrev AHZ:OSpec:=⟨AK,0,.unit,0,[.d (.slice A8)],[.vec A8 72],λ_ _=>AD,λx y=>(x,y.1,())⟩
end Nice
namespace Go.Proofs.YtkgejlchafionaaGreatDoor
open Tryz
open Nice Go.RowKit
def AHa(x:Unit)(y:DX [.d (.slice A8)]):AP (Unit×DX [.vec A8 72]):=yW prog (GF [] []) (AV []) f156 AHZ x y
theorem AHb(l:AE (A8).Den):AHa () (l,())=gd [AG ((2*(0+l.length)+400)*32<=281474976710656),AG (0<l.length)] (AC ((),l,())):=by kernel_rfl
theorem ku:OC 156 ⟨AK,0,.unit,0,[.d (.slice A8)],[.vec A8 72],λ_ y=>AG (0<y.1.length)&&AG (y.1.length<=1000000),λx y=>(x,y.1,())⟩:=
 (AEU (S:=AHZ) (sh:=AV []) (Cb (l:=[]) (o:=[]) trivial trivial) Al func156 (by kernel_rfl) (by decide)).nice λ() ⟨l,()⟩ h=>by
  have h:(AG (0<l.length)&&AG (l.length<=1000000))=true:=h;rw[A0,A6,A6]at h;refine(AHb l).trans ?_;rw[An (by omega),An h.1,xG]
theorem pd(q:AP EG)(c:AB)(w:AN):BU prog 156 #[.slice q 0 c] w λe w'=>(∃l,e=.returned (.slice l 0 0))/\DU w w':=by
 have mixed:Tryz.prog.follows .mixedOrders=true:=by kernel_rfl
 have tS:Tryz.prog.underlying 66=AC (.slice 72):=underlying66;have m:∀(w:AN) (a:AP EG) (n c g h:AB),(binOp .eql 66 (.slice a n c) (.slice AF g h)).run prog w=.ok (.bool a.isNone) w:=λw a n c g h=>sM w _ _ a n c g h tS
 obtain⟨i0,i,k⟩:∃i0:EF,Tryz.prog.info? 72=AC i0/\i0.size=3:=⟨Tryz.t72,by kernel_rfl,by kernel_rfl⟩
 go_enter func156,ntmps156
 cases q with
 |none=>
  go_wp2
  go_ret
  exact⟨⟨_,rfl⟩,Ak _,rfl,rfl,λ_ _=>rfl⟩
 |some a=>
  have d:∀(W:AN) (b ty:AB),(Eo #[66,66] ty #[.slice (AC ⟨b,0,AF⟩) 0 0,.slice (AC a) 0 c]).run prog W=.ok (.slice (AC ⟨b,0,AF⟩) 0 0) W:=λW b ty=>by
   have o:Src prog i0.size 66 (.slice (AC a) 0 c) 0 [] W:=RT W tS a 0 c [] (by rw[k];rfl) (λj u f=>by cases f) (λu p=>by cases p);exact Wv (P:=prog) (w:=W) 66 66 ty 72 i0 tS i b 0 0 0 _ 0 [] o (Ak _) (λj f=>Aq f (Hi _)) (λj f=>Aq f (Hi _))
  go_wp2_with (at_builtin;refine Kz _ rfl _ _ _ _ rfl _ _ rfl rfl _ _ (d _ _ _) ?_)
  go_ret
  exact⟨⟨_,rfl⟩,by show _<=(w.heap.push _).size;rw[I9];omega,rfl,rfl,λb r=>BD w _ r⟩
theorem pe:OC 156 aT:=by
 intro fz w r u z args x y p A B i j k n s a;obtain⟨l,⟨⟩⟩:=y;have a:l.length<=1000000:=BL a;cases l with
 |cons m l=>
  exact ku fz w r u z args x (m::l,()) p A B i j k n s (by show(AG (0<(m::l).length)&&AG ((m::l).length<=1000000))=AD;rw[BK (by simp),BK a];rfl)
 |nil=>
  have h:=Lw (P:=prog) (gl:=IP) (f:=156) (ts:=[.d (.slice A8)]) (t:=A8) (e:=72) (pre:=λy=>AG (y.1.length=0)) (g:=λy=>y.1) λfz w own args y p A B i j s a=>by
   obtain⟨l,⟨⟩⟩:=y;have E:l=[]:=Gu.1 (BL a);subst E;obtain⟨v,D,rfl,F,G⟩:=Lx p s;obtain⟨rfl,rfl⟩:=Ix F;have key:∀q c,v=.slice q 0 c->BU prog 156 #[v] w λev w'=>∃v,ev=.returned v/\Lu prog fz w [] A8 72 [] v w':=λq c e=>by
    subst e;refine(pd q c w).mono ?_;rintro e w' ⟨⟨H,rfl⟩,I,J,K,L⟩;exact⟨_,rfl,⟨I,J,K,λb M _=>L b M⟩,.inl ⟨rfl,H,rfl⟩⟩
   rcases G with⟨⟨q,c,e⟩, -⟩|⟨b,o,c,C,e,fr,N, -⟩
   ·exact key q c e
   ·exact key _ c N
  exact h fz w r u z args x ([],()) p A B i j k n s rfl
end Go.Proofs.YtkgejlchafionaaGreatDoor
namespace Nice
abbrev pg:OSpec:=YG [.vec A8 72,.d IT,.d IT] A8 72 (λy=>AG (0<=y.2.1)&&(AG (y.2.1.toNat<y.1.length)&&(AG (y.2.2.1=y.2.1+1)&&AG (y.1.length<=1000000)))) (λy=>y.1.take y.2.1.toNat++y.1.drop (y.2.1.toNat+1))
end Nice
namespace Go.Proofs.YtkgejlchafionaaGreatDoor
open Tryz
open Nice
theorem ph{fz:AB->AP (Aa AJ)}{w:AN}{own:AE AB}{args:AE AJ}(a:AE (A8).Den)(i j:AA)(_:DK fz w)(Q:∀b,b∈own->fz b=AF)(F:UC prog w fz [.vec A8 72,.d IT,.d IT] (a,i,j,()) args own)(hi0:0<=i)(p:i.toNat<a.length)(G:j=i+1)(Z:a.length<=1000000):
  BU prog 197 args.toArray w λev w'=>∃v,ev=.returned v/\Lu prog fz w own A8 72 (a.take i.toNat++a.drop (i.toNat+1)) v w':=by
 have r:∀i,Tryz.prog.info? 72=AC i->i.size=3:=λi P=>by
  have h:Tryz.prog.info? 72=AC Tryz.t72:=by kernel_rfl
  rw[h]at P;cases P;rfl
 obtain⟨n,rfl⟩:∃n:AB,i=(n:AA):=⟨i.toNat,by omega⟩
 subst G;have p:n<a.length:=p;obtain⟨v,rest,o1,o2,rfl,rfl,H,R⟩:=Om F;obtain⟨S,rfl,I⟩:=Ma H;obtain⟨T,rfl,J⟩:=Ma I;obtain⟨rfl,rfl⟩:=Ix J;clear F H I J;rcases R with⟨h, -⟩|⟨b,o,c,C,fr,rfl,rfl,A,g,s,K,L,f⟩
 ·have h:a=[]:=h;rw[h]at p;simp at p
 have A:a.length<=c:=A;have g:w.heap[b]?=AC (.cells C 72 fr):=g;have s:o+c*3<=C.size:=s;have Ni:∀o,o<C.size->¬(fr.1<=o/\o<fr.2):=λo h=>K o (M1 _ h)
 have hb:=BX g;obtain⟨l,B⟩:∃l,l=(C.toList.drop o).take (a.length*3):=⟨_,rfl⟩
 have U:C.toList.length=C.size:=D0;have m:l.length=a.length*3:=by rw[B,Bw,CC,U];omega
 have f:Et fz A8 a (C.toList.drop o):=f;have f:Et fz A8 a l:=by
  refine Et.congr f (by show a.length*3<=_;rw[m];exact Ak _) λk D=> ?_
  have D:k<a.length*3:=D;rw[B,CB,Ae D]
 have t:∀(j:AB),j<a.length*3->l[j]?=C[o+j]?:=λj G=>by
  rw[B,CB,Ae G,CA,Bf]
 have V:∀j u,l[j]?=AC u->w.cell? ⟨b,o+j,AF⟩=AC u:=λj u W=>by
  have G:=GP W;rw[t j (by omega)]at W;simp only[C0,g,Df,CI,BR];exact W
 have X:∀v∈l,v.oneCell'=true:=λv R=>KS (J9 f (by rw[m];rfl) v R)
 have M:∀j,j<a.length*3->w.frozen? ⟨b,o+j,AF⟩=false:=λj G=>by
  have:=Ni (o+j) (by omega);simp only[Wx,g];simpa using this
 have hall:Et fz A8 (a.take n++a.drop (n+1)) (l.take (n*3)++l.drop ((n+1)*3)):=
  Et.app (Et.take f n (by omega) (by rw[m];exact Ak _)) (by rw[Bw,Bw,m,MH (show n<=a.length by omega)];show min (n*3) (a.length*3)=n*3;omega) (Et.drop f (n+1))
 have y:(a.take n++a.drop (n+1)).length=a.length-1:=by rw[BA,Bw,CC];omega
 have z:o%3=0/\C.size%3=0:=by
  have h:Tryz.prog.info? 72=AC Tryz.t72:=by kernel_rfl
  have:=L _ h;rw[r _ h]at this;exact this.2
 refine(ou b o a.length c n l w m X V M A p (by omega)).mono ?_;rintro ev w' ⟨rfl,q,rfl⟩;have N:(l.drop ((n+1)*3)).length=(a.length-(n+1))*3:=by rw[CC,m];omega
 have Y:(Ch #[.int .i64 0,.bool AK,.string ⟨#[]⟩] 1).toList.length=3:=by rw[D0,BC];rfl
 have E:(w.drewN q).heap[b]?=AC (.cells C 72 fr):=g;rw[Bs b 72 fr _ (o+n*3) C (w.drewN q) E,Bs b 72 fr _ (o+(a.length-1)*3) (Cp C (o+n*3) (l.drop ((n+1)*3))) _ (Ig hb)];refine⟨_,rfl,⟨by show _<=((w.heap.setIfInBounds _ _).setIfInBounds _ _).size;rw[GK,GK];exact Ak _,rfl,rfl,λx _ hm=>(FG (λe=>hm (by subst e;simp))).trans (FG (λe=>hm (by subst e;simp)))⟩,.inr ⟨b,o,_,c,Cp (Cp C (o+n*3) (l.drop ((n+1)*3))) (o+(a.length-1)*3) (Ch #[.int .i64 0,.bool AK,.string ⟨#[]⟩] 1).toList,fr,rfl,.inl (by simp),Ig (by rw[GK];exact hb),y.symm,by omega,by rw[Ad,Ad];exact s,by rw[Ad,Ad];exact K,λi P=> ?_,?_⟩⟩
 ·rw[r i P,Ad,Ad];exact⟨rfl,z.1,z.2⟩
 ·refine hall.congr ?_ λk D=> ?_
  ·rw[y];show(a.length-1)*3<=_;have O:(Cp (Cp C (o+n*3) (l.drop ((n+1)*3))) (o+(a.length-1)*3) (Ch #[.int .i64 0,.bool AK,.string ⟨#[]⟩] 1).toList).toList.length=C.size:=by rw[D0,Ad,Ad]
   rw[CC,O];omega
  ·rw[y]at D;have D:k<(a.length-1)*3:=D;have l1:(l.take (n*3)).length=n*3:=by rw[Bw,m];omega
   rw[CA,Bf,DL _ _ _ _ (by rw[Ad,Y];omega),AY (by omega),DL _ _ _ _ (by rw[N];omega),N];by_cases h1:k<n*3
   ·rw[AY (by omega),EE (by omega),CB,Ae h1,t k (by omega)]
   ·rw[Ae (by omega),Fw (by omega),l1];congr 1;omega
theorem ADW:OC 197 pg:=Lw λfz w own args y c f g b e d a=>by
 obtain⟨h,i,j,⟨⟩⟩:=y;simp only[A0,A6]at a;exact ph h i j c b d a.1 a.2.1 a.2.2.1 a.2.2.2
end Go.Proofs.YtkgejlchafionaaGreatDoor
namespace Nice
abbrev AOO:OSpec:=YG [.vec AW 68,.d IT,.d (.slice AW)] AW 68 (λy=>AG (0<=y.2.1)&&(AG (y.2.1.toNat<=y.1.length)&&(AG (y.2.2.1.length=1)&&AG (y.1.length<=1000000)))) (λy=>y.1.take y.2.1.toNat++(y.2.2.1++y.1.drop y.2.1.toNat))
end Nice
namespace Go.Proofs.YtkgejlchafionaaGreatDoor
open Tryz
open Nice
theorem pj{fz:AB->AP (Aa AJ)}{w:AN}{own:AE AB}{args:AE AJ}(g:AE (AW).Den)(i:AA)(vs:AE (AW).Den)(hfz:DK fz w)(hnone:∀b,b∈own->fz b=AF)(hrd:UC prog w fz [.vec AW 68,.d IT,.d (.slice AW)] (g,i,vs,()) args own)(hi0:0<=i)(M:i.toNat<=g.length)(s:vs.length=1)(hbig:g.length<=1000000):
  BU prog 110 args.toArray w λev w'=>∃v,ev=.returned v/\Lu prog fz w own AW 68 (g.take i.toNat++(vs++g.drop i.toNat)) v w':=by
 have B:∀i,Tryz.prog.info? 68=AC i->i.size=2:=λi hi=>by
  have h:Tryz.prog.info? 68=AC Tryz.t68:=by kernel_rfl
  rw[h]at hi;cases hi;rfl
 obtain⟨n,rfl⟩:∃n:AB,i=(n:AA):=⟨i.toNat,by omega⟩
 have M:n<=g.length:=M;obtain⟨v,rest,o1,o2,rfl,rfl,hr2,hv⟩:=Om hrd;obtain⟨rest2,rfl,hr3⟩:=Ma hr2;obtain⟨v3,rest3,rfl,hr4,hv3⟩:=Lx hfz hr3;obtain⟨rfl,rfl⟩:=Ix hr4;clear hrd hr2 hr3 hr4;have hlt:∀b c,fz b=AC c->b<w.heap.size:=λb c hb=>by obtain⟨_,_,h⟩:=hfz b c hb;exact BX h
 rcases hv3 with⟨-,h⟩|⟨N,X,vc,VC,ve,vfr,rfl,hvf,D,I,hvc,O⟩
 ·have h:vs=[]:=h;rw[h]at s;simp at s
 have D:w.heap[N]?=AC (.cells VC ve vfr):=D;have O:Et fz AW vs (VC.toList.drop X):=O;have I:X+vs.length*2<=VC.size:=I;rw[s]at I;show BU prog 110 #[v,.int .i64 n,.slice (AC ⟨N,X,AF⟩) vs.length vc] w _;rw[s];obtain⟨us,hus⟩:∃us,us=(VC.toList.drop X).take 2:=⟨_,rfl⟩
 have f:us.length=2:=by rw[hus,Bw,CC,D0];omega
 have P:Et fz AW vs us:=by
  have:=Et.take O 1 (by rw[s];omega) (by show vs.length*2<=_;rw[s,CC,D0];omega);rw[GB (by rw[s];omega)]at this;rw[hus];exact this
 have p:∀j u,us[j]?=AC u->w.cell? ⟨N,X+j,AF⟩=AC u:=λj u L=>by
  rw[hus,CB]at L
  split at L
  ·rw[CA,Bf]at L;simp only[C0,D,Df,CI,BR];exact L
  ·cases L
 have Q:∀v∈us,v.oneCell'=true:=λv hv=>KS (J9 P (by rw[f,s];rfl) v hv)
 have hvb:=hlt N VC hvf;rcases hv with⟨rfl,rfl,q,rfl⟩|⟨b,o,c,C,fr,rfl,rfl,Z,r,K,hfr,hdiv,y⟩
 ·
  obtain rfl:n=0:=by have:n<=0:=M;omega
  refine(Of q 0 0 N X vc [] us w (Ak _) (by omega) (by omega) rfl f (λ_=>rfl) (λa ha j v hv=>by cases hv) p Q).mono ?_;rintro ev w' ⟨rfl,rfl⟩;refine⟨_,rfl,⟨?_,rfl,rfl,λb hb _=>BD w _ hb⟩,.inr ⟨w.heap.size,0,_,_,_,(0,0),rfl,.inr (Ak _),BN w _,?_,?_,?_,λo _ h=> ?_,λi hi=> ?_,?_⟩⟩
  ·show _<=(w.heap.push _).size;rw[I9];omega
  ·show 0+1=((([]:AE (AW).Den).take 0)++(vs++([]:AE (AW).Den).drop 0)).length;simp[s]
  ·exact ML w _ _ _
  ·have e2:(#[.string ⟨#[]⟩,.slice AF 0 0]:Aa AJ).size=2:=rfl;have hg:=ML w (0+1) 0 68;show 0+Dp w (0+1) 0 68*2<=_;rw[ANM,BC,e2,DN,Hx,f];omega
  ·exact Aq h.2 (Hi _)
  ·have e2:(#[.string ⟨#[]⟩,.slice AF 0 0]:Aa AJ).size=2:=rfl;refine⟨(B i hi).symm,MF _,?_⟩;rw[B i hi,ANM,BC,e2,DN,Hx,f];omega
  ·show Et fz AW ([]++(vs++[])) _;rw[DN,Ce];refine P.congr ?_ λk H=> ?_
   ·show vs.length*2<=_;simp[s,f]
   ·have H:k<vs.length*2:=H;rw[s]at H;rw[Do,Kv,DN,EE (by simpa using by omega)]
 ·have Z:g.length<=c:=Z;have r:w.heap[b]?=AC (.cells C 68 fr):=r;have K:o+c*2<=C.size:=K;have Ni:∀o,o<C.size->¬(fr.1<=o/\o<fr.2):=λo h=>hfr o (M1 _ h)
  have hb:=BX r;have hvbne:N≠b:=λe=>by
   have:=hnone b (by simp);rw[<-e,hvf]at this;cases this
  obtain⟨t,hcs⟩:∃t,t=(C.toList.drop o).take (g.length*2):=⟨_,rfl⟩
  have hCl:C.toList.length=C.size:=D0;have m:t.length=g.length*2:=by rw[hcs,Bw,CC,hCl];omega
  have y:Et fz AW g (C.toList.drop o):=y;have y:Et fz AW g t:=by
   refine Et.congr y (by show g.length*2<=_;rw[m];exact Ak _) λk H=> ?_
   have H:k<g.length*2:=H;rw[hcs,CB,Ae H]
  have J:∀(j:AB),j<g.length*2->t[j]?=C[o+j]?:=λj Y=>by
   rw[hcs,CB,Ae Y,CA,Bf]
  have R:∀(j:AB) (u:AJ),C[j]?=AC u->w.cell? ⟨b,j,AF⟩=AC u:=λj u L=>by
   simp only[C0,r,Df,CI,BR];exact L
  have hcc:∀j u,t[j]?=AC u->w.cell? ⟨b,o+j,AF⟩=AC u:=λj u L=>by
   have Y:=GP L;rw[J j (by omega)]at L;exact R _ _ L
  have hc1:∀v∈t,v.oneCell'=true:=λv hv=>KS (J9 y (by rw[m];rfl) v hv)
  have S:∀j,o+j<C.size->(w.cell? ⟨b,o+j,AF⟩).isSome=true:=λj Y=>by
   rw[R _ _ (CX Y)];rfl
  have hfrz:∀j,j<C.size->w.frozen? ⟨b,j,AF⟩=false:=λj Y=>by
   have:=Ni j Y;simp only[Wx,r];simpa using this
  have hshb:w.shape? b=AC (68,C.size):=by simp only[Uk,r]
  have hshv:w.shape? N=AC (ve,VC.size):=by simp only[Uk,D]
  have hfe:w.frozen? ⟨b,C.size,AF⟩=false:=by
   have:=hfr C.size (by show C.size<C.size+1;omega);simp only[Wx,r];simpa using this
  have hall:Et fz AW (g.take n++(vs++g.drop n)) (t.take (n*2)++(us++t.drop (n*2))):=
   Et.app (Et.take y n M (by rw[m];exact Ak _)) (by rw[Bw,Bw,m,MH M];show min (n*2) (g.length*2)=n*2;omega) (Et.app P (by rw[f,s];rfl) (Et.drop y n))
  have T:(g.take n++(vs++g.drop n)).length=g.length+1:=by
   rw[BA,BA,Bw,CC,s];omega
  have U:∀k,(t.take (n*2)++(us++t.drop (n*2)))[k]?=if k<n*2 then t[k]? else if k<(n+1)*2 then us[k-n*2]? else t[k-2]?:=λk=>by
   have l1:(t.take (n*2)).length=n*2:=by rw[Bw,m];omega
   by_cases F:k<n*2
   ·rw[Ae F,EE (by omega),CB,Ae F]
   ·rw[AY F,Fw (by omega),l1];by_cases h2:k<(n+1)*2
    ·rw[Ae h2,EE (by omega)]
    ·rw[AY h2,Fw (by omega),f,CA];congr 1;omega
  have fin:∀(w':AN) (b' o' c':AB) (C':Aa AJ) (fr':AB×AB),(w.heap.size<=w'.heap.size/\w'.os=w.os/\w'.output=w.output/\∀x,x<w.heap.size->x≠b->w'.heap[x]?=w.heap[x]?)->(b'=b\/w.heap.size<=b')->w'.heap[b']?=AC (.cells C' 68 fr')->
    g.length+1<=c'->o'+c'*2<=C'.size->(∀o,o<C'.size+1->¬(fr'.1<=o/\o<fr'.2))->o'%2=0->C'.size%2=0->(∀k,k<(g.length+1)*2->C'[o'+k]?=if k<n*2 then t[k]? else if k<(n+1)*2 then us[k-n*2]? else t[k-2]?)->
    ∃v,O6 (.slice (AC ⟨b',o',AF⟩) (g.length+1) c')=.returned v/\Lu prog fz w ([b]++[]) AW 68 (g.take n++(vs++g.drop n)) v w':=λw' b' o' c' C' fr' hs hb' hrow' hc' hfit' hfr' ho' hC' hget=>by
   refine⟨_,rfl,⟨hs.1,hs.2.1,hs.2.2.1,λx hx hm=>hs.2.2.2 x hx λe=>hm (by subst e;simp)⟩,.inr ⟨b',o',_,c',C',fr',rfl,?_,hrow',T.symm,hc',hfit',hfr',λi hi=> ?_,?_⟩⟩
   ·rcases hb' with rfl|h
    ·exact .inl (by simp)
    ·exact .inr h
   ·rw[B i hi];exact⟨rfl,ho',hC'⟩
   ·refine hall.congr ?_ λk H=> ?_
    ·rw[T];show(g.length+1)*2<=_;have hCl':C'.toList.length=C'.size:=D0;rw[CC,hCl'];omega
    ·rw[T]at H;rw[CA,Bf,U];exact hget k H
  have E:o%2=0/\C.size%2=0:=by
   have h:Tryz.prog.info? 68=AC Tryz.t68:=by kernel_rfl
   have:=hdiv _ h;rw[B _ h]at this;exact this.2
  have gs:∀(o1:AB) (l:AE AJ) (A:Aa AJ) (k:AB),o1+l.length<=A.size->(Cp A o1 l)[k]?=if o1<=k/\k<o1+l.length then l[k-o1]? else A[k]?:=λo1 l A k H=>DL _ _ _ _ H
  by_cases hend:n=g.length
  ·subst hend;by_cases z:g.length+1<=c
   ·
    refine(X4 b o g.length c N X vc us w z f (λj Y=>by rw[Dg];exact S _ (by omega)) (λj Y=>hfrz _ (by omega)) p Q).mono ?_;rintro ev w' ⟨rfl,rfl⟩;rw[Bs b 68 fr us (o+g.length*2) C w r];refine fin _ b o c (Cp C (o+g.length*2) us) fr ⟨by show _<=(w.heap.setIfInBounds _ _).size;rw[GK];exact Ak _,rfl,rfl,λx _ hne=>FG (ES hne)⟩ (.inl rfl) (Ig hb) z (by rw[Ad];exact K) (by rw[Ad];exact hfr) E.1 (by rw[Ad];exact E.2) λk H=> ?_
    rw[gs _ _ _ _ (by rw[f];omega),f];by_cases F:k<g.length*2
    ·rw[AY (by omega),Ae F,J k F]
    ·rw[Ae (by omega),AY F,Ae (by omega)];congr 1;omega
   ·
    refine(Of (AC ⟨b,o,AF⟩) g.length c N X vc t us w Z (by omega) (by omega) m f (λh=>by cases h) (λa ha j u L=>by cases ha;rw[Ge];exact hcc j u L) p Q).mono ?_;rintro ev w' ⟨rfl,rfl⟩;have e2:(#[.string ⟨#[]⟩,.slice AF 0 0]:Aa AJ).size=2:=rfl;have hg:=ML w (g.length+1) c 68
    have hCs:((t++us).toArray++Ch #[.string ⟨#[]⟩,.slice AF 0 0] (Dp w (g.length+1) c 68-(g.length+1))).size=Dp w (g.length+1) c 68*2:=by
     rw[ANM,BC,e2,Hx,BA,m,f];omega
    refine fin _ w.heap.size 0 (Dp w (g.length+1) c 68) _ (0,0) ⟨by show _<=(w.heap.push _).size;rw[I9];omega,rfl,rfl,λx hx _=>BD w _ hx⟩ (.inr (Ak _)) (BN w _) hg (by rw[hCs];omega) (λo _ h=>Aq h.2 (Hi _)) (MF _) (by rw[hCs];exact MC _ _) λk H=> ?_
    rw[CJ,<-Bf,Kv,EE (by simp only[BA,m,f];omega)];by_cases F:k<g.length*2
    ·rw[Ae F,EE (by omega)]
    ·rw[AY F,Ae (by omega),Fw (by omega),m]
  ·have hlt':n<g.length:=by omega
   by_cases z:g.length+1<=c
   ·
    refine(ANj b o g.length c n N X vc t us w hlt' z (by omega) hvbne m f hcc (λj Y=>S _ (by omega)) (λj Y=>hfrz _ (by omega)) p hc1 Q ve 68 VC.size C.size hshv (by omega) hshb (by omega) hfe).mono ?_;rintro ev w' ⟨rfl,q,rfl⟩;have V:(t.drop (n*2)).length=(g.length-n)*2:=by rw[CC,m];omega
    have hrowq:(w.drewN q).heap[b]?=AC (.cells C 68 fr):=r;rw[Bs b 68 fr _ (o+(n+1)*2) C (w.drewN q) hrowq,Bs b 68 fr us (o+n*2) (Cp C (o+(n+1)*2) (t.drop (n*2))) _ (Ig hb)];refine fin _ b o c (Cp (Cp C (o+(n+1)*2) (t.drop (n*2))) (o+n*2) us) fr ⟨by show _<=((w.heap.setIfInBounds _ _).setIfInBounds _ _).size;rw[GK,GK];exact Ak _,rfl,rfl,λx _ hne=>(FG (ES hne)).trans (FG (ES hne))⟩ (.inl rfl) (Ig (by rw[GK];exact hb)) z (by rw[Ad,Ad];exact K) (by rw[Ad,Ad];exact hfr) E.1 (by rw[Ad,Ad];exact E.2) λk H=> ?_
    rw[gs _ _ _ _ (by rw[Ad,f];omega),gs _ _ _ _ (by rw[V];omega),f,V];by_cases F:k<n*2
    ·rw[AY (by omega),AY (by omega),Ae F,J k (by omega)]
    ·rw[AY F];by_cases h2:k<(n+1)*2
     ·rw[Ae (by omega),Ae h2];congr 1;omega
     ·rw[AY (by omega),Ae (by omega),AY h2,CA];congr 1;omega
   ·
    refine(kl b o g.length c n N X vc t us w hlt' Z (by omega) (by omega) m f hb hvb hcc p hc1 Q).mono ?_;rintro ev w' ⟨rfl,rfl⟩;have e2:(#[.string ⟨#[]⟩,.slice AF 0 0]:Aa AJ).size=2:=rfl;have hg:=ML w (g.length+1) c 68;obtain⟨G,hG⟩:∃G,G=Dp w (g.length+1) c 68:=⟨_,rfl⟩
    rw[<-hG]at hg⊢;obtain⟨ROW,W⟩:∃ROW:Aa AJ,ROW=(t.take (n*2)).toArray++Ch #[.string ⟨#[]⟩,.slice AF 0 0] (g.length+1-n)++Ch #[.string ⟨#[]⟩,.slice AF 0 0] (G-(g.length+1)):=⟨_,rfl⟩
    have hRs:ROW.size=G*2:=by
     rw[W,ANM,ANM,BC,BC,e2,Hx,Bw,m];omega
    have V:(t.drop (n*2)).length=(g.length-n)*2:=by rw[CC,m];omega
    rw[<-W];have r1:((w.alloc (.cells ROW 68)).drew).heap[w.heap.size]?=AC (.cells ROW 68 (0,0)):=BN w _;have hsz:w.heap.size<(w.heap.push (.cells ROW 68)).size:=by rw[I9];omega
    rw[Bs w.heap.size 68 (0,0) us (n*2) ROW _ r1];rw[Bs w.heap.size 68 (0,0) (t.drop (n*2)) ((n+1)*2) (Cp ROW (n*2) us) _ (Ig hsz)];refine fin _ w.heap.size 0 G (Cp (Cp ROW (n*2) us) ((n+1)*2) (t.drop (n*2))) (0,0) ⟨by show _<=(((w.heap.push _).setIfInBounds _ _).setIfInBounds _ _).size;rw[GK,GK,I9];omega,rfl,rfl,λx hx _=>(FG (by omega)).trans ((FG (by omega)).trans (BD w _ hx))⟩ (.inr (Ak _)) (Ig (by show _<((w.heap.push _).setIfInBounds _ _).size;rw[GK];exact hsz)) hg (by rw[Ad,Ad,hRs];omega) (λo _ h=>Aq h.2 (Hi _)) (MF _) (by rw[Ad,Ad,hRs];exact MC _ _) λk H=> ?_
    rw[CJ,gs _ _ _ _ (by rw[Ad,hRs,V];omega),gs _ _ _ _ (by rw[hRs,f];omega),f,V];by_cases F:k<n*2
    ·rw[AY (by omega),AY (by omega),Ae F,W,<-Bf,Kv,Kv,C9,EE (by rw[Bw,m];omega),CB,Ae F]
    ·rw[AY F];by_cases h2:k<(n+1)*2
     ·rw[AY (by omega),Ae (by omega),Ae h2]
     ·rw[Ae (by omega),AY h2,CA];congr 1;omega
theorem ADX:OC 110 AOO:=Lw λfz w own args y c f g b e d a=>by
 obtain⟨h,i,vs,⟨⟩⟩:=y;simp only[A0,A6]at a;exact pj h i vs c b d a.1 a.2.1 a.2.2.1 a.2.2.2
end Go.Proofs.YtkgejlchafionaaGreatDoor
namespace Nice
abbrev aU:OSpec:=YG [.d (.slice AW)] AW 68 (λy=>AG (y.1.length<=1000000)) (λy=>y.1)
abbrev AHc:OSpec:=⟨AK,0,.unit,0,[.d (.slice AW)],[.vec AW 68],λ_ _=>AD,λx y=>(x,y.1,())⟩
end Nice
namespace Go.Proofs.YtkgejlchafionaaGreatDoor
open Tryz
open Nice Go.RowKit
def AHd(x:Unit)(y:DX [.d (.slice AW)]):AP (Unit×DX [.vec AW 68]):=yW prog (GF [] []) (AV []) f109 AHc x y
theorem AHe(l:AE (AW).Den):AHd () (l,())=gd [AG ((2*(0+l.length)+400)*40<=281474976710656),AG (0<l.length)] (AC ((),l,())):=by kernel_rfl
theorem kv:OC 109 ⟨AK,0,.unit,0,[.d (.slice AW)],[.vec AW 68],λ_ y=>AG (0<y.1.length)&&AG (y.1.length<=1000000),λx y=>(x,y.1,())⟩:=
 (AEU (S:=AHc) (sh:=AV []) (Cb (l:=[]) (o:=[]) trivial trivial) Al func109 (by kernel_rfl) (by decide)).nice λ() ⟨l,()⟩ h=>by
  have h:(AG (0<l.length)&&AG (l.length<=1000000))=true:=h;rw[A0,A6,A6]at h;refine(AHe l).trans ?_;rw[An (by omega),An h.1,xG]
theorem pk(q:AP EG)(c:AB)(w:AN):BU prog 109 #[.slice q 0 c] w λe w'=>(∃l,e=.returned (.slice l 0 0))/\DU w w':=by
 have mixed:Tryz.prog.follows .mixedOrders=true:=by kernel_rfl
 have tS:Tryz.prog.underlying 24=AC (.slice 68):=underlying24;have m:∀(w:AN) (a:AP EG) (n c g h:AB),(binOp .eql 24 (.slice a n c) (.slice AF g h)).run prog w=.ok (.bool a.isNone) w:=λw a n c g h=>sM w _ _ a n c g h tS
 obtain⟨i0,i,k⟩:∃i0:EF,Tryz.prog.info? 68=AC i0/\i0.size=2:=⟨Tryz.t68,by kernel_rfl,by kernel_rfl⟩
 go_enter func109,ntmps109
 cases q with
 |none=>
  go_wp2
  go_ret
  exact⟨⟨_,rfl⟩,Ak _,rfl,rfl,λ_ _=>rfl⟩
 |some a=>
  have d:∀(W:AN) (b ty:AB),(Eo #[24,24] ty #[.slice (AC ⟨b,0,AF⟩) 0 0,.slice (AC a) 0 c]).run prog W=.ok (.slice (AC ⟨b,0,AF⟩) 0 0) W:=λW b ty=>by
   have o:Src prog i0.size 24 (.slice (AC a) 0 c) 0 [] W:=RT W tS a 0 c [] (by rw[k];rfl) (λj u f=>by cases f) (λu p=>by cases p);exact Wv (P:=prog) (w:=W) 24 24 ty 68 i0 tS i b 0 0 0 _ 0 [] o (Ak _) (λj f=>Aq f (Hi _)) (λj f=>Aq f (Hi _))
  go_wp2_with (at_builtin;refine Kz _ rfl _ _ _ _ rfl _ _ rfl rfl _ _ (d _ _ _) ?_)
  go_ret
  exact⟨⟨_,rfl⟩,by show _<=(w.heap.push _).size;rw[I9];omega,rfl,rfl,λb r=>BD w _ r⟩
theorem AOP:OC 109 aU:=by
 intro fz w r u z args x y p A B i j k n s a;obtain⟨l,⟨⟩⟩:=y;have a:l.length<=1000000:=BL a;cases l with
 |cons m l=>
  exact kv fz w r u z args x (m::l,()) p A B i j k n s (by show(AG (0<(m::l).length)&&AG ((m::l).length<=1000000))=AD;rw[BK (by simp),BK a];rfl)
 |nil=>
  have h:=Lw (P:=prog) (gl:=IP) (f:=109) (ts:=[.d (.slice AW)]) (t:=AW) (e:=68) (pre:=λy=>AG (y.1.length=0)) (g:=λy=>y.1) λfz w own args y p A B i j s a=>by
   obtain⟨l,⟨⟩⟩:=y;have E:l=[]:=Gu.1 (BL a);subst E;obtain⟨v,D,rfl,F,G⟩:=Lx p s;obtain⟨rfl,rfl⟩:=Ix F;have key:∀q c,v=.slice q 0 c->BU prog 109 #[v] w λev w'=>∃v,ev=.returned v/\Lu prog fz w [] AW 68 [] v w':=λq c e=>by
    subst e;refine(pk q c w).mono ?_;rintro e w' ⟨⟨H,rfl⟩,I,J,K,L⟩;exact⟨_,rfl,⟨I,J,K,λb M _=>L b M⟩,.inl ⟨rfl,H,rfl⟩⟩
   rcases G with⟨⟨q,c,e⟩, -⟩|⟨b,o,c,C,e,fr,N, -⟩
   ·exact key q c e
   ·exact key _ c N
  exact h fz w r u z args x ([],()) p A B i j k n s rfl
end Go.Proofs.YtkgejlchafionaaGreatDoor
namespace Nice
abbrev AOQ:OSpec:=YG [.vec AW 68,.d IT,.d IT] AW 68 (λy=>AG (0<=y.2.1)&&(AG (y.2.1.toNat<y.1.length)&&(AG (y.2.2.1=y.2.1+1)&&AG (y.1.length<=1000000)))) (λy=>y.1.take y.2.1.toNat++y.1.drop (y.2.1.toNat+1))
end Nice
namespace Go.Proofs.YtkgejlchafionaaGreatDoor
open Tryz
open Nice
theorem pn{fz:AB->AP (Aa AJ)}{w:AN}{own:AE AB}{args:AE AJ}(a:AE (AW).Den)(i j:AA)(_:DK fz w)(Q:∀b,b∈own->fz b=AF)(F:UC prog w fz [.vec AW 68,.d IT,.d IT] (a,i,j,()) args own)(hi0:0<=i)(p:i.toNat<a.length)(G:j=i+1)(Z:a.length<=1000000):
  BU prog 155 args.toArray w λev w'=>∃v,ev=.returned v/\Lu prog fz w own AW 68 (a.take i.toNat++a.drop (i.toNat+1)) v w':=by
 have r:∀i,Tryz.prog.info? 68=AC i->i.size=2:=λi P=>by
  have h:Tryz.prog.info? 68=AC Tryz.t68:=by kernel_rfl
  rw[h]at P;cases P;rfl
 obtain⟨n,rfl⟩:∃n:AB,i=(n:AA):=⟨i.toNat,by omega⟩
 subst G;have p:n<a.length:=p;obtain⟨v,rest,o1,o2,rfl,rfl,H,R⟩:=Om F;obtain⟨S,rfl,I⟩:=Ma H;obtain⟨T,rfl,J⟩:=Ma I;obtain⟨rfl,rfl⟩:=Ix J;clear F H I J;rcases R with⟨h, -⟩|⟨b,o,c,C,fr,rfl,rfl,A,g,s,K,L,f⟩
 ·have h:a=[]:=h;rw[h]at p;simp at p
 have A:a.length<=c:=A;have g:w.heap[b]?=AC (.cells C 68 fr):=g;have s:o+c*2<=C.size:=s;have Ni:∀o,o<C.size->¬(fr.1<=o/\o<fr.2):=λo h=>K o (M1 _ h)
 have hb:=BX g;obtain⟨l,B⟩:∃l,l=(C.toList.drop o).take (a.length*2):=⟨_,rfl⟩
 have U:C.toList.length=C.size:=D0;have m:l.length=a.length*2:=by rw[B,Bw,CC,U];omega
 have f:Et fz AW a (C.toList.drop o):=f;have f:Et fz AW a l:=by
  refine Et.congr f (by show a.length*2<=_;rw[m];exact Ak _) λk D=> ?_
  have D:k<a.length*2:=D;rw[B,CB,Ae D]
 have t:∀(j:AB),j<a.length*2->l[j]?=C[o+j]?:=λj G=>by
  rw[B,CB,Ae G,CA,Bf]
 have V:∀j u,l[j]?=AC u->w.cell? ⟨b,o+j,AF⟩=AC u:=λj u W=>by
  have G:=GP W;rw[t j (by omega)]at W;simp only[C0,g,Df,CI,BR];exact W
 have X:∀v∈l,v.oneCell'=true:=λv R=>KS (J9 f (by rw[m];rfl) v R)
 have M:∀j,j<a.length*2->w.frozen? ⟨b,o+j,AF⟩=false:=λj G=>by
  have:=Ni (o+j) (by omega);simp only[Wx,g];simpa using this
 have hall:Et fz AW (a.take n++a.drop (n+1)) (l.take (n*2)++l.drop ((n+1)*2)):=
  Et.app (Et.take f n (by omega) (by rw[m];exact Ak _)) (by rw[Bw,Bw,m,MH (show n<=a.length by omega)];show min (n*2) (a.length*2)=n*2;omega) (Et.drop f (n+1))
 have y:(a.take n++a.drop (n+1)).length=a.length-1:=by rw[BA,Bw,CC];omega
 have z:o%2=0/\C.size%2=0:=by
  have h:Tryz.prog.info? 68=AC Tryz.t68:=by kernel_rfl
  have:=L _ h;rw[r _ h]at this;exact this.2
 refine(ov b o a.length c n l w m X V M A p (by omega)).mono ?_;rintro ev w' ⟨rfl,q,rfl⟩;have N:(l.drop ((n+1)*2)).length=(a.length-(n+1))*2:=by rw[CC,m];omega
 have Y:(Ch #[.string ⟨#[]⟩,.slice AF 0 0] 1).toList.length=2:=by rw[D0,BC];rfl
 have E:(w.drewN q).heap[b]?=AC (.cells C 68 fr):=g;rw[Bs b 68 fr _ (o+n*2) C (w.drewN q) E,Bs b 68 fr _ (o+(a.length-1)*2) (Cp C (o+n*2) (l.drop ((n+1)*2))) _ (Ig hb)];refine⟨_,rfl,⟨by show _<=((w.heap.setIfInBounds _ _).setIfInBounds _ _).size;rw[GK,GK];exact Ak _,rfl,rfl,λx _ hm=>(FG (λe=>hm (by subst e;simp))).trans (FG (λe=>hm (by subst e;simp)))⟩,.inr ⟨b,o,_,c,Cp (Cp C (o+n*2) (l.drop ((n+1)*2))) (o+(a.length-1)*2) (Ch #[.string ⟨#[]⟩,.slice AF 0 0] 1).toList,fr,rfl,.inl (by simp),Ig (by rw[GK];exact hb),y.symm,by omega,by rw[Ad,Ad];exact s,by rw[Ad,Ad];exact K,λi P=> ?_,?_⟩⟩
 ·rw[r i P,Ad,Ad];exact⟨rfl,z.1,z.2⟩
 ·refine hall.congr ?_ λk D=> ?_
  ·rw[y];show(a.length-1)*2<=_;have O:(Cp (Cp C (o+n*2) (l.drop ((n+1)*2))) (o+(a.length-1)*2) (Ch #[.string ⟨#[]⟩,.slice AF 0 0] 1).toList).toList.length=C.size:=by rw[D0,Ad,Ad]
   rw[CC,O];omega
  ·rw[y]at D;have D:k<(a.length-1)*2:=D;have l1:(l.take (n*2)).length=n*2:=by rw[Bw,m];omega
   rw[CA,Bf,DL _ _ _ _ (by rw[Ad,Y];omega),AY (by omega),DL _ _ _ _ (by rw[N];omega),N];by_cases h1:k<n*2
   ·rw[AY (by omega),EE (by omega),CB,Ae h1,t k (by omega)]
   ·rw[Ae (by omega),Fw (by omega),l1];congr 1;omega
theorem ADY:OC 155 AOQ:=Lw λfz w own args y c f g b e d a=>by
 obtain⟨h,i,j,⟨⟩⟩:=y;simp only[A0,A6]at a;exact pn h i j c b d a.1 a.2.1 a.2.2.1 a.2.2.2
end Go.Proofs.YtkgejlchafionaaGreatDoor
namespace Nice
abbrev AHf:Ty:=.clo 72 (.pair (.ref IT) (.pair (.ref IT) .unit))
abbrev po:OSpec:=YG [.vec BB 75,.d AHf] BB 75 (λy=>AG (0<=y.2.1.2.1)&&(AG (y.2.1.2.1<=5)&&AG (y.1.length<=1000000))) (λy=>y.1.filter λm=> !Md y.2.1.1 y.2.1.2.1 m)
def se(m:Ar):M3:=(m.1,m.2.1.1,m.2.1.2.1)
theorem eO{fz:AB->AP (Aa AJ)}{m:Ar}{f:AE AJ}(h:Cw fz BB m f):f=T9 (se m):=by
 obtain⟨c1,c2,rfl,a,c3,c4,rfl,⟨g,k,rfl,b,i,j,rfl,c,d⟩,e⟩:=h;have a:c1=[.int .i64 m.1]:=a;have b:g=[.int .i64 m.2.1.1]:=b;have c:i=[.int .i64 m.2.1.2.1]:=c;have d:j=[]:=d;have e:c4=[]:=e;rw[a,b,c,d,e];rfl
theorem vV(fz:AB->AP (Aa AJ))(m:Ar):Cw fz BB m (T9 (se m)):=
 ⟨[.int .i64 m.1],[.int .i64 m.2.1.1,.int .i64 m.2.1.2.1],rfl,rfl,[.int .i64 m.2.1.1,.int .i64 m.2.1.2.1],[],rfl,⟨[.int .i64 m.2.1.1],[.int .i64 m.2.1.2.1],rfl,rfl,[.int .i64 m.2.1.2.1],[],rfl,rfl,rfl⟩,rfl⟩
theorem aV{fz:AB->AP (Aa AJ)}{w:AN}(j:DK fz w){x:AA}{v:AJ}(h:Cw fz (.ref IT) x [v]):∃(b o:AB) (c:Aa AJ),v=.pointer (AC ⟨b,o,AF⟩)/\fz b=AC c/\b<w.heap.size/\c[o]?=AC (.int .i64 x)/\w.cell? ⟨b,o,AF⟩=AC (.int .i64 x):=by
 obtain⟨b,o,a,k,e,l,d⟩:=h;obtain⟨el,fr,f⟩:=j b a e;have g:o<a.size:=l;have m:(a.toList.drop o).take IT.sz=[a[o]]:=by
  show(a.toList.drop o).take 1=[a[o]];rw[List.drop_eq_getElem_cons (by simpa using g),List.take_succ_cons,List.take_zero];simp
 rw[m]at d;have d:[a[o]]=[.int .i64 x]:=d;have i:a[o]?=AC (.int .i64 x):=by rw[CX g,(FP d).1]
 exact⟨b,o,a,(FP k).1,e,BX f,i,by simp only[C0,f,Df,CI,BR];exact i⟩
end Nice
namespace Go.Proofs.YtkgejlchafionaaGreatDoor
open Tryz
open Nice
open Go.Shelf in
theorem AOR(a:AP EG)(c:AB)(fv:AJ)(w:AN):BU prog 113 #[.slice a 0 c,fv] w λe w'=>e=.returned (.int .i64 (-1))/\w'=w:=by
 have mixed:Tryz.prog.follows .mixedOrders=true:=by kernel_rfl
 go_enter func113,ntmps113
 go_wp2
 go_loopg [5,8] 0 (λ_ _ b wr=>b=.int .i64 0/\wr=w)
 case atStart=>exact⟨rfl,rfl⟩
 case round=>
  obtain⟨rfl,rfl⟩:=hrel
  go_wp2
  go_ret
  exact⟨rfl,rfl⟩
open Go.Shelf in
theorem pq(a:AP EG)(c:AB)(fv:AJ)(w:AN):BU prog 71 #[.slice a 0 c,fv] w λe w'=>e=.returned (.slice a 0 c)/\w'=w:=by
 have mixed:Tryz.prog.follows .mixedOrders=true:=by kernel_rfl
 have b:∀args w,(callFunc 113 args).run prog w=.ok (.enter 113 args) w:=enters_of func113 (by kernel_rfl) rfl
 go_enter func71,ntmps71
 go_wp2_with (go_at_fn 113;refine(AOR _ _ _ _).mono ?_;rintro e w' ⟨rfl,rfl⟩)
 go_ret
 exact⟨rfl,rfl⟩
theorem pr{fz:AB->AP (Aa AJ)}{w:AN}{own:AE AB}{args:AE AJ}(f:AE Ar)(low a:AA)(I:DK fz w)(E:∀b,b∈own->fz b=AF)(T:UC prog w fz [.vec BB 75,.d AHf] (f,(low,a,()),()) args own)(h0:0<=a)(h5:a<=5)(J:f.length<=1000000):
  BU prog 71 args.toArray w λev w'=>∃v,ev=.returned v/\Lu prog fz w own BB 75 (f.filter λm=> !Md low a m) v w':=by
 have g:∀i,Tryz.prog.info? 75=AC i->i.size=3:=λi R=>by
  have h:Tryz.prog.info? 75=AC Tryz.t75:=by kernel_rfl
  rw[h]at R;cases R;rfl
 obtain⟨v,rest,o1,o2,rfl,rfl,U,hv⟩:=Om T;obtain⟨v2,V,p1,p2,rfl,rfl,hc,X⟩:=U;obtain⟨rfl,rfl⟩:=Ix X;rcases hc with⟨h, -⟩|⟨-,rfl,us,K,c1,c2,rfl,L,c3,c4,rfl,M,F⟩
 ·cases h
 have F:c4=[]:=F;subst F;have K:=(FP K).1;have one:∀(x:AA) (c:AE AJ),Cw fz (.ref IT) x c->∃v,c=[v]:=λx c h=>by
  obtain⟨b,o,arr,e, -⟩:=h;exact⟨_,e⟩
 obtain⟨u1,rfl⟩:=one _ _ L;obtain⟨u2,rfl⟩:=one _ _ M;obtain⟨B1,q1,A1,rfl,f1,l1,g1,Y⟩:=aV I L;obtain⟨B2,N,A2,rfl,f2,l2,g2,Z⟩:=aV I M;have K:v2=.func (.func 72) #[] #[.pointer (AC ⟨B1,q1,AF⟩),.pointer (AC ⟨B2,N,AF⟩)]:=K;subst K;let p:M3->AH:=λx=>Md low a (x.1,(x.2.1,x.2.2,()),())
 have hp:∀m:Ar,p (se m)=Md low a m:=λm=>rfl
 have A:((f.map se).filter λx=> !p x)=(f.filter λm=> !Md low a m).map se:=by
  rw[List.filter_map];rfl
 have ht:∀b,fz b=AF->hU w b #[.pointer (AC ⟨B1,q1,AF⟩),.pointer (AC ⟨B2,N,AF⟩)] p:=λb hb W m H ho=>by
  have n1:B1≠b:=λe=>by rw[e,hb]at f1;cases f1
  have n2:B2≠b:=λe=>by rw[e,hb]at f2;cases f2
  have Y:W.cell? ⟨B1,q1,AF⟩=AC (.int .i64 low):=by
   have:=Y;simp only[C0,ho B1 l1 n1]at this⊢;exact this
  have Z:W.cell? ⟨B2,N,AF⟩=AC (.int .i64 a):=by
   have:=Z;simp only[C0,ho B2 l2 n2]at this⊢;exact this
  exact AFX (m.1,(m.2.1,m.2.2,()),()) low a h0 h5 B1 q1 B2 N W (by omega) (by omega) Y Z
 rcases hv with⟨u,rfl,q,rfl⟩|⟨b,o,c,C,fr,rfl,rfl,G,j,l,O,P,n⟩
 ·have u:f=[]:=u;subst u;refine(pq q 0 _ w).mono ?_;rintro e w' ⟨rfl,rfl⟩;exact⟨_,rfl,⟨Ak _,rfl,rfl,λ_ _ _=>rfl⟩,.inl ⟨rfl,q,rfl⟩⟩
 ·have G:f.length<=c:=G;have j:w.heap[b]?=AC (.cells C 75 fr):=j;have l:o+c*3<=C.size:=l;have n:Et fz BB f (C.toList.drop o):=n;have y:(f.map se).length=f.length:=Eg ..;have hcs:∀t s,s<3->∀m,(f.map se)[t]?=AC m->C[o+t*3+s]?=(T9 m)[s]?:=λt s H m S=>by
   rw[Fe,Option.map_eq_some_iff]at S;obtain⟨x,u,rfl⟩:=S;obtain⟨h1,h2⟩:=n t x u;rw[<-eO h2,CB,Ae (show s<BB.sz from H),CA,CA,Bf];congr 1;show o+t*3+s=o+(t*3+s);omega
  have B:=pR b o c #[.pointer (AC ⟨B1,q1,AF⟩),.pointer (AC ⟨B2,N,AF⟩)] p (f.map se) w C fr (ht b (E b (by simp))) j (λo h=>O o (M1 _ h)) (by rw[y];exact J) (by rw[y];exact G) (by rw[y];omega) hcs;rw[y]at B;refine B.mono ?_;rintro ev w' ⟨C',rfl,Q,z,D⟩
  rw[A]at D;rw[A,Eg];have r:o%3=0/\C.size%3=0:=by
   have h:Tryz.prog.info? 75=AC Tryz.t75:=by kernel_rfl
   have:=P _ h;rw[g _ h]at this;exact this.2
  have hfl:(f.filter λm=> !Md low a m).length<=f.length:=List.length_filter_le _ _;refine⟨_,rfl,⟨Q.size,Q.os,Q.out,λx u S=>Q.old x u λe=>S (by subst e;simp)⟩,.inr ⟨b,o,_,c,C',fr,rfl,.inl (by simp),Q.row,rfl,by omega,by rw[z];exact l,by rw[z];exact O,λi R=> ?_,λk x u=> ?_⟩⟩
  ·rw[g i R,z];exact⟨rfl,r.1,r.2⟩
  ·have hk:k+1<=f.length:=Nat.le_trans (GP u) hfl;have hCl:C'.toList.length=C'.size:=D0;refine⟨by show k*3+3<=_;rw[CC,hCl,z];omega,?_⟩;have e:((C'.toList.drop o).drop (k*3)).take 3=T9 (se x):=by
    apply List.ext_getElem?;intro s;by_cases H:s<3
    ·rw[CB,Ae H,CA,CA,Bf,<-D k s H (se x) (by rw[Fe,u];rfl)];congr 1;omega
    ·rw[CB,AY H,DA (by show 3<=s;omega)]
   show Cw fz BB x (((C'.toList.drop o).drop (k*3)).take 3);rw[e];exact vV fz x
theorem ADZ:OC 71 po:=Lw λfz w own args y d g h b f e a=>by
 obtain⟨i,⟨low,c,⟨⟩⟩,⟨⟩⟩:=y;simp only[A0,A6]at a;exact pr i low c d b e a.1 a.2.1 a.2.2
end Go.Proofs.YtkgejlchafionaaGreatDoor
namespace Nice
abbrev AOS:OSpec:=YG [.d (.slice BB)] BB 75 (λy=>AG (y.1.length<=1000000)) (λy=>y.1)
abbrev AHg:OSpec:=⟨AK,0,.unit,0,[.d (.slice BB)],[.vec BB 75],λ_ _=>AD,λx y=>(x,y.1,())⟩
end Nice
namespace Go.Proofs.YtkgejlchafionaaGreatDoor
open Tryz
open Nice Go.RowKit
def AHh(x:Unit)(y:DX [.d (.slice BB)]):AP (Unit×DX [.vec BB 75]):=yW prog (GF [] []) (AV []) f70 AHg x y
theorem AHi(l:AE (BB).Den):AHh () (l,())=gd [AG ((2*(0+l.length)+400)*24<=281474976710656),AG (0<l.length)] (AC ((),l,())):=by kernel_rfl
theorem AN1:OC 70 ⟨AK,0,.unit,0,[.d (.slice BB)],[.vec BB 75],λ_ y=>AG (0<y.1.length)&&AG (y.1.length<=1000000),λx y=>(x,y.1,())⟩:=
 (AEU (S:=AHg) (sh:=AV []) (Cb (l:=[]) (o:=[]) trivial trivial) Al func70 (by kernel_rfl) (by decide)).nice λ() ⟨l,()⟩ h=>by
  have h:(AG (0<l.length)&&AG (l.length<=1000000))=true:=h;rw[A0,A6,A6]at h;refine(AHi l).trans ?_;rw[An (by omega),An h.1,xG]
theorem pw(q:AP EG)(c:AB)(w:AN):BU prog 70 #[.slice q 0 c] w λe w'=>(∃l,e=.returned (.slice l 0 0))/\DU w w':=by
 have mixed:Tryz.prog.follows .mixedOrders=true:=by kernel_rfl
 have tS:Tryz.prog.underlying 25=AC (.slice 75):=underlying25;have m:∀(w:AN) (a:AP EG) (n c g h:AB),(binOp .eql 25 (.slice a n c) (.slice AF g h)).run prog w=.ok (.bool a.isNone) w:=λw a n c g h=>sM w _ _ a n c g h tS
 obtain⟨i0,i,k⟩:∃i0:EF,Tryz.prog.info? 75=AC i0/\i0.size=3:=⟨Tryz.t75,by kernel_rfl,by kernel_rfl⟩
 go_enter func70,ntmps70
 cases q with
 |none=>
  go_wp2
  go_ret
  exact⟨⟨_,rfl⟩,Ak _,rfl,rfl,λ_ _=>rfl⟩
 |some a=>
  have d:∀(W:AN) (b ty:AB),(Eo #[25,25] ty #[.slice (AC ⟨b,0,AF⟩) 0 0,.slice (AC a) 0 c]).run prog W=.ok (.slice (AC ⟨b,0,AF⟩) 0 0) W:=λW b ty=>by
   have o:Src prog i0.size 25 (.slice (AC a) 0 c) 0 [] W:=RT W tS a 0 c [] (by rw[k];rfl) (λj u f=>by cases f) (λu p=>by cases p);exact Wv (P:=prog) (w:=W) 25 25 ty 75 i0 tS i b 0 0 0 _ 0 [] o (Ak _) (λj f=>Aq f (Hi _)) (λj f=>Aq f (Hi _))
  go_wp2_with (at_builtin;refine Kz _ rfl _ _ _ _ rfl _ _ rfl rfl _ _ (d _ _ _) ?_)
  go_ret
  exact⟨⟨_,rfl⟩,by show _<=(w.heap.push _).size;rw[I9];omega,rfl,rfl,λb r=>BD w _ r⟩
theorem ADa:OC 70 AOS:=by
 intro fz w r u z args x y p A B i j k n s a;obtain⟨l,⟨⟩⟩:=y;have a:l.length<=1000000:=BL a;cases l with
 |cons m l=>
  exact AN1 fz w r u z args x (m::l,()) p A B i j k n s (by show(AG (0<(m::l).length)&&AG ((m::l).length<=1000000))=AD;rw[BK (by simp),BK a];rfl)
 |nil=>
  have h:=Lw (P:=prog) (gl:=IP) (f:=70) (ts:=[.d (.slice BB)]) (t:=BB) (e:=75) (pre:=λy=>AG (y.1.length=0)) (g:=λy=>y.1) λfz w own args y p A B i j s a=>by
   obtain⟨l,⟨⟩⟩:=y;have E:l=[]:=Gu.1 (BL a);subst E;obtain⟨v,D,rfl,F,G⟩:=Lx p s;obtain⟨rfl,rfl⟩:=Ix F;have key:∀q c,v=.slice q 0 c->BU prog 70 #[v] w λev w'=>∃v,ev=.returned v/\Lu prog fz w [] BB 75 [] v w':=λq c e=>by
    subst e;refine(pw q c w).mono ?_;rintro e w' ⟨⟨H,rfl⟩,I,J,K,L⟩;exact⟨_,rfl,⟨I,J,K,λb M _=>L b M⟩,.inl ⟨rfl,H,rfl⟩⟩
   rcases G with⟨⟨q,c,e⟩, -⟩|⟨b,o,c,C,e,fr,N, -⟩
   ·exact key q c e
   ·exact key _ c N
  exact h fz w r u z args x ([],()) p A B i j k n s rfl
end Go.Proofs.YtkgejlchafionaaGreatDoor
namespace Nice
abbrev px:OSpec:=YG [.vec BB 75,.d IT,.d (.slice BB)] BB 75 (λy=>AG (0<=y.2.1)&&(AG (y.2.1.toNat<=y.1.length)&&(AG (y.2.2.1.length=1)&&AG (y.1.length<=1000000)))) (λy=>y.1.take y.2.1.toNat++(y.2.2.1++y.1.drop y.2.1.toNat))
end Nice
namespace Go.Proofs.YtkgejlchafionaaGreatDoor
open Tryz
open Nice
theorem py{fz:AB->AP (Aa AJ)}{w:AN}{own:AE AB}{args:AE AJ}(g:AE (BB).Den)(i:AA)(vs:AE (BB).Den)(hfz:DK fz w)(hnone:∀b,b∈own->fz b=AF)(hrd:UC prog w fz [.vec BB 75,.d IT,.d (.slice BB)] (g,i,vs,()) args own)(hi0:0<=i)(M:i.toNat<=g.length)(s:vs.length=1)(hbig:g.length<=1000000):
  BU prog 69 args.toArray w λev w'=>∃v,ev=.returned v/\Lu prog fz w own BB 75 (g.take i.toNat++(vs++g.drop i.toNat)) v w':=by
 have B:∀i,Tryz.prog.info? 75=AC i->i.size=3:=λi hi=>by
  have h:Tryz.prog.info? 75=AC Tryz.t75:=by kernel_rfl
  rw[h]at hi;cases hi;rfl
 obtain⟨n,rfl⟩:∃n:AB,i=(n:AA):=⟨i.toNat,by omega⟩
 have M:n<=g.length:=M;obtain⟨v,rest,o1,o2,rfl,rfl,hr2,hv⟩:=Om hrd;obtain⟨rest2,rfl,hr3⟩:=Ma hr2;obtain⟨v3,rest3,rfl,hr4,hv3⟩:=Lx hfz hr3;obtain⟨rfl,rfl⟩:=Ix hr4;clear hrd hr2 hr3 hr4;have hlt:∀b c,fz b=AC c->b<w.heap.size:=λb c hb=>by obtain⟨_,_,h⟩:=hfz b c hb;exact BX h
 rcases hv3 with⟨-,h⟩|⟨N,X,vc,VC,ve,vfr,rfl,hvf,D,I,hvc,O⟩
 ·have h:vs=[]:=h;rw[h]at s;simp at s
 have D:w.heap[N]?=AC (.cells VC ve vfr):=D;have O:Et fz BB vs (VC.toList.drop X):=O;have I:X+vs.length*3<=VC.size:=I;rw[s]at I;show BU prog 69 #[v,.int .i64 n,.slice (AC ⟨N,X,AF⟩) vs.length vc] w _;rw[s];obtain⟨us,hus⟩:∃us,us=(VC.toList.drop X).take 3:=⟨_,rfl⟩
 have f:us.length=3:=by rw[hus,Bw,CC,D0];omega
 have P:Et fz BB vs us:=by
  have:=Et.take O 1 (by rw[s];omega) (by show vs.length*3<=_;rw[s,CC,D0];omega);rw[GB (by rw[s];omega)]at this;rw[hus];exact this
 have p:∀j u,us[j]?=AC u->w.cell? ⟨N,X+j,AF⟩=AC u:=λj u L=>by
  rw[hus,CB]at L
  split at L
  ·rw[CA,Bf]at L;simp only[C0,D,Df,CI,BR];exact L
  ·cases L
 have Q:∀v∈us,v.oneCell'=true:=λv hv=>KS (J9 P (by rw[f,s];rfl) v hv)
 have hvb:=hlt N VC hvf;rcases hv with⟨rfl,rfl,q,rfl⟩|⟨b,o,c,C,fr,rfl,rfl,Z,r,K,hfr,hdiv,y⟩
 ·
  obtain rfl:n=0:=by have:n<=0:=M;omega
  refine(Og q 0 0 N X vc [] us w (Ak _) (by omega) (by omega) rfl f (λ_=>rfl) (λa ha j v hv=>by cases hv) p Q).mono ?_;rintro ev w' ⟨rfl,rfl⟩;refine⟨_,rfl,⟨?_,rfl,rfl,λb hb _=>BD w _ hb⟩,.inr ⟨w.heap.size,0,_,_,_,(0,0),rfl,.inr (Ak _),BN w _,?_,?_,?_,λo _ h=> ?_,λi hi=> ?_,?_⟩⟩
  ·show _<=(w.heap.push _).size;rw[I9];omega
  ·show 0+1=((([]:AE (BB).Den).take 0)++(vs++([]:AE (BB).Den).drop 0)).length;simp[s]
  ·exact ML w _ _ _
  ·have e2:(#[.int .i64 0,.int .i64 0,.int .i64 0]:Aa AJ).size=3:=rfl;have hg:=ML w (0+1) 0 75;show 0+Dp w (0+1) 0 75*3<=_;rw[ANM,BC,e2,DN,Hx,f];omega
  ·exact Aq h.2 (Hi _)
  ·have e2:(#[.int .i64 0,.int .i64 0,.int .i64 0]:Aa AJ).size=3:=rfl;refine⟨(B i hi).symm,MF _,?_⟩;rw[B i hi,ANM,BC,e2,DN,Hx,f];omega
  ·show Et fz BB ([]++(vs++[])) _;rw[DN,Ce];refine P.congr ?_ λk H=> ?_
   ·show vs.length*3<=_;simp[s,f]
   ·have H:k<vs.length*3:=H;rw[s]at H;rw[Do,Kv,DN,EE (by simpa using by omega)]
 ·have Z:g.length<=c:=Z;have r:w.heap[b]?=AC (.cells C 75 fr):=r;have K:o+c*3<=C.size:=K;have Ni:∀o,o<C.size->¬(fr.1<=o/\o<fr.2):=λo h=>hfr o (M1 _ h)
  have hb:=BX r;have hvbne:N≠b:=λe=>by
   have:=hnone b (by simp);rw[<-e,hvf]at this;cases this
  obtain⟨t,hcs⟩:∃t,t=(C.toList.drop o).take (g.length*3):=⟨_,rfl⟩
  have hCl:C.toList.length=C.size:=D0;have m:t.length=g.length*3:=by rw[hcs,Bw,CC,hCl];omega
  have y:Et fz BB g (C.toList.drop o):=y;have y:Et fz BB g t:=by
   refine Et.congr y (by show g.length*3<=_;rw[m];exact Ak _) λk H=> ?_
   have H:k<g.length*3:=H;rw[hcs,CB,Ae H]
  have J:∀(j:AB),j<g.length*3->t[j]?=C[o+j]?:=λj Y=>by
   rw[hcs,CB,Ae Y,CA,Bf]
  have R:∀(j:AB) (u:AJ),C[j]?=AC u->w.cell? ⟨b,j,AF⟩=AC u:=λj u L=>by
   simp only[C0,r,Df,CI,BR];exact L
  have hcc:∀j u,t[j]?=AC u->w.cell? ⟨b,o+j,AF⟩=AC u:=λj u L=>by
   have Y:=GP L;rw[J j (by omega)]at L;exact R _ _ L
  have hc1:∀v∈t,v.oneCell'=true:=λv hv=>KS (J9 y (by rw[m];rfl) v hv)
  have S:∀j,o+j<C.size->(w.cell? ⟨b,o+j,AF⟩).isSome=true:=λj Y=>by
   rw[R _ _ (CX Y)];rfl
  have hfrz:∀j,j<C.size->w.frozen? ⟨b,j,AF⟩=false:=λj Y=>by
   have:=Ni j Y;simp only[Wx,r];simpa using this
  have hshb:w.shape? b=AC (75,C.size):=by simp only[Uk,r]
  have hshv:w.shape? N=AC (ve,VC.size):=by simp only[Uk,D]
  have hfe:w.frozen? ⟨b,C.size,AF⟩=false:=by
   have:=hfr C.size (by show C.size<C.size+1;omega);simp only[Wx,r];simpa using this
  have hall:Et fz BB (g.take n++(vs++g.drop n)) (t.take (n*3)++(us++t.drop (n*3))):=
   Et.app (Et.take y n M (by rw[m];exact Ak _)) (by rw[Bw,Bw,m,MH M];show min (n*3) (g.length*3)=n*3;omega) (Et.app P (by rw[f,s];rfl) (Et.drop y n))
  have T:(g.take n++(vs++g.drop n)).length=g.length+1:=by
   rw[BA,BA,Bw,CC,s];omega
  have U:∀k,(t.take (n*3)++(us++t.drop (n*3)))[k]?=if k<n*3 then t[k]? else if k<(n+1)*3 then us[k-n*3]? else t[k-3]?:=λk=>by
   have l1:(t.take (n*3)).length=n*3:=by rw[Bw,m];omega
   by_cases F:k<n*3
   ·rw[Ae F,EE (by omega),CB,Ae F]
   ·rw[AY F,Fw (by omega),l1];by_cases h2:k<(n+1)*3
    ·rw[Ae h2,EE (by omega)]
    ·rw[AY h2,Fw (by omega),f,CA];congr 1;omega
  have fin:∀(w':AN) (b' o' c':AB) (C':Aa AJ) (fr':AB×AB),(w.heap.size<=w'.heap.size/\w'.os=w.os/\w'.output=w.output/\∀x,x<w.heap.size->x≠b->w'.heap[x]?=w.heap[x]?)->(b'=b\/w.heap.size<=b')->w'.heap[b']?=AC (.cells C' 75 fr')->
    g.length+1<=c'->o'+c'*3<=C'.size->(∀o,o<C'.size+1->¬(fr'.1<=o/\o<fr'.2))->o'%3=0->C'.size%3=0->(∀k,k<(g.length+1)*3->C'[o'+k]?=if k<n*3 then t[k]? else if k<(n+1)*3 then us[k-n*3]? else t[k-3]?)->
    ∃v,O6 (.slice (AC ⟨b',o',AF⟩) (g.length+1) c')=.returned v/\Lu prog fz w ([b]++[]) BB 75 (g.take n++(vs++g.drop n)) v w':=λw' b' o' c' C' fr' hs hb' hrow' hc' hfit' hfr' ho' hC' hget=>by
   refine⟨_,rfl,⟨hs.1,hs.2.1,hs.2.2.1,λx hx hm=>hs.2.2.2 x hx λe=>hm (by subst e;simp)⟩,.inr ⟨b',o',_,c',C',fr',rfl,?_,hrow',T.symm,hc',hfit',hfr',λi hi=> ?_,?_⟩⟩
   ·rcases hb' with rfl|h
    ·exact .inl (by simp)
    ·exact .inr h
   ·rw[B i hi];exact⟨rfl,ho',hC'⟩
   ·refine hall.congr ?_ λk H=> ?_
    ·rw[T];show(g.length+1)*3<=_;have hCl':C'.toList.length=C'.size:=D0;rw[CC,hCl'];omega
    ·rw[T]at H;rw[CA,Bf,U];exact hget k H
  have E:o%3=0/\C.size%3=0:=by
   have h:Tryz.prog.info? 75=AC Tryz.t75:=by kernel_rfl
   have:=hdiv _ h;rw[B _ h]at this;exact this.2
  have gs:∀(o1:AB) (l:AE AJ) (A:Aa AJ) (k:AB),o1+l.length<=A.size->(Cp A o1 l)[k]?=if o1<=k/\k<o1+l.length then l[k-o1]? else A[k]?:=λo1 l A k H=>DL _ _ _ _ H
  by_cases hend:n=g.length
  ·subst hend;by_cases z:g.length+1<=c
   ·
    refine(X5 b o g.length c N X vc us w z f (λj Y=>by rw[Dg];exact S _ (by omega)) (λj Y=>hfrz _ (by omega)) p Q).mono ?_;rintro ev w' ⟨rfl,rfl⟩;rw[Bs b 75 fr us (o+g.length*3) C w r];refine fin _ b o c (Cp C (o+g.length*3) us) fr ⟨by show _<=(w.heap.setIfInBounds _ _).size;rw[GK];exact Ak _,rfl,rfl,λx _ hne=>FG (ES hne)⟩ (.inl rfl) (Ig hb) z (by rw[Ad];exact K) (by rw[Ad];exact hfr) E.1 (by rw[Ad];exact E.2) λk H=> ?_
    rw[gs _ _ _ _ (by rw[f];omega),f];by_cases F:k<g.length*3
    ·rw[AY (by omega),Ae F,J k F]
    ·rw[Ae (by omega),AY F,Ae (by omega)];congr 1;omega
   ·
    refine(Og (AC ⟨b,o,AF⟩) g.length c N X vc t us w Z (by omega) (by omega) m f (λh=>by cases h) (λa ha j u L=>by cases ha;rw[Ge];exact hcc j u L) p Q).mono ?_;rintro ev w' ⟨rfl,rfl⟩;have e2:(#[.int .i64 0,.int .i64 0,.int .i64 0]:Aa AJ).size=3:=rfl
    have hg:=ML w (g.length+1) c 75;have hCs:((t++us).toArray++Ch #[.int .i64 0,.int .i64 0,.int .i64 0] (Dp w (g.length+1) c 75-(g.length+1))).size=Dp w (g.length+1) c 75*3:=by
     rw[ANM,BC,e2,Hx,BA,m,f];omega
    refine fin _ w.heap.size 0 (Dp w (g.length+1) c 75) _ (0,0) ⟨by show _<=(w.heap.push _).size;rw[I9];omega,rfl,rfl,λx hx _=>BD w _ hx⟩ (.inr (Ak _)) (BN w _) hg (by rw[hCs];omega) (λo _ h=>Aq h.2 (Hi _)) (MF _) (by rw[hCs];exact MC _ _) λk H=> ?_
    rw[CJ,<-Bf,Kv,EE (by simp only[BA,m,f];omega)];by_cases F:k<g.length*3
    ·rw[Ae F,EE (by omega)]
    ·rw[AY F,Ae (by omega),Fw (by omega),m]
  ·have hlt':n<g.length:=by omega
   by_cases z:g.length+1<=c
   ·
    refine(ANk b o g.length c n N X vc t us w hlt' z (by omega) hvbne m f hcc (λj Y=>S _ (by omega)) (λj Y=>hfrz _ (by omega)) p hc1 Q ve 75 VC.size C.size hshv (by omega) hshb (by omega) hfe).mono ?_;rintro ev w' ⟨rfl,q,rfl⟩;have V:(t.drop (n*3)).length=(g.length-n)*3:=by rw[CC,m];omega
    have hrowq:(w.drewN q).heap[b]?=AC (.cells C 75 fr):=r;rw[Bs b 75 fr _ (o+(n+1)*3) C (w.drewN q) hrowq,Bs b 75 fr us (o+n*3) (Cp C (o+(n+1)*3) (t.drop (n*3))) _ (Ig hb)];refine fin _ b o c (Cp (Cp C (o+(n+1)*3) (t.drop (n*3))) (o+n*3) us) fr ⟨by show _<=((w.heap.setIfInBounds _ _).setIfInBounds _ _).size;rw[GK,GK];exact Ak _,rfl,rfl,λx _ hne=>(FG (ES hne)).trans (FG (ES hne))⟩ (.inl rfl) (Ig (by rw[GK];exact hb)) z (by rw[Ad,Ad];exact K) (by rw[Ad,Ad];exact hfr) E.1 (by rw[Ad,Ad];exact E.2) λk H=> ?_
    rw[gs _ _ _ _ (by rw[Ad,f];omega),gs _ _ _ _ (by rw[V];omega),f,V];by_cases F:k<n*3
    ·rw[AY (by omega),AY (by omega),Ae F,J k (by omega)]
    ·rw[AY F];by_cases h2:k<(n+1)*3
     ·rw[Ae (by omega),Ae h2];congr 1;omega
     ·rw[AY (by omega),Ae (by omega),AY h2,CA];congr 1;omega
   ·
    refine(km b o g.length c n N X vc t us w hlt' Z (by omega) (by omega) m f hb hvb hcc p hc1 Q).mono ?_;rintro ev w' ⟨rfl,rfl⟩;have e2:(#[.int .i64 0,.int .i64 0,.int .i64 0]:Aa AJ).size=3:=rfl;have hg:=ML w (g.length+1) c 75;obtain⟨G,hG⟩:∃G,G=Dp w (g.length+1) c 75:=⟨_,rfl⟩
    rw[<-hG]at hg⊢;obtain⟨ROW,W⟩:∃ROW:Aa AJ,ROW=(t.take (n*3)).toArray++Ch #[.int .i64 0,.int .i64 0,.int .i64 0] (g.length+1-n)++Ch #[.int .i64 0,.int .i64 0,.int .i64 0] (G-(g.length+1)):=⟨_,rfl⟩
    have hRs:ROW.size=G*3:=by
     rw[W,ANM,ANM,BC,BC,e2,Hx,Bw,m];omega
    have V:(t.drop (n*3)).length=(g.length-n)*3:=by rw[CC,m];omega
    rw[<-W];have r1:((w.alloc (.cells ROW 75)).drew).heap[w.heap.size]?=AC (.cells ROW 75 (0,0)):=BN w _;have hsz:w.heap.size<(w.heap.push (.cells ROW 75)).size:=by rw[I9];omega
    rw[Bs w.heap.size 75 (0,0) us (n*3) ROW _ r1];rw[Bs w.heap.size 75 (0,0) (t.drop (n*3)) ((n+1)*3) (Cp ROW (n*3) us) _ (Ig hsz)];refine fin _ w.heap.size 0 G (Cp (Cp ROW (n*3) us) ((n+1)*3) (t.drop (n*3))) (0,0) ⟨by show _<=(((w.heap.push _).setIfInBounds _ _).setIfInBounds _ _).size;rw[GK,GK,I9];omega,rfl,rfl,λx hx _=>(FG (by omega)).trans ((FG (by omega)).trans (BD w _ hx))⟩ (.inr (Ak _)) (Ig (by show _<((w.heap.push _).setIfInBounds _ _).size;rw[GK];exact hsz)) hg (by rw[Ad,Ad,hRs];omega) (λo _ h=>Aq h.2 (Hi _)) (MF _) (by rw[Ad,Ad,hRs];exact MC _ _) λk H=> ?_
    rw[CJ,gs _ _ _ _ (by rw[Ad,hRs,V];omega),gs _ _ _ _ (by rw[hRs,f];omega),f,V];by_cases F:k<n*3
    ·rw[AY (by omega),AY (by omega),Ae F,W,<-Bf,Kv,Kv,C9,EE (by rw[Bw,m];omega),CB,Ae F]
    ·rw[AY F];by_cases h2:k<(n+1)*3
     ·rw[AY (by omega),Ae (by omega),Ae h2]
     ·rw[Ae (by omega),AY h2,CA];congr 1;omega
theorem ADb:OC 69 px:=Lw λfz w own args y c f g b e d a=>by
 obtain⟨h,i,vs,⟨⟩⟩:=y;simp only[A0,A6]at a;exact py h i vs c b d a.1 a.2.1 a.2.2.1 a.2.2.2
end Go.Proofs.YtkgejlchafionaaGreatDoor
namespace Nice
abbrev Yf:=AP (AM [Mj])
def cB(n:AA):Hg:=(n,[],[],())
def Jg(t:L8):EC:=([86,101,114,115,105,111,110],t,())
def Jh(b:L8):EC:=([69,84,97,103],[34]++M9 b++[34],())
def ctH:EC:=([67,111,110,116,101,110,116,45,84,121,112,101],[97,112,112,108,105,99,97,116,105,111,110,47,120,109,108],())
def aW:PSpec:=⟨[IT],[Gp],λx=>C4 x.1,λx=>(Jg (GE x.1),())⟩
def aX:PSpec:=⟨[.str],[Gp],λx=>Aw x.1,λx=>(Jh x.1,())⟩
def pz(er:AA)(g:Hg):Hg:=bif er==0 then g else bif er==9 then cB 412 else bif er==6 then cB 404 else bif er==5 then cB 507 else cB 503
def lZ(t:L8)(a:AA)(b:L8)(er:AA):Hg:=
 bif a !=2 then(bif a !=3 then cB 0 else pz er (bif a==2 then(200,[Jg t,Jh b],[],())else(200,[Jg t],[],())))else pz er (bif a==2 then(200,[Jg t,Jh b],[],())else(200,[Jg t],[],()))
def wrS:PSpec:=⟨[BF,JI],[Mj],λx=>C4 x.2.1.2.1&&Aw x.1.2.2.2.1,λx=>(lZ (GE x.2.1.2.1) x.1.1 x.1.2.2.2.1 x.2.1.1,())⟩
def ADc:PSpec:=⟨[BF,JI],[Mj],λx=>C4 x.2.1.2.1&&Aw x.1.2.2.2.1,λx=>(lZ (D9 x.2.1.2.1) x.1.1 x.1.2.2.2.1 x.2.1.1,())⟩
def aO(a:Hg):Yf:=AC (a,())
def rsE(er:AA)(g:Yf):Yf:=bif er==0 then g else bif er==9 then aO (cB 412)else bif er==6 then aO (cB 404)else bif er==5 then aO (cB 507)else aO (cB 503)
def rsT(a er:AA)(g:Yf):Yf:=bif a !=2 then(bif a !=3 then aO (cB 0)else rsE er g)else rsE er g
abbrev tgL(a:L8):AE AH:=[AG (([34]++M9 a).length+1<=1099511627776),AG (1+(M9 a).length<=1099511627776),Aw a]
def ADd(c:AA)(b:L8)(a:AA):Yf:=gd [C4 a] (bif c==2 then gd [Aw b] (aO (200,[Jg (GE a),Jh b],[],()))else aO (200,[Jg (GE a)],[],()))
def ADe(c:AA)(b:L8)(a:AA):Yf:=gd [C4 a] (bif c==2 then gd (tgL b) (aO (200,[Jg (D9 a),Jh b],[],()))else aO (200,[Jg (D9 a)],[],()))
def kx(t:L8)(v:BE)(er:AA)(sh:U0)(a:AA):Hg:=bif a==1 then(bif er !=0 then cB 404 else(200,[Jh v.2.2.1,Jg t],v.2.2.1,()))else bif a==4 then(200,[ctH],LK sh,())else bif a==5 then(200,[ctH],LK sh,())else cB 0
def aY(a:BH)(s:Bc):Hg:=kx (GE (FI s a.2.1 a.2.2.1).1.1) (FI s a.2.1 a.2.2.1).1 (FI s a.2.1 a.2.2.1).2 (QM s a) a.1
def Q3(a:BH)(s:Bc):Hg:=kx (D9 (GX s a.2.1 a.2.2.1).1.1) (GX s a.2.1 a.2.2.1).1 (GX s a.2.1 a.2.2.1).2 (Fy s a) a.1
def eP(a:BH)(s:Bc):AH:=Kn s&&(Aw (FI s a.2.1 a.2.2.1).1.2.2.1&&(C4 (FI s a.2.1 a.2.2.1).1.1&&(SS s a&&IW (QM s a))))
def UF(a:BH)(s:Bc):AH:=Kn s&&(Aw (GX s a.2.1 a.2.2.1).1.2.2.1&&(C4 (GX s a.2.1 a.2.2.1).1.1&&(Cv s&&IW (Fy s a))))
def ADf:PSpec:=⟨[BF,CY],[Mj],λx=>eP x.1 x.2.1,λx=>(aY x.1 x.2.1,())⟩
def p0:PSpec:=⟨[BF,CY],[Mj],λx=>UF x.1 x.2.1,λx=>(Q3 x.1 x.2.1,())⟩
def fdT(a:AA)(g1 g4:Yf):Yf:=bif a==1 then g1 else bif a==4 then g4 else bif a==5 then g4 else aO (cB 0)
def fd1(s:Bc)(x:BE×AA):Yf:=gd [Kn s] (bif x.2 !=0 then aO (cB 404)else gd [C4 x.1.1,Aw x.1.2.2.1] (aO (200,[Jh x.1.2.2.1,Jg (GE x.1.1)],x.1.2.2.1,())))
def fd2(s:Bc)(x:BE×AA):Yf:=gd [Kn s] (bif x.2 !=0 then aO (cB 404)else gd (C4 x.1.1::tgL x.1.2.2.1) (aO (200,[Jh x.1.2.2.1,Jg (D9 x.1.1)],x.1.2.2.1,())))
def fd4(p:AH)(sh:U0):Yf:=gd [IW sh,p] (aO (200,[ctH],LK sh,()))
end Nice
namespace Go.Proofs.YtkgejlchafionaaGreatDoor
open Tryz
open Nice
def AHk(x:AM [IT]):AP (AM [Gp]):=fO prog (Aj [(48,Lq)]) (AV []) f75 [IT] [Gp] x
theorem AHl(n:AA):AHk (n,())=gd [C4 n&&((10:AA)==10)] (AC (Jg (GE n),())):=by kernel_rfl
theorem x3:PC 75 aW:=(Ap (Ac (l:=[(48,Lq)]) ⟨pD,A3⟩) Al func75 (by kernel_rfl) (by decide)).nice λ⟨n,()⟩ h=>by
 refine(AHl n).trans ?_;have h:C4 n=true:=h;rw[h];rfl
def ADg(x:AM [.str]):AP (AM [Gp]):=fO prog (Aj [(114,Mk)]) (AV []) f76 [.str] [Gp] x
theorem ADh(n:L8):ADg (n,())=gd (tgL n) (AC (Jh n,())):=by kernel_rfl
theorem eQ{α:Type}{n:L8}(h:Aw n=AD)(y:AP α):gd (tgL n) y=y:=by
 have e:=Ym n;unfold tgL;rw[An (by simp only[BA,B7,List.length_nil];omega),An (by omega),BG h,xG]
theorem x4:PC 76 aX:=(Ap (Ac (l:=[(114,Mk)]) ⟨cL,A3⟩) Al func76 (by kernel_rfl) (by decide)).nice λ⟨n,()⟩ h=>by
 refine(ADh n).trans ?_;exact eQ h _
def AHm(x:AM [BF,JI]):Yf:=fO prog (Aj [(75,aW),(76,aX)]) (AV []) f40 [BF,JI] [Mj] x
theorem AHn(b:AA)(key:L8)(v:AA)(c:L8)(d:AA)(t p f:L8)(e:AA)(g:AH)(er a:AA):AHm ((b,key,v,c,d,t,p,f,e,g,()),(er,a,()),())=rsT b er (ADd b c a):=by kernel_rfl
def AHo(x:AM [BF,JI]):Yf:=fO prog (Aj [(31,HN),(30,W2)]) (AV []) f16 [BF,JI] [Mj] x
theorem AHp(b:AA)(key:L8)(v:AA)(c:L8)(d:AA)(t p f:L8)(e:AA)(g:AH)(er a:AA):AHo ((b,key,v,c,d,t,p,f,e,g,()),(er,a,()),())=rsT b er (ADe b c a):=by kernel_rfl
def ALo(x:AM [BF,CY]):Yf:=fO prog (Aj [(77,qk),(76,aX),(75,aW),(79,AN4),(78,VW)]) (AV []) f41 [BF,CY] [Mj] x
theorem ALp(g:AA)(key:L8)(v:AA)(h:L8)(i:AA)(t p f:L8)(j:AA)(k:AH)(q:AA)(l:AE AX)(m:AE Ar)(a b c d e:AA):
 ALo ((g,key,v,h,i,t,p,f,j,k,()),(q,l,m,(a,b,c,d,e,()),()),())=fdT g (fd1 (q,l,m,(a,b,c,d,e,()),()) (FI (q,l,m,(a,b,c,d,e,()),()) key v)) (fd4 (SS (q,l,m,(a,b,c,d,e,()),()) (g,key,v,h,i,t,p,f,j,k,())) (QM (q,l,m,(a,b,c,d,e,()),()) (g,key,v,h,i,t,p,f,j,k,()))):=by kernel_rfl
def AHq(x:AM [BF,CY]):Yf:=fO prog (Aj [(29,qp),(30,W2),(31,HN),(33,ey),(32,VW)]) (AV []) f14 [BF,CY] [Mj] x
theorem AHr(g:AA)(key:L8)(v:AA)(h:L8)(i:AA)(t p f:L8)(j:AA)(k:AH)(q:AA)(l:AE AX)(m:AE Ar)(a b c d e:AA){Qa}[Qa':QA (q,l,m,(a,b,c,d,e,()),()) Qa]:
 AHq ((g,key,v,h,i,t,p,f,j,k,()),(q,l,m,(a,b,c,d,e,()),()),())=fdT g (fd2 Qa (GX Qa key v)) (fd4 (Cv Qa) (Fy Qa (g,key,v,h,i,t,p,f,j,k,()))):=by obtain⟨rfl⟩:=Qa';kernel_rfl
theorem AHs{a er:AA}{t:L8}{b:L8}{g:Yf}(h:g=(bif a==2 then aO (200,[Jg t,Jh b],[],())else aO (200,[Jg t],[],()))):rsT a er g=aO (lZ t a b er):=by
 subst h;unfold rsT lZ rsE pz;cases a !=2<;>cases a !=3<;>cases er==0<;>cases er==9<;>cases er==6<;>cases er==5<;>cases a==2<;>rfl
theorem ADi{c:AA}{b:L8}{a:AA}(d:C4 a=AD)(e:Aw b=AD):ADd c b a=(bif c==2 then aO (200,[Jg (GE a),Jh b],[],())else aO (200,[Jg (GE a)],[],())):=by
 unfold ADd;rw[BG d,BG e,xG,xG]
theorem ADj{c:AA}{b:L8}{a:AA}(d:C4 a=AD)(e:Aw b=AD):ADe c b a=(bif c==2 then aO (200,[Jg (D9 a),Jh b],[],())else aO (200,[Jg (D9 a)],[],())):=by
 unfold ADe;rw[BG d,eQ e,xG]
theorem ALq:PC 40 wrS:=(Ap (Ac (l:=[(75,aW),(76,aX)]) ⟨x3,x4,A3⟩) Al func40 (by kernel_rfl) (by decide)).nice λ⟨⟨c,key,v,b,d,t,p,f,e,g,()⟩,⟨er,a,()⟩,()⟩ h=>by
 have h:(C4 a&&Aw b)=true:=h;rw[A0]at h;exact(AHn c key v b d t p f e g er a).trans (AHs (ADi h.1 h.2))
theorem AHt:PC 16 ADc:=(Ap (Ac (l:=[(31,HN),(30,W2)]) ⟨Sz,fL,A3⟩) Al func16 (by kernel_rfl) (by decide)).nice λ⟨⟨c,key,v,b,d,t,p,f,e,g,()⟩,⟨er,a,()⟩,()⟩ h=>by
 have h:(C4 a&&Aw b)=true:=h;rw[A0]at h;exact(AHp c key v b d t p f e g er a).trans (AHs (ADj h.1 h.2))
theorem AHu{a:AA}{t:L8}{v:BE}{er:AA}{sh:U0}{g1 g4:Yf}(b:g1=(bif er !=0 then aO (cB 404)else aO (200,[Jh v.2.2.1,Jg t],v.2.2.1,())))(c:g4=aO (200,[ctH],LK sh,())):fdT a g1 g4=aO (kx t v er sh a):=by
 subst b c;unfold fdT kx;cases a==1<;>cases a==4<;>cases a==5<;>cases er !=0<;>rfl
theorem AHv:PC 41 ADf:=(Ap (Ac (l:=[(77,qk),(76,aX),(75,aW),(79,AN4),(78,VW)]) ⟨AEJ,x4,x3,AAn,AD6,A3⟩) Al func41 (by kernel_rfl) (by decide)).nice λ⟨⟨g,key,v,i,j,t,p,f,k,n,()⟩,⟨q,l,m,⟨a,b,c,d,e,()⟩,()⟩,()⟩ h=>by
 have h:eP (g,key,v,i,j,t,p,f,k,n,()) (q,l,m,(a,b,c,d,e,()),())=true:=h;unfold eP at h;simp only[A0]at h;obtain⟨o,r,s,u,w⟩:=h;refine(ALp g key v i j t p f k n q l m a b c d e).trans (AHu ?_ ?_)
 ·unfold fd1;rw[BG o,xG,BG s,BG r,xG]
 ·unfold fd4;rw[BG w,BG u,xG]
theorem ADk:PC 14 p0:=(Ap (Ac (l:=[(29,qp),(30,W2),(31,HN),(33,ey),(32,VW)]) ⟨AEP,fL,Sz,wG,v7,A3⟩) Al func14 (by kernel_rfl) (by decide)).nice λ⟨⟨g,key,v,i,j,t,p,f,k,n,()⟩,⟨q,l,m,⟨a,b,c,d,e,()⟩,()⟩,()⟩ h=>by
 have h:UF (g,key,v,i,j,t,p,f,k,n,()) (q,l,m,(a,b,c,d,e,()),())=true:=h;unfold UF at h;simp only[A0]at h;obtain⟨o,r,s,u,w⟩:=h;refine(AHr g key v i j t p f k n q l m a b c d e).trans (AHu ?_ ?_)
 ·unfold fd2;rw[BG o,xG,BG s,eQ r]
 ·unfold fd4;rw[BG w,BG u,xG]
