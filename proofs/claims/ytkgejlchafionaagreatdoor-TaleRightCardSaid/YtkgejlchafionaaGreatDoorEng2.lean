/-
  The engine, part 2: an abstract evaluator over the model's code, proved sound. No condition.
-/
import Derived.Test.YtkgejlchafionaaGreatDoorEng1
import Derived.ChangeKeysEq
open Array renaming append_assoc->yj,ext'->Gr,getElem?_append_left->rQ,getElem?_append_right->yk,getElem?_eq_getElem->CX,getElem?_eq_none->Jt,getElem?_toList->Bf,length_toList->D0,size_append->ANM
open Bool renaming and_eq_true->A0,false->AK,false_eq_true->CI,not_false->FU,true->AD
open ByteArray renaming data_extract->AJC,data_push->AJD,empty->RI,ext->Kp
open ForInStep renaming yield->AJE
open Go renaming Addr->EG,Program->Ao,TypeDesc->Jw,TypeId->AQ,TypeInfo->EF,Value->AJ,World->AN,asIntOf->MB,goInt->Eb,run_loadCells->yl,storeCells->Mv,undef->Bi,zeroValue->Uh
open Go.Builtin renaming append_->Eo,copy_->Hv,firstCells->GZ,growBy->rR,lenOf->RK,nextslicecap->rS,zeroCells->Ch
open Go.Conv renaming bytesToString->Ui
open Go.Instr renaming alloc->rT,extract->ym,field->yn,fieldAt->bV,index->Wg,indexAt->Wh,loadAt->Kq,slice->FN,sliceAt->FA,sliceBound->bW,sliceBounds->Ga,storeAt->Mw,sureAddr->Gs
open Go.Question renaming appendCap->Mx
open Go.Result renaming andThen_ok->Ax
open Go.Result.ok renaming injEq->rU
open Go.Sem renaming run->My,run_bind->A7,run_pure->A9
open Go.World renaming cell?->C0
open Int renaming natCast_nonneg->RH,ofNat_eq_natCast->yo,toNat_natCast->Hu
open List renaming all_eq_true->C8,getElem?_cons_succ->RL,getElem?_cons_zero->EM,getElem?_eq_getElem->B4,getElem?_eq_none->DA,getElem?_toArray->ANI,getElem_mem->EK,length_append->BA,mem_iff_getElem->yp,mem_map->Ju
open Nat renaming add_assoc->Dg,add_mul->DB,beq->Af,ble->B8,ble_eq_true_of_le->rV,blt->Cq,eq_of_beq_eq_true->Br,le_add_right->bX,le_of_ble_eq_true->GJ,le_refl->Ak,le_trans->Ea,lt_or_ge->Cf,min->Gb,mod->EH,mul_le_mul_right->Gc,mul_mod_left->MC,sub_self->bY,zero_add->CJ,zero_le->Cx,zero_mul->I6
open Option renaming isSome_none->Df,map_some->Ib,none->AF,some->AC
open Option.some renaming injEq->BJ
open Pure renaming pure->Ck
open UInt8 renaming ofNat->Cj
open _root_ renaming Array->Aa,Bool->AH,ByteArray->Cg,List->AE,Nat->AB,Option->AP,absurd->Aq,and_self->iN,cond_false->BZ,cond_true->Ag,if_false->BR,if_neg->AY,if_pos->Ae,if_true->ANH
section
noncomputable section
namespace Go.Eng
open Go
structure TE where
 und:AQ->AP Jw
 inf:AQ->AP EF
structure TE.OK(T:TE)(P:Ao):Prop where
 und:∀t d,T.und t=AC d->P.underlying t=AC d
 inf:∀t i,T.inf t=AC i->P.info? t=AC i
section
variable {P:Ao} {T:TE} (hT:T.OK P) {D:AB->Prop} {ι:AB->Reg} {σ:St} {w:AN}
def RX:AJ->AH
 | .chan (AC _)=>AK
 |_=>AD
theorem ID{n:AB}{v:AJ}(h:Au n v=AD):RX v=true:=by
 cases n with
 |zero=>simp[Au]at h
 |succ n=>cases v<;>first|rfl|(rename_i r;cases r<;>first|rfl|simp[Au]at h)
theorem VR.cells{v v':AJ}(h:VR D ι v v')(z:RX v=AD):AR D ι v.cells v'.cells:=by
 have one:∀x y:AJ,VR D ι x y->AR D ι #[x] #[y]:=λx y p=>⟨rfl,λi a b w A=>by
  rcases i with _|i
  ·cases w;cases A;exact p
  ·simp at w⟩
 cases h with
 |junk v=>cases z
 |sym _ h=>cases v'<;>first|exact one _ _ (.sym _ h)|cases h
 |err _ _ h=>cases v'<;>first|exact one _ _ (.err _ _ h)|cases h
 |aint k n=>exact one _ _ (.aint k n)
 |dat id a l c h e=>exact one _ _ (.dat id a l c h e)
 |pfx id m a l c h e d=>exact one _ _ (.pfx id m a l c h e d)
 |pel id i j b o l c h e=>exact one _ _ (.pel id i j b o l c h e)
 |agg as bs f g=>exact⟨f,g⟩
 |tuple as bs f g=>exact one _ _ (.tuple as bs f g)
 |bool b=>exact one _ _ (.bool b)
 |int k n=>exact one _ _ (.int k n)
 |float k n=>exact one _ _ (.float k n)
 |complex k a b=>exact one _ _ (.complex k a b)
 |string s=>exact one _ _ (.string s)
 |ptrN=>exact one _ _ .ptrN
 |ptr id off h=>exact one _ _ (.ptr id off h)
 |slN l c=>exact one _ _ (.slN l c)
 |slK id off l c h B=>exact one _ _ (.slK id off l c h B)
 |slU id off l c h d q=>exact one _ _ (.slU id off l c h d q)
 |slE id off C c h d q=>exact one _ _ (.slE id off C c h d q)
 |mapN=>exact one _ _ .mapN
 |chanN=>exact one _ _ .chanN
 |nilFunc=>exact one _ _ .nilFunc
 |nilIface=>exact one _ _ .nilIface
 |iface t v v' h=>exact one _ _ (.iface t v v' h)
 |func fn as bs E ds f r g u=>exact one _ _ (.func fn as bs E ds f r g u)
include hT
theorem Ah{t:AQ}{d:Jw}(h:T.und t=AC d)(w:AN):(underlying t).run P w=.ok d w:=run_underlying (hT.und t d h) w
theorem MR{t:AQ}{i:EF}(h:T.inf t=AC i)(w:AN):(typeInfo t).run P w=.ok i w:=run_typeInfo w (hT.inf t i h)
theorem Bb{t:AQ}{i:EF}(h:T.inf t=AC i)(w:AN):(sizeOf t).run P w=.ok i.size w:=by
 simp[sizeOf,MR hT h]
theorem HT{t:AQ}{i:EF}{z:AJ}(h:T.inf t=AC i)(a:i.zero=AC z)(w:AN):(Uh t).run P w=.ok z w:=by
 simp[Uh,MR hT h,a]
def ZC(T:TE)(σ:St)(a:AQ)(b:AE AJ):AP R:=
 match T.inf a with
 |some i=>bif Af (EH b.length i.size) 0 then AC ⟨.pointer (AC ⟨σ.next,0,AF⟩),σ.new (.row b a AK),.nil⟩else AF
 |none=>AF
theorem S0{b:AQ}{d:AE AJ}{c:Aa AJ}{r:R}(h:ZC T σ b d=AC r)(f:AR D ι d.toArray c):
  Ab P D ι σ w (do pure (.pointer (AC (<-newRow b c)))) r:=by
 unfold ZC at h
 split at h
 ·rename_i i p;cases a:Af (EH d.length i.size) 0
  ·rw[a]at h;cases h
  rw[a,Ag]at h;have a:d.length%i.size=0:=Br a;cases h;refine⟨by simp[St.new],λg=>⟨St.new_wf g _,AFr.new _ _ _⟩,λg q _=> ?_⟩;have l:¬D σ.next:=q _ (by simp[St.rng,St.new]);refine⟨.pointer (AC ⟨w.heap.size,0,AF⟩),FR ι σ.next (rg w.heap.size 0 c.size i.size),{ w with heap:=w.heap.push (.cells c b (0,0))},by simp[newRow],?_,?_⟩
  ·have:=VR.ptr (D:=λi=>D i\/σ.rng (σ.new (.row d b AK)) i) (ι:=FR ι σ.next (rg w.heap.size 0 c.size i.size)) σ.next 0 (.inr (St.rng_new.2 rfl));rw[Am]at this;exact this
  ·refine Post.new g l ?_ ?_ ?_ ?_ rfl rfl rfl rfl rfl
   ·have:=f.1;simp at this;omega
   ·intro j n;have:=hT.inf _ _ p;rw[this]at n;cases n;have s:d.length=c.size:=by simpa using f.1
    exact⟨rfl,by rw[<-s];exact a⟩
   ·intro o _ h;omega
   ·intro k v m;have e:k<c.size:=by
     have:=f.1;simp at this;have t:k<d.length:=by
      rcases Cf k d.length with h|h
      ·exact h
      ·rw[DA h]at m;cases m
     omega
    exact⟨c[k],CX e,f.2 k v c[k] (by simpa using m) (CX e)⟩
 ·cases h
def Pf(T:TE)(σ:St)(a:AQ):AP R:=
 match T.inf a with
 |some i=>match i.zero with
  |some z=>bif Au 8 z then ZC T σ a z.cells.toList else AF
  |none=>AF
 |none=>AF
theorem XP{d:AQ}{r:R}(h:Pf T σ d=AC r):Ab P D ι σ w (rT d AD (.tuple #[])) r:=by
 unfold Pf at h
 split at h
 ·rename_i i g
  split at h
  ·rename_i z j;cases f:Au 8 z
   ·rw[f]at h;cases h
   ·rw[f]at h;have k:VR D ι z z:=Bk 8 z f;have:=S0 hT (w:=w) (ι:=ι) (D:=D) (c:=z.cells) h (by simpa using k.cells (ID f));have e:rT d AD (.tuple #[])=(do let zero<-Uh d;pure (.pointer (AC (<-newVar d zero)))):=by
     unfold rT;rfl
    obtain⟨l,m,n⟩:=this;refine⟨l,m,λa b c=> ?_⟩;obtain⟨v',ι',w',g1,o,g3⟩:=n a b c;refine⟨v',ι',w',?_,o,g3⟩;rw[e,A7,HT hT g j,Ax];exact g1
  ·cases h
 ·cases h
theorem cn{a:AQ}{v v':AJ}{r:R}(h:ZC T σ a v.cells.toList=AC r)(b:VR D ι v v')(d:RX v=AD):Ab P D ι σ w (Instr.box a v') r:=by
 have:=S0 hT (w:=w) (ι:=ι) (D:=D) (c:=v'.cells) h (by simpa using b.cells d);exact this
omit hT
def S1:AE AJ->AB->AP (AE AJ)
 |_,0=>AC []
 |[],_+1=>AF
 |x::a,n+1=>match S1 a n with
  |some l=>AC (x::l)
  |none=>AF
def Fm:AE AJ->AB->AB->AP (AE AJ)
 |cs,0,n=>S1 cs n
 |[],_+1,n=>S1 [] n
 |_::cs,o+1,n=>Fm cs o n
def XQ:AE AJ->AB->AP AJ
 |[],_=>AF
 |x::_,0=>AC x
 |_::a,n+1=>XQ a n
theorem Rq:∀(l:AE AJ) (k:AB),XQ l k=l[k]?
 |[],k=>by simp[XQ]
 |x::a,0=>by simp[XQ]
 |x::a,k+1=>by simp[XQ,Rq a k]
theorem NF:∀(a:AE AJ) (n:AB) (l:AE AJ),S1 a n=AC l->l.length=n/\n<=a.length/\∀j,j<n->l[j]?=a[j]?
 |_,0,l,h=>by simp[S1]at h;subst h;simp
 |[],n+1,l,h=>by simp[S1]at h
 |x::b,n+1,l,h=>by
  simp only[S1]at h
  split at h
  ·rename_i c d;cases h;obtain⟨e,g,f⟩:=NF b n c d;refine⟨by simp[e],by simp;omega,λj i=> ?_⟩;rcases j with _|j
   ·simp
   ·simpa using f j (by omega)
  ·cases h
theorem Ev:∀(cs:AE AJ) (o n:AB) (l:AE AJ),Fm cs o n=AC l->l.length=n/\(0<n->o+n<=cs.length)/\∀j,j<n->l[j]?=cs[o+j]?
 |cs,0,n,l,h=>by
  obtain⟨a,b,c⟩:=NF cs n l (by simpa[Fm]using h);exact⟨a,λ_=>by omega,λj d=>by simpa using c j d⟩
 |[],o+1,n,l,h=>by
  obtain⟨a,b,c⟩:=NF [] n l (by simpa[Fm]using h);simp at b;exact⟨a,λh=>by omega,λj d=>by omega⟩
 |x::e,o+1,n,l,h=>by
  obtain⟨a,b,c⟩:=Ev e o n l (by simpa[Fm]using h);refine⟨a,λh=>by have:=b h;simp;omega,λj d=> ?_⟩;rw[c j d,show o+1+j=(o+j)+1 by omega];simp
def J3(id:AB):AB->AB->AE (AB×AB)
 |_,0=>[]
 |o,n+1=>(id,o)::J3 id (o+1) n
theorem Di{id:AB}:∀{n o j k:AB},(j,k)∈J3 id o n↔j=id/\o<=k/\k<o+n
 |0,o,j,k=>by simp only[J3,List.not_mem_nil,false_iff];omega
 |n+1,o,j,k=>by
  simp only[J3,List.mem_cons,Prod.mk.injEq,Di (n:=n)];omega
def J4:Jw->AH
 | .struct _| .array _ _=>AD
 |_=>AK
include hT
theorem Ec{t:AQ}{d:Jw}(h:T.und t=AC d)(w:AN):(isAgg t).run P w=.ok (J4 d) w:=by
 simp only[isAgg,A7,Ah hT h,Ax];cases d<;>rfl
omit hT
theorem CU(b o n:AB):(⟨b,o,AF⟩:EG).add n=⟨b,o+n,AF⟩:=by
 unfold Addr.add;split
 ·rename_i a;subst a;rfl
 ·rfl
theorem Vf{w w':AN}(h:w'.heap=w.heap)(a:EG):w'.cell? a=w.cell? a:=by simp only[C0,h]
theorem Dj{id off n:AB}{k l:AE AJ}{e:AQ}{s:AH}{φ:Foot}(q:σ.heap.get id=AC (.row k e s))(t:Fm k off n=AC l)(x:HOn P D ι σ.H φ w)(y:∀j,j<n->φ.Fc id (off+j)):
  ∃c:Aa AJ,(∀w':AN,w'.heap=w.heap->(loadCells ⟨(ι id).blk,(ι id).base+off,AF⟩ n).run P w'=.ok c w')/\AR D ι l.toArray c:=by
 obtain⟨z,C,A⟩:=Ev k off n l t;have r:∀j,j<n->∃v v',l[j]?=AC v/\w.cell? ⟨(ι id).blk,(ι id).base+off+j,AF⟩=AC v'/\VR D ι v v':=by
  intro j g;have d:l[j]?=AC l[j]:=B4 (by omega);obtain⟨-,v',m,o⟩:=x.ce id (off+j) l[j] (y j g) (St.lv_of q) (by rw[St.cell_of q,<-A j g,d]);exact⟨l[j],v',d,by rw[Dg];exact m,o⟩
 refine⟨_,λw' p=>yl w' _ n (λj=>(w.cell? ⟨(ι id).blk,(ι id).base+off+j,AF⟩).getD Bi) λj g=> ?_,?_,?_⟩
 ·obtain⟨v,v',_,e,_⟩:=r j g;rw[CU,Vf p,e];rfl
 ·simp[z]
 ·intro i v v' b a;have f:i<n:=by
   rcases Cf i n with h|h
   ·exact h
   ·simp only[ANI]at b;rw[DA (by omega)]at b;cases b
  obtain⟨u,E,m,o,B⟩:=r i f;simp only[ANI]at b a;rw[m]at b;cases b;simp[f,o]at a;rw[<-a];exact B
def Mm(T:TE)(σ:St)(t:AQ)(a:AJ):AP R:=
 match a with
 | .pointer (AC ⟨id,off,AF⟩)=>match σ.heap.get id with
   |some (.row b _ _)=>match T.und t with
    |some d=>bif J4 d then
     match T.inf t with
     |some i=>match Fm b off i.size with
      |some l=>AC ⟨.agg l.toArray,σ,⟨J3 id off i.size,[],[],[]⟩⟩
      |none=>AF
     |none=>AF
     else match XQ b off with
      |some v=>AC ⟨v,σ,⟨[(id,off)],[],[],[]⟩⟩
      |none=>AF
    |none=>AF
   |_=>AF
 |_=>AF
theorem VR.ptr_inv{id off:AB}{v':AJ}(h:VR D ι (.pointer (AC ⟨id,off,AF⟩)) v'):v'=.pointer (AC ⟨(ι id).blk,(ι id).base+off,AF⟩)/\D id:=by
 cases h with|ptr _ _ h=>exact⟨rfl,h⟩
include hT
theorem ZD{t:AQ}{a n:AJ}{r:R}(h:Mm T σ t a=AC r)(o:VR D ι a n):Ab P D ι σ w (Kq t n) r:=by
 unfold Mm at h
 split at h
 ·rename_i id off;obtain⟨rfl,x⟩:=o.ptr_inv
  split at h
  ·rename_i y e z k
   split at h
   ·rename_i d hd;cases b:J4 d
    ·rw[b,BZ,Rq]at h
     split at h
     ·rename_i v p;cases h;refine Ab.same (w':=w) (v':=(w.cell? ⟨(ι id).blk,(ι id).base+off,AF⟩).getD Bi) (λm=> ?_) rfl rfl;obtain⟨-,v',f,g⟩:=m.ce id off v (.inl (by simp)) (St.lv_of k) (by rw[St.cell_of k];exact p);refine⟨?_,by rw[f];exact g,rfl,rfl,rfl⟩;simp only[Kq,Gs,loadVar,A7,A9,Ax,Ec hT hd,b,CI,BR,run_load,f]
      rfl
     ·cases h
    ·rw[b,Ag]at h
     split at h
     ·rename_i i q
      split at h
      ·rename_i l s;cases h;refine⟨Ak _,λu=>⟨u,AFr.refl _ _⟩,λ_ _ m=> ?_⟩;obtain⟨c,f,g⟩:=Dj k s m λj A=>.inl (Di.2 ⟨rfl,by omega,by omega⟩)
       refine⟨.agg c,ι,w,?_,(VR.agg _ _ g.1 g.2).mono (λ_=>.inl) λ_ _=>rfl,Post.same (St.rng_self σ) rfl rfl rfl rfl rfl⟩;simp only[Kq,Gs,loadVar,A7,A9,Ax,Ec hT hd,b,ANH,Bb hT q,f w rfl]
      ·cases h
     ·cases h
   ·cases h
  ·cases h
 ·cases h
omit hT
def S2:AE AJ->AE AJ->AP (AE AJ)
 |cs,[]=>AC cs
 |[],_::_=>AF
 |_::cs,v::vs=>match S2 cs vs with
  |some l=>AC (v::l)
  |none=>AF
def lput:AE AJ->AB->AE AJ->AP (AE AJ)
 |cs,0,vs=>S2 cs vs
 |[],_+1,vs=>S2 [] vs
 |c::cs,o+1,vs=>match lput cs o vs with
  |some l=>AC (c::l)
  |none=>AF
theorem NG:∀(cs vs a:AE AJ),S2 cs vs=AC a->a.length=cs.length/\vs.length<=cs.length/\∀k,a[k]?=if k<vs.length then vs[k]? else cs[k]?
 |cs,[],a,h=>by simp[S2]at h;subst h;simp
 |[],v::vs,a,h=>by simp[S2]at h
 |c::cs,v::vs,a,h=>by
  simp only[S2]at h
  split at h
  ·rename_i l b;cases h;obtain⟨d,f,e⟩:=NG cs vs l b;refine⟨by simp[d],by simp;omega,λk=> ?_⟩;rcases k with _|k
   ·simp
   ·simpa using e k
  ·cases h
theorem MS:∀(cs:AE AJ) (o:AB) (vs a:AE AJ),lput cs o vs=AC a->a.length=cs.length/\(vs≠[]->o+vs.length<=cs.length)/\
  ∀k,a[k]?=if o<=k/\k<o+vs.length then vs[k-o]? else cs[k]?
 |cs,0,vs,a,h=>by
  obtain⟨b,e,d⟩:=NG cs vs a (by simpa[lput]using h);exact⟨b,λ_=>by omega,λk=>by simpa using d k⟩
 |[],o+1,vs,a,h=>by
  obtain⟨b,e,d⟩:=NG [] vs a (by simpa[lput]using h);have:vs=[]:=by simpa using e
  subst this;exact⟨b,λh=>Aq rfl h,λk=>by have:=d k;simp at this⊢;exact this⟩
 |c::cs,o+1,vs,a,h=>by
  simp only[lput]at h
  split at h
  ·rename_i l g;cases h;obtain⟨b,e,d⟩:=MS cs o vs l g;refine⟨by simp[b],λh=>by have:=e h;simp;omega,λk=> ?_⟩;rcases k with _|k
   ·rw[AY (by omega)];simp
   ·have:=d k;simp only[RL,this,show k+1-(o+1)=k-o by omega];by_cases f:o<=k/\k<o+vs.length
    ·rw[Ae f,Ae (by omega)]
    ·rw[AY f,AY (by omega)]
  ·cases h
theorem AFr.lput{id off:AB}{d b vs:AE AJ}{a:AQ}{φ:Foot}(e:σ.heap.get id=AC (.row d a AK))(f:lput d off vs=AC b)(g:φ.wc=J3 id off vs.length):
  AFr σ (σ.put id (AC (.row b a AK))) φ:=by
 obtain⟨g1,_,g3⟩:=MS d off vs b f;refine AFr.put e g1 λk h=> ?_
 rw[g3,AY];intro c;exact h (by rw[g];exact Di.2 ⟨rfl,c.1,c.2⟩)
theorem JE{id off:AB}{m d vs:AE AJ}{b:AQ}{rc:AE (AB×AB)}{rh:AE AB}{vs':AE AJ}(t:σ.heap.get id=AC (.row m b AK))(y:lput m off vs=AC d)(g:vs≠[])(z:∀v∈vs,oneC v=AD)(A:HOn P D ι σ.H ⟨rc,rh,J3 id off vs.length,[]⟩ w)(K:vs.length=vs'.length)(h:∀(k:AB) v v',vs[k]?=AC v->vs'[k]?=AC v'->VR D ι v v'):
  ∃w':AN,(Mv ⟨(ι id).blk,(ι id).base+off,AF⟩ vs').run P w=.ok () w'/\
   Post P D (σ.rng (σ.put id (AC (.row d b AK)))) ι σ.H w ⟨rc,rh,J3 id off vs.length,[]⟩ ι (σ.put id (AC (.row d b AK))).H w':=by
 obtain⟨g1,u,g3⟩:=MS m off vs d y;have u:=u g;have x:0<vs.length:=List.length_pos_iff.2 g;have n:(⟨rc,rh,J3 id off vs.length,[]⟩:Foot).Fi id:=.inr (.inr (.inl ⟨off,Di.2 ⟨rfl,by omega,by omega⟩⟩));have hd:=A.hd id _ n (St.hdr_of t);obtain⟨c,a,fr,q,B,C,E,i⟩:=hd
 obtain⟨rfl,L,F⟩:=i rfl;have hd:BI P ι id w (.row m.length a AK):=⟨c,a,fr,q,B,C,E,i⟩
 refine⟨_,Ft P _ ((ι id).base+off) a fr vs' 0 c w q (by omega) (λv' r=> ?_) F,?_⟩
 ·obtain⟨k,f,rfl⟩:=yp.1 r;exact(h k (vs[k]'(by omega)) _ (B4 (by omega)) (B4 f)).oneC (z _ (EK _))
 ·refine Post.write t hd q rfl rfl rfl (Ad _ _ _) g1 (λp G=>(Di (j:=p.1) (k:=p.2)).1 G|>.1) (λo s=> ?_) (λk v I f=> ?_) λk f=> ?_
  ·rw[DL _ _ _ _ (by omega),AY];intro e;refine s (o-(ι id).base) (Di.2 ⟨rfl,by omega,by omega⟩) (by omega)
  ·have J:=(Di.1 I).2;rw[g3,Ae (by omega)]at f;have l:k-off<vs'.length:=by omega
   refine⟨vs'[k-off],?_,h (k-off) v _ f (B4 l)⟩;rw[DL _ _ _ _ (by omega),Ae (by omega),show(ι id).base+k-((ι id).base+off+0)=k-off by omega];exact B4 l
  ·rw[g3,AY];intro e;exact f (Di.2 ⟨rfl,e.1,e.2⟩)
def Pg(T:TE)(σ:St)(t:AQ)(a v:AJ):AP R:=
 match a with
 | .pointer (AC ⟨id,off,AF⟩)=>match σ.heap.get id with
   |some (.row e b AK)=>match T.inf t with
    |some i=>match v.cells.toList with
     |[]=>AF
     |x::c=>bif Af i.size (c.length+1)&&(x::c).all oneC then
       match lput e off (x::c)with
       |some d=>AC ⟨Bi,σ.put id (AC (.row d b AK)),⟨[],[],J3 id off (c.length+1),[]⟩⟩
       |none=>AF
      else AF
    |none=>AF
   |_=>AF
 |_=>AF
include hT
theorem XR{t:AQ}{a q v v':AJ}{r:R}(h:Pg T σ t a v=AC r)(A:VR D ι a q)(B:VR D ι v v'):Ab P D ι σ w (do Mw t q v';pure Bi) r:=by
 unfold Pg at h
 split at h
 ·rename_i id off;obtain⟨rfl,K⟩:=A.ptr_inv
  split at h
  ·rename_i L s g
   split at h
   ·rename_i i C
    split at h
    ·cases h
    ·rename_i x f j;cases c:(Af i.size (f.length+1)&&(x::f).all oneC)
     ·rw[c]at h;cases h
     ·rw[c,Ag]at h;rw[A0]at c
      split at h
      ·rename_i E y;cases h;refine⟨Ak _,λl=>⟨St.put_wf l (St.lv_lt l (St.lv_of g)) _,AFr.lput g y (by simp)⟩,λl F G=> ?_⟩;have m:RX v=true:=by
        cases v with
        |chan r=>cases r with
         |none=>rfl
         |some r=>
          have e:[x]=[x]:=rfl;have n:[Value.chan (AC r)]=x::f:=j;have d:=c.2;rw[<-n]at d;cases d
        |_=>rfl
       obtain⟨c1,c2⟩:=B.cells m;have b:(x::f).length=v'.cells.toList.length:=by rw[<-j];simpa using c1
       obtain⟨w',H,I⟩:=JE (vs':=v'.cells.toList) g y (by simp) (C8.1 c.2) G b λk u J z o=>c2 k u J (by rw[<-j]at z;simpa using z) (by simpa using o)
       refine⟨Bi,ι,w',?_,.tuple #[] #[] rfl (by simp),I⟩;have p:¬v'.cells.size≠i.size:=by
        have:=Br c.1;simp at b;omega
       simp only[Mw,Gs,storeVar,A7,A9,Ax,Bb hT C];rw[AY p,H];rfl
      ·cases h
   ·cases h
  ·cases h
 ·cases h
def Gy(T:TE)(σ:St)(s:AQ)(a:AJ)(f:AB):AP R:=
 match a with
 | .pointer (AC ⟨id,off,AF⟩)=>match T.und s with
   |some (.struct c)=>match c[f]? with
    |some b=>match T.inf b.type with
     |some i=>bif Af i.size 0 then AF else AC ⟨.pointer (AC ⟨id,off+b.offset,AF⟩),σ,.nil⟩
     |none=>AF
    |none=>AF
   |_=>AF
 |_=>AF
theorem Ph{s:AQ}{a c:AJ}{f:AB}{r:R}(h:Gy T σ s a f=AC r)(d:VR D ι a c):Ab P D ι σ w (bV s c f) r:=by
 unfold Gy at h
 split at h
 ·rename_i id off;obtain⟨rfl,g⟩:=d.ptr_inv
  split at h
  ·rename_i o j
   split at h
   ·rename_i k l
    split at h
    ·rename_i i m;cases b:Af i.size 0
     ·rw[b]at h;cases h;have n:i.size≠0:=λe=>by rw[e]at b;cases b
      refine Ab.pure (v':=.pointer (AC ⟨(ι id).blk,(ι id).base+off+k.offset,AF⟩)) ?_ (by rw[Dg];exact .ptr id _ g);simp only[bV,A7,Ah hT j,Ax,l,Gs,A9,fieldPlace,Bb hT m,AY n,CU]
     ·rw[b]at h;cases h
    ·cases h
   ·cases h
  ·cases h
 ·cases h
def QT(i:Int)(n:AB):AH:=
 match i with
 | .ofNat k=>Cq k n
 | .negSucc _=>AK
omit hT in
theorem NH{i:Int}{n:AB}(h:QT i n=AD):0<=i/\i<n/\i.toNat<n:=by
 cases i with
 |ofNat k=>
  have:k<n:=by simpa[QT]using h
  exact⟨RH k,by simpa using this,by simpa using this⟩
 |negSucc k=>cases h
def Dr(T:TE)(σ:St)(t:AQ)(x b:AJ):AP R:=
 match b with
 | .int _ i=>match T.und t with
   |some (.slice a)=>match x,T.inf a with
    | .slice (AC ⟨id,off,AF⟩) len _,AC e=>bif QT i len then AC ⟨.pointer (AC ⟨id,off+i.toNat*e.size,AF⟩),σ,.nil⟩else AF
    |_,_=>AF
   |some (.array len a)=>match x,T.inf a with
    | .pointer (AC ⟨id,off,AF⟩),AC e=>bif QT i len then AC ⟨.pointer (AC ⟨id,off+i.toNat*e.size,AF⟩),σ,.nil⟩else AF
    |_,_=>AF
   |_=>AF
 |_=>AF
omit hT in
theorem VR.sl_inv{id off l c:AB}{v':AJ}(h:VR D ι (.slice (AC ⟨id,off,AF⟩) l c) v'):
  ∃a,v'=.slice (AC ⟨(ι id).blk,(ι id).base+off,AF⟩) l a/\D id/\(c≠IX->a=c)/\(c=IX->l<=a/\off+a*(ι id).esz<=(ι id).room):=by
 cases h with
 |slK _ _ _ _ h b=>exact⟨c,rfl,h,λ_=>rfl,λe=>Aq e b⟩
 |slU _ _ _ a h d f=>exact⟨a,rfl,h,λe=>Aq rfl e,λ_=>⟨d,f⟩⟩
theorem JS{t:AQ}{x l m b:AJ}{r:R}(h:Dr T σ t x m=AC r)(n:VR D ι x l)(o:VR D ι m b):Ab P D ι σ w (Wh t l b) r:=by
 unfold Dr at h
 split at h
 ·rename_i k i;cases o
  split at h
  ·rename_i c d
   split at h
   ·rename_i id off len cap e f;cases a:QT i len
    ·rw[a]at h;cases h
    ·rw[a,Ag]at h;cases h;obtain⟨p,rfl,g,_,_⟩:=n.sl_inv;obtain⟨j,i2,i3⟩:=NH a;refine Ab.pure (v':=.pointer (AC ⟨(ι id).blk,(ι id).base+off+i.toNat*e.size,AF⟩)) ?_ (by rw[Dg];exact .ptr id _ g);simp only[Wh,MB,A7,A9,Ax,Ah hT d,j,i2,iN,ANH,Bb hT f,CU]
   ·cases h
  ·rename_i len c d
   split at h
   ·rename_i id off e f;cases a:QT i len
    ·rw[a]at h;cases h
    ·rw[a,Ag]at h;cases h;obtain⟨rfl,g⟩:=n.ptr_inv;obtain⟨j,i2,i3⟩:=NH a;refine Ab.pure (v':=.pointer (AC ⟨(ι id).blk,(ι id).base+off+i.toNat*e.size,AF⟩)) ?_ (by rw[Dg];exact .ptr id _ g);simp only[Wh,MB,A7,A9,Ax,Ah hT d,Gs,j,i2,iN,ANH,Bb hT f,CU]
   ·cases h
  ·cases h
 ·cases h
end
end Go.Eng
end
end
section
noncomputable section
namespace Go.Eng
open Go
section
variable {P:Ao} {T:TE} (hT:T.OK P) {D:AB->Prop} {ι:AB->Reg} {σ:St} {w:AN}
def Pi{α:Type}(P:Ao):Sem α->AP α
 | .pure a=>AC a
 | .program k=>Pi P (k P)
 | .mark _ k=>Pi P k
 | .choose q k=>bif q.forced then Pi P (k 0)else AF
 |_=>AF
theorem S3{α:Type}(P:Ao)(e:Sem α):∀(a:α),Pi P e=AC a->∀w,e.run P w=.ok a w:=by
 induction e with
 |pure x=>intro a h w;simp[Pi]at h;subst h;rfl
 |program k b=>intro a h w;simp only[Pi]at h;simp only[My];exact b P a h w
 |mark m k b=>intro a h w;simp only[Pi]at h;simp only[My];exact b a h w
 |choose q k b=>
  intro a h w;simp only[Pi]at h;cases c:q.forced
  ·rw[c]at h;cases h
  ·rw[c,Ag]at h;simp only[My,c,ANH];exact b 0 a h w
 |_=>intro a h;simp[Pi]at h
theorem ANd{e:Sem AJ}{v:AJ}(h:Pi P e=AC v)(a:Au 8 v=AD):Ab P D ι σ w e ⟨v,σ,.nil⟩:=
 Ab.pure (S3 P e v h w) (Bk 8 v a)
def N2(x:AJ)(i:AB):AP AJ:=
 match x with
 | .tuple vs=>bif WQ vs.toList then AF else XQ vs.toList i
 |_=>AF
theorem ZE(as:Aa AJ)(i:AB):XQ as.toList i=as[i]?:=by rw[Rq];simp
theorem S4{x d v:AJ}{i:AB}(h:N2 x i=AC v)(e:VR D ι x d):Ab P D ι σ w (ym d i) ⟨v,σ,.nil⟩:=by
 unfold N2 at h
 split at h
 ·rename_i vs;cases a:WQ vs.toList
  case true=>rw[a]at h;cases h
  rw[a,BZ,ZE]at h;cases e with
  |sym _ _=>cases a
  |err _ _ _=>cases a
  |aint _ _=>cases a
  |dat _ _ _ _ _ _=>cases a
  |pfx _ _ _ _ _ _ _ _=>cases a
  |tuple _ bs f g=>
   have b:i<bs.size:=by
    rw[<-f];rcases Cf i vs.size with c|c
    ·exact c
    ·rw[Jt c]at h;cases h
   refine Ab.pure (v':=bs[i]) ?_ (g i v bs[i] h (CX b));simp[ym,CX b]
 ·cases h
def ff(T:TE)(t:AQ)(a:Aa AJ)(off:AB):AP AJ:=
 match T.und t with
 |some d=>bif J4 d then
   match T.inf t with
   |some i=>match Fm a.toList off i.size with
    |some l=>AC (.agg l.toArray)
    |none=>AF
   |none=>AF
  else XQ a.toList off
 |none=>AF
include hT
theorem Vg{t:AQ}{as bs:Aa AJ}{off:AB}{v:AJ}(h:ff T t as off=AC v)(g:AR D ι as bs)(w:AN):
  ∃v',(part t bs off).run P w=.ok v' w/\VR D ι v v':=by
 unfold ff at h
 split at h
 ·rename_i d hd;cases a:J4 d
  ·rw[a,BZ,ZE]at h;have f:off<bs.size:=by
    rw[<-g.1];rcases Cf off as.size with e|e
    ·exact e
    ·rw[Jt e]at h;cases h
   refine⟨bs[off],?_,g.2 off v bs[off] h (CX f)⟩;simp only[part,A7,Ec hT hd,a,Ax,CI,BR,CX f,A9]
  ·rw[a,Ag]at h
   split at h
   ·rename_i i m
    split at h
    ·rename_i l n;cases h;obtain⟨o,j,p⟩:=Ev _ _ _ _ n;simp only[D0]at j;have s:=g.1;refine⟨.agg (bs.extract off (off+i.size)),?_,.agg _ _ ?_ λk v v' b c=> ?_⟩
     ·simp only[part,A7,Ec hT hd,a,Ax,ANH,Bb hT m,A9]
     ·simp only[List.size_toArray,o,Array.size_extract];by_cases q:0<i.size
      ·have:=j q;omega
      ·omega
     ·have r:k<i.size:=by
       rcases Cf k i.size with e|e
       ·exact e
       ·simp only[ANI]at b;rw[DA (by omega)]at b;cases b
      simp only[ANI]at b;rw[p k r]at b;simp only[Bf]at b;rw[Array.getElem?_extract]at c;have:=j (by omega);rw[Ae (by omega)]at c;exact g.2 _ v v' b c
    ·cases h
   ·cases h
 ·cases h
def XS(T:TE)(t:AQ)(x:AJ)(f:AB):AP AJ:=
 match x with
 | .agg b=>match T.und t with
   |some (.struct c)=>match c[f]? with
    |some a=>ff T a.type b a.offset
    |none=>AF
   |_=>AF
 |_=>AF
theorem XT{t:AQ}{x a v:AJ}{f:AB}(h:XS T t x f=AC v)(b:VR D ι x a):Ab P D ι σ w (yn t a f) ⟨v,σ,.nil⟩:=by
 unfold XS at h
 split at h
 ·rename_i k
  split at h
  ·rename_i l c
   split at h
   ·rename_i m d;cases b with
    |agg _ bs g i=>
     obtain⟨v',e,j⟩:=Vg hT h ⟨g,i⟩ w;refine Ab.pure (v':=v') ?_ j;simp only[yn,A7,Ah hT c,Ax,d,asAgg,A9,e]
   ·cases h
  ·cases h
 ·cases h
omit hT
def jU:L8->AB->AP UInt8
 |[],_=>AF
 |x::_,0=>AC x
 |_::a,n+1=>jU a n
theorem fg:∀(l:L8) (k:AB),jU l k=l[k]?
 |[],k=>by simp[jU]
 |x::a,0=>by simp[jU]
 |x::a,k+1=>by simp[jU,fg a k]
theorem Vh(s:Cg)(k:AB):s[k]?=s.data.toList[k]?:=by
 rw[getElem?_def];by_cases h:k<s.size
 ·rw[dif_pos h];have:k<s.data.toList.length:=by simpa using h
  rw[B4 this];rfl
 ·rw[dif_neg h,DA (by simpa using h)]
def XU(T:TE)(t:AQ)(x c:AJ):AP AJ:=
 match c with
 | .int _ i=>match x with
   | .string s=>match T.und t with
     |some .string=>match i with
      | .ofNat k=>match jU s.data.toList k with
        |some b=>AC (.int .u8 b.toNat)
        |none=>AF
      |_=>AF
     |_=>AF
   | .agg d=>match T.und t with
     |some (.array len a)=>match T.inf a with
      |some e=>bif QT i len then ff T a d (i.toNat*e.size)else AF
      |none=>AF
     |_=>AF
   |_=>AF
 |_=>AF
include hT
theorem XV{t:AQ}{x f g a v:AJ}(h:XU T t x g=AC v)(j:VR D ι x f)(m:VR D ι g a):Ab P D ι σ w (Wg t f a) ⟨v,σ,.nil⟩:=by
 unfold XU at h
 split at h
 ·rename_i k i;cases m
  split at h
  ·rename_i s;cases j
   split at h
   ·rename_i d
    split at h
    ·rename_i n;rw[fg]at h
     split at h
     ·rename_i b c;cases h;refine Ab.pure (v':=.int .u8 b.toNat) ?_ (.int _ _);have o:(0:Int)<=(n:Int):=RH n;simp only[Wg,MB,A7,A9,Ax,Ah hT d,o,ANH,yo,Hu,Vh,c]
     ·cases h
    ·cases h
   ·cases h
  ·rename_i A
   split at h
   ·rename_i len l d
    split at h
    ·rename_i e p;cases c:QT i len
     ·rw[c]at h;cases h
     ·rw[c,Ag]at h;obtain⟨q,i2,i3⟩:=NH c;cases j with
      |agg _ bs r u=>
       obtain⟨v',y,z⟩:=Vg hT h ⟨r,u⟩ w;refine Ab.pure (v':=v') ?_ z;simp only[Wg,MB,A7,A9,Ax,Ah hT d,q,i2,iN,ANH,Bb hT p,y]
    ·cases h
   ·cases h
  ·cases h
 ·cases h
omit hT
def jV(s:L8)(l h:AB):L8:=(s.drop l).take (h-l)
theorem Rr(s:Cg)(l h:AB):s.extract l h=⟨(jV s.data.toList l h).toArray⟩:=by
 apply Kp;rw[AJC];apply Gr;simp[jV,List.extract]
def DS(v:AP AJ)(dflt a:AB):AP AB:=
 match v with
 |none=>AC dflt
 |some (.int _ (.ofNat k))=>bif B8 k a then AC k else AF
 |_=>AF
theorem DT{x:AJ}{y k:AB}{code:BoundsCode}{dflt:AB}(h:DS (AC x) dflt y=AC k){d:AJ}(e:VR D ι x d)(w:AN):
  (bW d y code).run P w=.ok k w/\k<=y:=by
 unfold DS at h
 split at h
 ·rename_i b;cases b
 ·rename_i b;cases b;rename_i kk n;cases c:B8 n y
  ·rw[c]at h;cases h
  ·rw[c]at h;cases h;cases e;have a:=GJ c;refine⟨?_,a⟩;have f:(0:Int)<=(k:Int):=RH k;have g:(k:Int)<=(y:Int):=by simpa using a
   simp only[bW,MB,A7,A9,Ax,f,g,iN,ANH,yo,Hu]
 ·cases h
inductive OR(D:AB->Prop)(ι:AB->Reg):AP AJ->AP AJ->Prop where
 |none:OR D ι AF AF
 |some (a b) (h:VR D ι a b):OR D ι (AC a) (AC b)
def J5(len cap:AB)(lo a b:AP AJ):AP (AB×AB×AB):=
 match DS b cap cap with
 |some m=>match DS a len m with
  |some h=>match DS lo 0 h with
   |some l=>match a,b with
    |none,AC _=>AF
    |_,_=>AC (l,h,m)
   |none=>AF
  |none=>AF
 |none=>AF
theorem HU{isSl:AH}{len cap cap':AB}{lo G z q r s:AP AJ}{l h m:AB}(i:J5 len cap lo G z=AC (l,h,m))(J:cap<=cap')(A:z=AF->cap'=cap)(B:OR D ι lo q)(H:OR D ι G r)(K:OR D ι z s)(t:len<=cap)(w:AN):
  (Ga isSl len cap' q r s).run P w=.ok (l,h,m) w/\l<=h/\h<=m/\m<=cap:=by
 unfold J5 at i
 split at i
 ·rename_i I f
  split at i
  ·rename_i L j
   split at i
   ·rename_i M k;have up:∀a,DS (AC a) cap cap=AC I->DS (AC a) cap cap'=AC I:=by
     intro a f;unfold DS at f⊢
     split at f
     ·rename_i h;cases h
     ·rename_i kk n e;cases e;cases C:B8 n cap
      ·rw[C]at f;cases f
      ·rw[C]at f;have:B8 n cap'=true:=rV (Ea (GJ C) J);simp only[this,Ag];exact f
     ·cases f
    split at i
    ·cases i
    ·rename_i E;cases i;cases K with
     |none=>
      simp only[DS,BJ]at f;subst f;have F:=A rfl;subst F;cases H with
      |none=>
       simp only[DS,BJ]at j;subst j;cases B with
       |none=>
        simp only[DS,BJ]at k;subst k;exact⟨by simp[Ga],Cx _,t,Ak _⟩
       |some a b g=>
        have e:=λc=>DT (P:=P) (code:=c) k g w
        exact⟨by simp[Ga,(e _).1],(e .index).2,t,Ak _⟩
      |some c d p=>
       have o:=λc=>DT (P:=P) (code:=c) j p w
       cases B with
       |none=>
        simp only[DS,BJ]at k;subst k;exact⟨by simp[Ga,(o _).1],Cx _,(o .index).2,Ak _⟩
       |some a b g=>
        have e:=λc=>DT (P:=P) (code:=c) k g w
        exact⟨by simp[Ga,(e _).1,(o _).1],(e .index).2,(o .index).2,Ak _⟩
     |some u v x=>
      have em:=λc=>DT (P:=P) (code:=c) (up u f) x w
      have y:=DT (P:=P) (code:=.index) f x w;cases H with
      |none=>exact Aq rfl (E u rfl)
      |some c d p=>
       have o:=λc=>DT (P:=P) (code:=c) j p w
       cases B with
       |none=>
        simp only[DS,BJ]at k;subst k;exact⟨by simp[Ga,(em _).1,(o _).1],Cx _,(o .index).2,y.2⟩
       |some a b g=>
        have e:=λc=>DT (P:=P) (code:=c) k g w
        exact⟨by simp[Ga,(e _).1,(em _).1,(o _).1],(e .index).2,(o .index).2,y.2⟩
   ·cases i
  ·cases i
 ·cases i
end
end Go.Eng
end
end
section
noncomputable section
namespace Go.Eng
open Go
section
variable {P:Ao} {T:TE} (hT:T.OK P) {D:AB->Prop} {ι:AB->Reg} {σ:St} {w:AN}
theorem QU{len cap':AB}{lo r j k:AP AJ}{l h:AB}(p:DS r len len=AC h)(i:DS lo 0 h=AC l)(u:len<=cap')(s:OR D ι lo j)(v:OR D ι r k)(w:AN):
  (Ga AD len cap' j k AF).run P w=.ok (l,h,cap') w/\l<=h/\h<=len:=by
 have up:∀a,DS (AC a) len len=AC h->DS (AC a) len cap'=AC h:=by
  intro a f;unfold DS at f⊢
  split at f
  ·rename_i h;cases h
  ·rename_i kk n e;cases e;cases q:B8 n len
   ·rw[q]at f;cases f
   ·rw[q]at f;have:B8 n cap'=true:=rV (Ea (GJ q) u);simp only[this,Ag];exact f
  ·cases f
 cases v with
 |none=>
  simp only[DS,BJ]at p;subst p;cases s with
  |none=>
   simp only[DS,BJ]at i;subst i;exact⟨by simp[Ga],Cx _,Ak _⟩
  |some a b g=>
   have e:=λc=>DT (P:=P) (code:=c) i g w
   exact⟨by simp[Ga,(e _).1],(e .index).2,Ak _⟩
 |some c d m=>
  have t:=λc=>DT (P:=P) (code:=c) (up _ p) m w
  have o:=DT (P:=P) (code:=.index) p m w;cases s with
  |none=>
   simp only[DS,BJ]at i;subst i;exact⟨by simp[Ga,(t _).1],Cx _,o.2⟩
  |some a b g=>
   have e:=λc=>DT (P:=P) (code:=c) i g w
   exact⟨by simp[Ga,(e _).1,(t _).1],(e .index).2,o.2⟩
def Pj(T:TE)(σ:St)(t:AQ)(x:AJ)(lo c d:AP AJ):AP R:=
 match T.und t with
 |some .string=>match x,d with
  | .string s,AF=>match J5 s.size s.size lo c AF with
    |some (l,h,_)=>AC ⟨.string ⟨(jV s.data.toList l h).toArray⟩,σ,.nil⟩
    |none=>AF
  |_,_=>AF
 |some (.slice a)=>match T.inf a with
  |some e=>match x with
   | .slice AF len cap=>bif B8 len cap then match J5 len cap lo c d with
     |some (l,h,m)=>AC ⟨.slice AF (h-l) (m-l),σ,.nil⟩
     |none=>AF else AF
   | .slice (AC ⟨id,off,AF⟩) len cap=>
     bif Af cap IX then match d with
      |none=>match DS c len len with
       |some h=>match DS lo 0 h with
        |some l=>bif Af l 0||Nat.blt l len then match σ.heap.get id with
         |some (.row _ b AK)=>bif Af b a then AC ⟨.slice (AC ⟨id,off+l*e.size,AF⟩) (h-l) IX,σ,⟨[],[id],[],[]⟩⟩else AF
         |_=>AF
         else match σ.heap.get id with
          |some (.row _ b AK)=>bif Af b a&&Af l len&&Af h len then AC ⟨.slice (AC ⟨id,off+l*e.size,AC 0⟩) 0 IX,σ,⟨[],[id],[],[]⟩⟩else AC ⟨junk,σ,.nil⟩
          |_=>AC ⟨junk,σ,.nil⟩
        |none=>AF
       |none=>AF
      |some f=>match J5 len len lo c (AC f)with
       |some (l,h,m)=>bif Cq len IX then AC ⟨.slice (AC ⟨id,bif Af m l then off else off+l*e.size,AF⟩) (h-l) (m-l),σ,.nil⟩else AF
       |none=>AF
     else bif B8 len cap&&Cq cap IX then match J5 len cap lo c d with
      |some (l,h,m)=>AC ⟨.slice (AC ⟨id,bif Af m l then off else off+l*e.size,AF⟩) (h-l) (m-l),σ,.nil⟩
      |none=>AF
     else AF
   |_=>AF
  |none=>AF
 |some (.array n a)=>match T.inf a with
  |some e=>match x with
   | .pointer (AC ⟨id,off,AF⟩)=>bif Cq n IX then match J5 n n lo c d with
     |some (l,h,m)=>AC ⟨.slice (AC ⟨id,bif Af m l then off else off+l*e.size,AF⟩) (h-l) (m-l),σ,.nil⟩
     |none=>AF
     else AF
   |_=>AF
  |none=>AF
 |_=>AF
theorem tV{α:Type}(a b:AB)(x y:α):(bif Af a b then x else y)=if a=b then x else y:=by
 by_cases h:a=b
 ·rw[Ei h,Ae h];rfl
 ·rw[aP h,AY h];rfl
theorem VR.cut{id off l h m sz:AB}(a:D id)(c:m<IX):
  VR D ι (.slice (AC ⟨id,bif Af m l then off else off+l*sz,AF⟩) (h-l) (m-l))
   (.slice (if m=l then AC ⟨(ι id).blk,(ι id).base+off,AF⟩else AC ⟨(ι id).blk,(ι id).base+off+l*sz,AF⟩) (h-l) (m-l)):=by
 rw[tV];have b:m-l≠IX:=by omega
 by_cases e:m=l
 ·rw[Ae e,Ae e];exact .slK id off _ _ a b
 ·rw[AY e,AY e,Dg];exact .slK id _ _ _ a b
include hT
theorem XW{t:AQ}{x Z:AJ}{lo hi mx z A H:AP AJ}{r:R}(h:Pj T σ t x lo hi mx=AC r)(K:VR D ι x Z)(B:OR D ι lo z)(C:OR D ι hi A)(F:OR D ι mx H):
  Ab P D ι σ w (FA t Z z A H) r:=by
 unfold Pj at h
 split at h
 ·rename_i q
  split at h
  ·rename_i s;cases K;cases F
   split at h
   ·rename_i l f m b;cases h;obtain⟨e,_⟩:=HU (P:=P) (isSl:=AK) b (Ak _) (λ_=>rfl) B C .none (Ak _) w;refine Ab.pure (v':=.string (s.extract l f)) ?_ (by rw[Rr];exact .string _);simp only[FA,FN,A7,Ah hT q,Ax,Df,CI,BR,e,A9]
   ·cases h
  ·cases h
 ·rename_i o q
  split at h
  ·rename_i e u
   split at h
   ·rename_i len cap;cases b:B8 len cap
    ·rw[b]at h;cases h
    ·rw[b,Ag]at h
     split at h
     ·rename_i l f m i;cases h;cases K;obtain⟨er,_⟩:=HU (P:=P) (isSl:=AD) i (Ak _) (λ_=>rfl) B C F (GJ b) w;refine Ab.pure (v':=.slice AF (f-l) (m-l)) ?_ (.slN _ _);simp only[FA,FN,A7,Ah hT q,Ax,er,Bb hT u,A9,Option.map_none,ite_self]
     ·cases h
   ·rename_i id off len cap;obtain⟨g,rfl,E,hk,I⟩:=K.sl_inv;have L:∀l,Option.map (λa:EG=>a.add (l*e.size)) (AC (⟨(ι id).blk,(ι id).base+off,AF⟩:EG))=AC ⟨(ι id).blk,(ι id).base+off+l*e.size,AF⟩:=λl=>by
     simp only[Ib,CU]
    cases j:Af cap IX
    ·rw[j,BZ]at h;have Q:cap≠IX:=λe=>by rw[Ei e]at j;cases j
     obtain rfl:=hk Q;cases b:(B8 len g&&Cq g IX)
     ·rw[b]at h;cases h
     ·rw[b,Ag]at h;rw[A0]at b;have hlt:g<IX:=by simpa using b.2
      split at h
      ·rename_i l f m i;cases h;obtain⟨er,M,N,e3⟩:=HU (P:=P) (isSl:=AD) i (Ak _) (λ_=>rfl) B C F (GJ b.1) w;refine Ab.pure ?_ (VR.cut E (by omega));simp only[FA,FN,A7,Ah hT q,Ax,er,Bb hT u,A9,L]
      ·cases h
    ·rw[j,Ag]at h;have j:=Br j;obtain⟨O,u2⟩:=I j
     split at h
     ·cases F
      split at h
      ·rename_i f hh
       split at h
       ·rename_i l hl;cases v:(Af l 0||Nat.blt l len)
        ·rw[v,BZ]at h;obtain⟨er,M,N⟩:=QU (P:=P) hh hl O B C w;have p:(FA t (.slice (AC ⟨(ι id).blk,(ι id).base+off,AF⟩) len g) z A AF).run P w=.ok (.slice (if g=l then AC ⟨(ι id).blk,(ι id).base+off,AF⟩else AC ⟨(ι id).blk,(ι id).base+off+l*e.size,AF⟩) (f-l) (g-l)) w:=by
          simp only[FA,FN,A7,Ah hT q,Ax,er,Bb hT u,A9,L]
         split at h
         ·rename_i cs k S;cases d:(Af k o&&Af l len&&Af f len)
          ·rw[d]at h;cases h;exact Ab.pure p (.junk _)
          ·rw[d,Ag]at h;rw[A0,A0]at d;obtain⟨⟨U,V⟩,W⟩:=d;have U:=Br U;have V:=Br V;have W:=Br W;subst U V W;cases h;refine Ab.same (w':=w) (λX=> ?_) rfl rfl (v':=.slice (if g=f then AC ⟨(ι id).blk,(ι id).base+off,AF⟩else AC ⟨(ι id).blk,(ι id).base+off+f*e.size,AF⟩) (f-f) (g-f))
           obtain⟨c,_,fr,_,_,_,_,g4⟩:=X.hd id _ (.inr (.inl (by simp))) (St.hdr_of S);have y:=((g4 rfl).2.1 e (hT.inf _ _ u)).1;refine⟨p,?_,rfl,rfl,rfl⟩;rw[bY];have hmul:f*e.size<=g*(ι id).esz:=by rw[y];exact Gc _ O
           by_cases G:g=f
           ·rw[Ae G,G,bY];exact .slE id _ off 0 E (by omega) (.inl rfl)
           ·rw[AY G,Dg];refine .slE id _ _ _ E (by omega) (.inr ⟨rfl,?_⟩);have:f*e.size+(g-f)*(ι id).esz=g*(ι id).esz:=by
             rw[y,<-DB];congr 1;omega
            omega
         ·cases h;exact Ab.pure p (.junk _)
        ·rw[v,Ag]at h
         split at h
         ·rename_i cs k S;cases d:Af k o
          ·rw[d]at h;cases h
          ·rw[d,Ag]at h;have d:=Br d;subst d;cases h;obtain⟨er,M,N⟩:=QU (P:=P) hh hl O B C w;refine Ab.same (w':=w) (v':=.slice (AC ⟨(ι id).blk,(ι id).base+(off+l*e.size),AF⟩) (f-l) (g-l)) (λX=> ?_) rfl rfl;obtain⟨c,_,fr,_,_,_,_,g4⟩:=X.hd id _ (.inr (.inl (by simp))) (St.hdr_of S)
           have y:=((g4 rfl).2.1 e (hT.inf _ _ u)).1;refine⟨?_,.slU id _ _ _ E (by omega) ?_,rfl,rfl,rfl⟩
           ·have J:(if g=l then AC (⟨(ι id).blk,(ι id).base+off,AF⟩:EG)else AC ⟨(ι id).blk,(ι id).base+off+l*e.size,AF⟩)=AC ⟨(ι id).blk,(ι id).base+(off+l*e.size),AF⟩:=by
             by_cases G:g=l
             ·rw[Ae G];have:l=0:=by
               rw[Bool.or_eq_true]at v;rcases v with Y|Y
               ·exact Br Y
               ·have:l<len:=by simpa using Y
                omega
              simp[this]
             ·rw[AY G,Dg]
            simp only[FA,FN,A7,Ah hT q,Ax,er,Bb hT u,A9,L,J]
           ·have:l*e.size+(g-l)*(ι id).esz=g*(ι id).esz:=by
             rw[y,<-DB];congr 1;omega
            omega
         ·cases h
       ·cases h
      ·cases h
     ·rename_i mv
      split at h
      ·rename_i l f m i;cases b:Cq len IX
       ·rw[b]at h;cases h
       ·rw[b,Ag]at h;have b:len<IX:=by simpa using b
        cases h;obtain⟨er,M,N,e3⟩:=HU (P:=P) (isSl:=AD) (cap':=g) i O (λh=>by cases h) B C F (Ak _) w;refine Ab.pure ?_ (VR.cut E (by omega));simp only[FA,FN,A7,Ah hT q,Ax,er,Bb hT u,A9,L]
      ·cases h
   ·cases h
  ·cases h
 ·rename_i n o q
  split at h
  ·rename_i e u
   split at h
   ·rename_i id off;obtain⟨rfl,E⟩:=K.ptr_inv;cases b:Cq n IX
    ·rw[b]at h;cases h
    ·rw[b,Ag]at h;have b:n<IX:=by simpa using b
     split at h
     ·rename_i l f m i;cases h;obtain⟨er,M,N,e3⟩:=HU (P:=P) (isSl:=AK) i (Ak _) (λ_=>rfl) B C F (Ak _) w;refine Ab.pure (v':=.slice (if m=l then AC ⟨(ι id).blk,(ι id).base+off,AF⟩else AC ⟨(ι id).blk,(ι id).base+off+l*e.size,AF⟩) (f-l) (m-l)) ?_ (VR.cut E (by omega))
      simp only[FA,A7,Ah hT q,Ax,Gs,A9,er,Bb hT u,CU]
      split<;>rfl
     ·cases h
   ·cases h
  ·cases h
 ·cases h
end
end Go.Eng
end
end
section
noncomputable section
namespace Go.Eng
open Go
section
variable {P:Ao} {T:TE} (hT:T.OK P) {D:AB->Prop} {ι:AB->Reg} {σ:St} {w:AN}
def Ee:L8->AE AJ
 |[]=>[]
 |b::l=>.int .u8 b.toNat::Ee l
theorem FD(l:L8):Ee l=l.map λb=>Value.int .u8 b.toNat:=by
 induction l with
 |nil=>rfl
 |cons b l a=>simp[Ee,a]
theorem IE(l:L8):(Ee l).length=l.length:=by rw[FD];simp
def S5(σ:St)(size:AB)(x:AJ):AP (AE AJ×AB×AE (AB×AB)):=
 match x with
 | .string s=>bif Af size 1 then AC (Ee s.data.toList,s.size,[])else AF
 | .slice AF n _=>bif Af n 0 then AC ([],0,[])else AF
 | .slice (AC ⟨id,off,AF⟩) n _=>match σ.heap.get id with
   |some (.row a _ _)=>match Fm a off (n*size)with
    |some l=>AC (l,n,J3 id off (n*size))
    |none=>AF
   |_=>AF
 |_=>AF
theorem AR.refl_plain{l:AE AJ}(h:∀v∈l,Au 8 v=AD):AR D ι l.toArray l.toArray:=
 ⟨rfl,λi v v' e a=>by
  rw[e]at a;cases a;exact Bk 8 v (h v (by simp at e;exact List.mem_of_getElem? e))⟩
theorem Fo{size n:AB}{x d:AJ}{l:AE AJ}{rc:AE (AB×AB)}{φ:Foot}(h:S5 σ size x=AC (l,n,rc))(f:VR D ι x d)(m:HOn P D ι σ.H φ w)(o:∀p∈rc,φ.Fc p.1 p.2):(∀w,(RK d).run P w=.ok n w)/\l.length=n*size/\∃c:Aa AJ,(∀w':AN,w'.heap=w.heap->(GZ size n d).run P w'=.ok c w')/\AR D ι l.toArray c:=by
 unfold S5 at h
 split at h
 ·rename_i s;cases a:Af size 1
  ·rw[a]at h;cases h
  ·rw[a]at h;have q:=Br a;cases h;cases f;refine⟨λ_=>rfl,by rw[IE,q];simp,(Ee s.data.toList).toArray,λw' _=> ?_,AR.refl_plain λv g=> ?_⟩
   ·simp only[GZ,A9];congr 1;apply Gr;rw[FD];simp
   ·rw[FD]at g;obtain⟨b,_,rfl⟩:=Ju.1 g;rfl
 ·rename_i i r;cases a:Af i 0
  ·rw[a]at h;cases h
  ·rw[a]at h;have t:=Br a;subst t;cases h;cases f;exact⟨λ_=>rfl,by simp,#[],λ_ _=>rfl,rfl,by simp⟩
 ·rename_i id off i r
  split at h
  ·rename_i B e C u
   split at h
   ·rename_i E k;cases h;obtain⟨y,rfl,_⟩:=f.sl_inv;obtain⟨c,z,A⟩:=Dj u k m λj F=>o _ (Di.2 ⟨rfl,bX _ _,by omega⟩)
    exact⟨λ_=>rfl,(Ev _ _ _ _ k).1,c,z,A⟩
   ·cases h
  ·cases h
 ·cases h
theorem Vi(a:AB):∀(r c:AB),c<=2*a+400->rR a r c<=2*a+400
 |0,c,h=>by simpa[rR]using h
 |r+1,c,h=>by
  simp only[rR]
  split
  ·exact h
  ·exact Vi a r _ (by omega)
theorem S6{a cap:AB}(h:cap<a):rS a cap<=2*a+400:=by
 unfold rS
 split
 ·omega
 ·split
  ·omega
  ·exact Vi a 4 cap (by omega)
theorem cq(a old t:AB)(e:AQ):a<=(Mx a old e).cut t:=bX _ _
theorem BC(z:Aa AJ)(n:AB):(Ch z n).size=n*z.size:=by simp[Ch]
include hT
theorem FE{j xT:AQ}{args:Aa AQ}{d:Jw}{a:AQ}{e:EF}{z:AJ}{base:AP EG}{sLen cap n:AB}{x:AJ}{old new:Aa AJ}{ty:AQ}(l:args[0]?=AC j)(m:args[1]?=AC xT)(o:T.und j=AC (.slice a))(p:T.und xT=AC d)(hd:∀k,d≠ .int k)(f:T.inf a=AC e)(q:e.zero=AC z)(g:e.bytes≠0)(u:(2*(sLen+n)+400)*e.bytes<=2^48)(c:∀w,(RK x).run P w=.ok n w)(H3:cap<sLen+n)(r:∀w':AN,w'.heap=w.heap->(GZ e.size sLen (.slice base sLen cap)).run P w'=.ok old w')(s:∀w':AN,w'.heap=w.heap->(GZ e.size n x).run P w'=.ok new w'):
  ∃(b:AB) (w':AN),sLen+n<=b/\w'.heap=w.heap.push (.cells (old++new++Ch z.cells (b-(sLen+n))) a (0,0))/\w'.os=w.os/\w'.output=w.output/\
   (Eo args ty #[.slice base sLen cap,x]).run P w=.ok (.slice (AC ⟨w.heap.size,0,AF⟩) (sLen+n) b) w':=by
 have t:(Mx (sLen+n) cap a).forced=false:=rfl;refine⟨(Mx (sLen+n) cap a).cut (w.tape w.drawn (.appendCap (sLen+n) cap a)),{ w with drawn:=w.drawn+1,heap:=w.heap.push (.cells (old++new++Ch z.cells _) a (0,0))},cq _ _ _ _,rfl,rfl,rfl,?_⟩;have h:¬(rS (sLen+n) cap*e.bytes>2^48):=by
  have:=Gc e.bytes (S6 H3);omega
 have i:¬(sLen+n<=cap):=by omega
 unfold Eo;simp only[l,m,ANI,EM,RL,A7,Ah hT o,Ax,Bb hT f,Ah hT p,A9,CI,BR,c,AY i,
  MR hT f,g,false_or,and_false,AY h,run_choose,t,run_askRoom,FU,ANH]
 rw[r { w with drawn:=w.drawn+1} rfl];simp only[Ax];rw[s { w with drawn:=w.drawn+1} rfl];simp only[Ax,HT hT f q,newRow,A7,run_newObj,A9]
theorem EP{g xT:AQ}{args:Aa AQ}{d:Jw}{b:AQ}{e:EF}{base:AP EG}{sLen cap n:AB}{x:AJ}{new:Aa AJ}{ty:AQ}(h:args[0]?=AC g)(i:args[1]?=AC xT)(j:T.und g=AC (.slice b))(l:T.und xT=AC d)(hd:∀k,d≠ .int k)(m:T.inf b=AC e)(c:∀w,(RK x).run P w=.ok n w)(f:sLen+n<=cap)(o:(GZ e.size n x).run P w=.ok new w):
  (Eo args ty #[.slice base sLen cap,x]).run P w=
   ((match base with|some a=>Mv (a.add (sLen*e.size)) new.toList|none=>Ck ()).run P w).andThen λ_ w'=>.ok (.slice base (sLen+n) cap) w':=by
 unfold Eo;simp only[h,i,ANI,EM,RL,A7,Ah hT j,Ax,Bb hT m,Ah hT l,A9,CI,BR,c,Ae f,
  FU,ANH,o]
 cases base with
 |none=>rfl
 |some a=>simp only[A7,A9]
omit hT
theorem HOn.sub{h:H}{φ ψ:Foot}(a:HOn P D ι h φ w)(b:∀id,ψ.Fi id->φ.Fi id)(c:∀id k,ψ.Fc id k->φ.Fc id k):HOn P D ι h ψ w where
 hd:=λid x f e=>a.hd id x (b id f) e
 ce:=λid k v f l e=>a.ce id k v (c id k f) l e
 inj:=λi j fi d=>a.inj i j (b i fi) (b j d)
def Pk:Jw->AH
 | .int _=>AD
 |_=>AK
def LV(e:EF)(z:AJ)(a:AB):AH:=
 Af z.cells.size e.size&& !Nat.beq e.bytes 0&&B8 ((2*a+400)*e.bytes) 281474976710656
def Vj(σ:St)(b:AQ)(e:EF)(z:AJ)(old new:AE AJ)(a:AB)(rc:AE (AB×AB)):AP R:=
 bif LV e z a then AC ⟨.slice (AC ⟨σ.next,0,AF⟩) a IX,σ.new (.row (old++new) b AK),⟨rc,[],[],[]⟩⟩else AF
def J6(T:TE)(σ:St)(args:Aa AQ)(s x:AJ):AP R:=
 match args.toList with
 |i::xT::_=>match T.und i,T.und xT with
  |some (.slice a),AC d=>bif Pk d then AF else match T.inf a with
   |some e=>match e.zero,S5 σ e.size x with
    |some z,AC (new,n,rc)=>match s with
     | .slice AF sLen cap=>bif Af sLen 0&&Af cap 0 then
       bif Af n 0 then AC ⟨.slice AF 0 0,σ,⟨rc,[],[],[]⟩⟩else Vj σ a e z [] new n rc
       else AF
     | .slice (AC ⟨id,off,AF⟩) sLen cap=>match σ.heap.get id with
       |some (.row c b h)=>
        bif Af cap IX then
         bif Af n 0 then AC ⟨.slice (AC ⟨id,off,AF⟩) sLen IX,σ,⟨rc,[],[],[]⟩⟩
         else bif Af b a&& !h&&LV e z (sLen+n)&&new.all oneC&&Af (EH off e.size) 0 then match Fm c off (sLen*e.size)with
          |some old=>AC ⟨.slice (AC ⟨σ.next,0,AF⟩) (sLen+n) IX,(σ.put id AF).new (.row (old++new) a AK),⟨rc,[],[],[id]⟩⟩
          |none=>AF
         else AF
        else bif B8 (sLen+n) cap then match new with
         |[]=>AC ⟨.slice (AC ⟨id,off,AF⟩) (sLen+n) cap,σ,⟨rc,[],[],[]⟩⟩
         |y::f=>bif Af b a&& !h&&(y::f).all oneC then match lput c (off+sLen*e.size) (y::f)with
           |some g=>AC ⟨.slice (AC ⟨id,off,AF⟩) (sLen+n) cap,σ.put id (AC (.row g b AK)),⟨rc,[],J3 id (off+sLen*e.size) (f.length+1),[]⟩⟩
           |none=>AF
          else AF
        else match Fm c off (sLen*e.size)with
         |some old=>Vj σ a e z old new (sLen+n) (rc++J3 id off (sLen*e.size))
         |none=>AF
       |_=>AF
     |_=>AF
    |_,_=>AF
   |none=>AF
  |_,_=>AF
 |_=>AF
theorem AR.append{a b:AE AJ}{c d:Aa AJ}(i:AR D ι a.toArray c)(j:AR D ι b.toArray d)(e:Aa AJ):
  ∀(k:AB) v,(a++b)[k]?=AC v->∃v',(c++d++e)[k]?=AC v'/\VR D ι v v':=by
 have m:a.length=c.size:=by simpa using i.1
 have n:b.length=d.size:=by simpa using j.1
 intro k v f;by_cases g:k<a.length
 ·rw[List.getElem?_append_left g]at f;have l:c[k]?=AC (c[k]'(by omega)):=CX (by omega);refine⟨_,?_,i.2 k v _ (by simpa using f) l⟩;rw[yj,rQ (by omega)];exact l
 ·rw[List.getElem?_append_right (by omega)]at f;have o:k-a.length<b.length:=by
   rcases Cf (k-a.length) b.length with h|h
   ·exact h
   ·rw[DA h]at f;cases f
  have hd:d[k-a.length]?=AC (d[k-a.length]'(by omega)):=CX (by omega);refine⟨_,?_,j.2 _ v _ (by simpa using f) hd⟩;rw[yj,yk (by omega),rQ (by omega),<-m];exact hd
include hT
theorem S7{c:AQ}{e:EF}{z:AJ}{old new:AE AJ}{oldc d:Aa AJ}{b n0 n a:AB}{φ:Foot}{w':AN}(t:σ.wf)(u:¬D σ.next)(v:T.inf c=AC e)(k:z.cells.size=e.size)(m:AR D ι old.toArray oldc)(p:AR D ι new.toArray d)(q:old.length=n0*e.size)(r:new.length=n*e.size)(l:b=n0+n)(g:b<=a)(x:w'.heap=w.heap.push (.cells (oldc++d++Ch z.cells (a-b)) c (0,0)))(y:w'.os=w.os)(A:w'.output=w.output)(B:φ.wc=[])(C:φ.wh=[]):
  ∃ι',VR (λi=>D i\/σ.rng (σ.new (.row (old++new) c AK)) i) ι' (.slice (AC ⟨σ.next,0,AF⟩) b IX) (.slice (AC ⟨w.heap.size,0,AF⟩) b a)/\
   Post P D (σ.rng (σ.new (.row (old++new) c AK))) ι σ.H w φ ι' (σ.new (.row (old++new) c AK)).H w':=by
 have E:old.length=oldc.size:=by simpa using m.1
 have a2:new.length=d.size:=by simpa using p.1
 have f:(oldc++d++Ch z.cells (a-b)).size=a*e.size:=by
  simp only[ANM,BC,k,<-E,<-a2,q,r];rw[<-DB,<-DB];congr 1;omega
 refine⟨FR ι σ.next (rg w.heap.size 0 (a*e.size) e.size),?_,?_⟩
 ·have:=VR.slU (D:=λi=>D i\/σ.rng (σ.new (.row (old++new) c AK)) i) (ι:=FR ι σ.next (rg w.heap.size 0 (a*e.size) e.size)) σ.next 0 b a (.inr (St.rng_new.2 rfl)) g (by rw[Am];simp);rw[Am]at this;exact this
 ·rw[<-f];refine Post.new t u ?_ ?_ ?_ (AR.append m p _) x y A B C
  ·rw[f,BA,q,r,<-DB];exact Gc _ (by omega)
  ·intro j s;rw[hT.inf _ _ v]at s;cases s;exact⟨rfl,by rw[f];exact MC _ _⟩
  ·intro o _ h;omega
omit hT
theorem Im{e:EF}{z:AJ}{a:AB}(h:LV e z a=AD):z.cells.size=e.size/\e.bytes≠0/\(2*a+400)*e.bytes<=2^48:=by
 simp only[LV,A0,Bool.not_eq_true']at h;refine⟨Br h.1.1,λe=> ?_,GJ h.2⟩;rw[Ei e]at h;cases h.1.2
end
end Go.Eng
end
end
section
noncomputable section
namespace Go.Eng
open Go
section
variable {P:Ao} {T:TE} (hT:T.OK P) {D:AB->Prop} {ι:AB->Reg} {σ:St} {w:AN}
theorem LW{d:Jw}(h:Pk d=AK):∀k,d≠ .int k:=by
 intro k e;subst e;cases h
theorem Foot.rc_fc{rc:AE (AB×AB)}{wc:AE (AB×AB)}{rh wh:AE AB}:∀p∈rc,(⟨rc,rh,wc,wh⟩:Foot).Fc p.1 p.2:=λ_ a=>.inl a
include hT
theorem JF{args:Aa AQ}{ty:AQ}{s s' x x':AJ}{r:R}(h:J6 T σ args s x=AC r)(hs:VR D ι s s')(hx:VR D ι x x'):
  Ab P D ι σ w (Eo args ty #[s',x']) r:=by
 unfold J6 at h
 split at h
 ·rename_i sT xT rest O;have h0:args[0]?=AC sT:=by rw[<-Bf,O];rfl
  have h1:args[1]?=AC xT:=by rw[<-Bf,O];rfl
  split at h
  ·rename_i elem d B C;cases hd:Pk d
   ·rw[hd,BZ]at h;have hd:=LW hd
    split at h
    ·rename_i e L
     split at h
     ·rename_i z new n rc hz hc
      split at h
      ·
       rename_i sLen cap;cases t:(Af sLen 0&&Af cap 0)
       ·rw[t]at h;cases h
       ·rw[t,Ag]at h;rw[A0]at t;have e1:=Br t.1;have e2:=Br t.2;subst e1 e2;cases hs;cases E:Af n 0
        ·rw[E,BZ]at h;have E:n≠0:=λe=>by rw[Ei e]at E;cases E
         unfold Vj at h;cases A:LV e z n
         ·rw[A]at h;cases h
         ·rw[A,Ag]at h;cases h;obtain⟨g1,g2,g3⟩:=Im A;refine⟨by simp[St.new],λF=>⟨St.new_wf F _,AFr.new _ _ _⟩,λF hD q=> ?_⟩;obtain⟨J,N,a,K,f⟩:=Fo (P:=P) hc hx q Foot.rc_fc;obtain⟨g,w',c1,c2,c3,c4,c5⟩:=FE hT (ty:=ty) (w:=w) (base:=AF) (sLen:=0) (cap:=0) (old:=#[]) h0 h1 B C hd L hz g2 (by rw[CJ];exact g3) J (by omega) (λw' _=>rfl) K
          rw[CJ]at c1 c2 c5;obtain⟨ι',p1,p2⟩:=S7 hT (D:=D) (ι:=ι) (φ:=⟨rc,[],[],[]⟩) (n0:=0) (old:=[]) (oldc:=#[]) F (hD _ (by simp[St.rng,St.new])) L g1 ⟨rfl,by simp⟩ f (by simp) N (by simp) c1 c2 c3 c4 rfl rfl;exact⟨_,ι',w',c5,p1,p2⟩
        ·rw[E,Ag]at h;have E:=Br E;subst E;cases h;refine Ab.same (w':=w) (v':=.slice AF 0 0) (λq=> ?_) rfl rfl;obtain⟨J,N,a,K,f⟩:=Fo (P:=P) hc hx q Foot.rc_fc;refine⟨?_,.slN _ _,rfl,rfl,rfl⟩;rw[EP hT h0 h1 B C hd L J (Ak 0) (K w rfl)]
         rfl
      ·rename_i id off sLen cap
       split at h
       ·rename_i cs l ro A;obtain⟨Q,rfl,hD,X,hunk⟩:=hs.sl_inv;cases G:Af cap IX
        ·
         rw[G,BZ]at h;have hne:cap≠IX:=λe=>by rw[Ei e]at G;cases G
         obtain rfl:=X hne;cases H:B8 (sLen+n) Q
         ·rw[H,BZ]at h;have H3:Q<sLen+n:=by
           rcases Cf Q (sLen+n)with h|h
           ·exact h
           ·rw[rV h]at H;cases H
          split at h
          ·rename_i old I;unfold Vj at h;cases hg':LV e z (sLen+n)
           ·rw[hg']at h;cases h
           ·rw[hg',Ag]at h;cases h;obtain⟨g1,g2,g3⟩:=Im hg';refine⟨by simp[St.new],λF=>⟨St.new_wf F _,AFr.new _ _ _⟩,λF Y q=> ?_⟩;obtain⟨J,N,a,K,f⟩:=Fo (P:=P) hc hx q λp hp=>.inl (by simp[hp])
            obtain⟨oldc,Z,S⟩:=Dj A I q λj hj=>.inl (by simp only[List.mem_append];exact .inr (Di.2 ⟨rfl,bX _ _,by omega⟩))
            obtain⟨g,w',c1,c2,c3,c4,c5⟩:=FE hT (ty:=ty) (w:=w) (base:=AC ⟨(ι id).blk,(ι id).base+off,AF⟩) (cap:=Q) (old:=oldc) h0 h1 B C hd L hz g2 g3 J H3 (λw' hw'=>Z w' hw') K;obtain⟨ι',p1,p2⟩:=S7 hT (D:=D) (ι:=ι) (φ:=⟨rc++J3 id off (sLen*e.size),[],[],[]⟩) (n0:=sLen) F (Y _ (by simp[St.rng,St.new])) L g1 S f (Ev _ _ _ _ I).1 N rfl c1 c2 c3 c4 rfl rfl
            exact⟨_,ι',w',c5,p1,p2⟩
          ·cases h
         ·rw[H,Ag]at h;have H:=GJ H
          split at h
          ·cases h;refine Ab.same (w':=w) (v':=.slice (AC ⟨(ι id).blk,(ι id).base+off,AF⟩) (sLen+n) Q) (λq=> ?_) rfl rfl;obtain⟨J,N,a,K,f⟩:=Fo (P:=P) hc hx q Foot.rc_fc;refine⟨?_,.slK id _ _ _ hD hne,rfl,rfl,rfl⟩;rw[EP hT h0 h1 B C hd L J H (K w rfl)];have:a.toList=[]:=by
            have:=f.1;simp at this;have h2:a.size=0:=by omega
            simpa using h2
           simp only[this,Mv,A9,Ax]
          ·rename_i y ys;cases t:(Af l elem&& !ro&&(y::ys).all oneC)
           ·rw[t]at h;cases h
           ·rw[t,Ag]at h;rw[A0,A0]at t
            split at h
            ·rename_i cs' hput;cases h;have hro:ro=false:=by simpa using t.1.2
             subst hro;refine⟨Ak _,λF=>⟨St.put_wf F (St.lv_lt F (St.lv_of A)) _,AFr.lput A hput (by simp)⟩,λF Y q=> ?_⟩;obtain⟨J,N,a,K,f⟩:=Fo (P:=P) hc hx q Foot.rc_fc;have hlen:(y::ys).length=a.toList.length:=by simpa using f.1
             obtain⟨w',e1,e2⟩:=JE (vs':=a.toList) A hput (by simp) (C8.1 t.2) q hlen λk u u' hu hu'=>f.2 k u u' (by simpa using hu) (by simpa using hu')
             refine⟨.slice (AC ⟨(ι id).blk,(ι id).base+off,AF⟩) (sLen+n) Q,ι,w',?_,(VR.slK id _ _ _ hD hne).mono (λ_=>.inl) λ_ _=>rfl,e2⟩;rw[EP hT h0 h1 B C hd L J H (K w rfl)];simp only[CU];rw[Dg,e1];rfl
            ·cases h
        ·
         rw[G,Ag]at h;have G:=Br G;obtain⟨u1,u2⟩:=hunk G;cases E:Af n 0
         ·rw[E,BZ]at h;have E:n≠0:=λe=>by rw[Ei e]at E;cases E
          cases t:(Af l elem&& !ro&&LV e z (sLen+n)&&new.all oneC&&Af (EH off e.size) 0)
          ·rw[t]at h;cases h
          ·rw[t,Ag]at h;rw[A0,A0,A0,A0]at t;obtain⟨⟨⟨⟨b1,b2⟩,b3⟩,b4⟩,b5⟩:=t;have b5:off%e.size=0:=Br b5;have b1:=Br b1;subst b1;have hro:ro=false:=by simpa using b2
           subst hro;obtain⟨g1,g2,g3⟩:=Im b3
           split at h
           ·rename_i old I;cases h;obtain⟨q1,q2,q3⟩:=Ev _ _ _ _ I;refine⟨by simp[St.new,St.put],λF=>⟨St.new_wf (St.put_wf F (St.lv_lt F (St.lv_of A)) _) _,AFr.giveUp (by simp)⟩,λF Y q=> ?_⟩;have hDx:¬D σ.next:=Y _ (by simp[St.rng,St.new,St.put]);obtain⟨J,N,a,K,f⟩:=Fo (P:=P) hc hx q Foot.rc_fc
            obtain⟨oldc,Z,S⟩:=Dj A I q λj hj=>.inr (.inr (.inr (by simp)))
            have a1:old.length=oldc.size:=by simpa using S.1
            have a2:new.length=a.size:=by simpa using f.1
            have hid:(⟨rc,[],[],[id]⟩:Foot).Fi id:=.inr (.inr (.inr (by simp)));obtain⟨c,elem0,fr,e1,e2,e3,eo,e45⟩:=q.hd id _ hid (St.hdr_of A);obtain⟨e0,e4,e5⟩:=e45 rfl;rw[e0]at e1;obtain⟨hes,hal1,hal2⟩:=e4 e (hT.inf _ _ L);have hblk:(ι id).blk<w.heap.size:=(q.hd id _ hid (St.hdr_of A)).lt (.inl ⟨eo.1,rfl⟩)
            have hnn:∀j,σ.rng ((σ.put id AF).new (.row (old++new) l AK)) j↔j=σ.next:=λj=>by simp only[St.rng,St.put,St.new];omega
            by_cases U:sLen+n<=Q
            ·
             have hroom:off+(sLen+n)*e.size<=(ι id).room:=by
              rw[hes]at u2;have:=Gc e.size U;omega
             have hadd:sLen*e.size+n*e.size=(sLen+n)*e.size:=by rw[DB]
             have hnl:a.toList.length=n*e.size:=by simp;omega
             have hrun:=Ft P (ι id).blk ((ι id).base+off+sLen*e.size) l fr a.toList 0 c w e1 (by omega) (λv' m=>by
              obtain⟨k,X,rfl⟩:=yp.1 m;have hk':k<new.length:=by omega
              exact(f.2 k new[k] _ (by simp) (by simp only[D0]at X;simp[X])).oneC (C8.1 b4 _ (EK _))) e5
             have hset:=λk=>DL a.toList c ((ι id).base+off+sLen*e.size+0) k (by omega)
             refine⟨.slice (AC ⟨(ι id).blk,(ι id).base+off,AF⟩) (sLen+n) Q,FR ι σ.next (rg (ι id).blk ((ι id).base+off) ((ι id).room-off) e.size),{ w with heap:=w.heap.setIfInBounds (ι id).blk (.cells (Cp c ((ι id).base+off+sLen*e.size+0) a.toList) l fr)},?_,?_,?_⟩
             ·rw[EP hT h0 h1 B C hd L J U (K w rfl)];simp only[CU];rw[hrun];rfl
             ·have:=VR.slU (D:=λi=>D i\/σ.rng ((σ.put id AF).new (.row (old++new) l AK)) i) (ι:=FR ι σ.next (rg (ι id).blk ((ι id).base+off) ((ι id).room-off) e.size)) σ.next 0 (sLen+n) Q (.inr ((hnn _).2 rfl)) U (by rw[Am];rw[hes]at u2;simp only[rg];omega);rw[Am]at this;exact this
             ·have V:∀(o:Obj),(w.heap.setIfInBounds (ι id).blk o)[(ι id).blk]?=AC o:=λo=>by simp[hblk]
              refine Post.giveUp F A (λb t hbe=> ?_) rfl rfl (by simp) ?_ ?_ (.inr rfl) eo.1 (Kl _ _ _ _)
              ·exact Array.getElem?_setIfInBounds_ne hbe.symm
              ·refine⟨Cp c _ a.toList,_,fr,by rw[Am];exact V _,by rw[Am,Ad];simp only[rg];omega,by rw[Am,BA,q1,N];simp only[rg];omega,SF,λ_=>⟨rfl,λi M=> ?_,λo ho'=>e5 o (by rwa[Ad]at ho')⟩⟩;rw[Am,Ad];rw[hT.inf _ _ L]at M;cases M;exact⟨rfl,by simp only[rg];rw[Nat.add_mod,hal1,b5];simp,hal2⟩
              ·intro k v X;obtain⟨v',m,hvv⟩:=AR.append S f #[] k v X;have hkl:k<(sLen+n)*e.size:=by
                rcases Cf k (old++new).length with h|h
                ·rw[BA,q1,N]at h;omega
                ·rw[DA h]at X;cases X
               refine⟨SF.1,v',?_,hvv.mono (λ_ M=>M) λi M=>FS _ _ λe=>hDx (e▸M)⟩;simp only[C0,Am,rg,V,Df,CI,BR];rw[hset,hnl];rw[Array.append_empty]at m;by_cases hlow:k<sLen*e.size
               ·rw[AY (by omega)];rw[rQ (by omega)]at m;have hold':k<old.length:=by omega
                obtain⟨-,u,hu1,hu2⟩:=q.ce id (off+k) old[k] (.inr (.inr (.inr (by simp)))) (St.lv_of A) (by rw[St.cell_of A,<-q3 k hlow];exact B4 hold');have hrd:=Z w rfl;have:oldc[k]?=AC u:=by
                 have W:=yl (P:=P) w ⟨(ι id).blk,(ι id).base+off,AF⟩ (sLen*e.size) (λj=>(w.cell? ⟨(ι id).blk,(ι id).base+off+j,AF⟩).getD Bi) λj hj=>by
                  obtain⟨-,y,hy1,_⟩:=q.ce id (off+j) (old[j]'(by omega)) (.inr (.inr (.inr (by simp)))) (St.lv_of A) (by rw[St.cell_of A,<-q3 j hj];exact B4 (by omega));rw[CU,Dg,hy1];rfl
                 rw[hrd]at W;simp only[rU,and_true]at W;rw[W];simp only[ANI,List.getElem?_map,List.getElem?_range hlow,Ib];rw[Dg,hu1];rfl
                rw[this]at m;cases m;simp only[C0,e1,Df,CI,BR]at hu1;rw[Dg];exact hu1
               ·rw[Ae (by omega)];rw[yk (by omega)]at m;rw[Bf,<-m];congr 1;omega
            ·
             obtain⟨g,w',c1,c2,c3,c4,c5⟩:=FE hT (ty:=ty) (w:=w) (base:=AC ⟨(ι id).blk,(ι id).base+off,AF⟩) (cap:=Q) (old:=oldc) h0 h1 B C hd L hz g2 g3 J (by omega) (λw' hw'=>Z w' hw') K;have hsz:(oldc++a++Ch z.cells (g-(sLen+n))).size=g*e.size:=by
              simp only[ANM,BC,g1,<-a1,<-a2,q1,N];rw[<-DB,<-DB];congr 1;omega
             refine⟨.slice (AC ⟨w.heap.size,0,AF⟩) (sLen+n) g,FR ι σ.next (rg w.heap.size 0 (g*e.size) e.size),w',c5,?_,?_⟩
             ·have:=VR.slU (D:=λi=>D i\/σ.rng ((σ.put id AF).new (.row (old++new) l AK)) i) (ι:=FR ι σ.next (rg w.heap.size 0 (g*e.size) e.size)) σ.next 0 (sLen+n) g (.inr ((hnn _).2 rfl)) c1 (by rw[Am];simp[rg]);rw[Am]at this;exact this
             ·refine Post.giveUp F A (λb t _=>by rw[c2,BD _ _ t]) c3 c4 (by rw[c2];simp) ?_ (λk v X=> ?_) (.inl ⟨Ak _,by rw[c2];simp[rg]⟩) eo.1 (Kl _ _ _ _)
              ·refine⟨_,_,(0,0),by rw[Am,c2];exact BN _ _,by rw[Am,hsz];simp[rg],?_,SF,λ_=>⟨rfl,λi M=> ?_,λo _ h=>by omega⟩⟩
               ·rw[Am,BA,q1,N,<-DB];exact Gc _ c1
               ·rw[Am];rw[hT.inf _ _ L]at M;cases M;exact⟨rfl,by simp[rg],by rw[hsz];exact MC _ _⟩
              ·obtain⟨v',m,hvv⟩:=AR.append S f (Ch z.cells (g-(sLen+n))) k v X;refine⟨SF.1,v',?_,hvv.mono (λ_ M=>M) λi M=>FS _ _ λe=>hDx (e▸M)⟩;simp only[C0,Am,rg,c2,BN,Df,CI,BR,CJ];exact m
           ·cases h
         ·rw[E,Ag]at h;have E:=Br E;subst E;cases h;refine Ab.same (w':=w) (v':=.slice (AC ⟨(ι id).blk,(ι id).base+off,AF⟩) sLen Q) (λq=> ?_) rfl rfl;obtain⟨J,N,a,K,f⟩:=Fo (P:=P) hc hx q Foot.rc_fc;subst G;refine⟨?_,hs,rfl,rfl,rfl⟩;rw[EP hT h0 h1 B C hd L J (by omega) (K w rfl)]
          have:a.toList=[]:=by
           have:=f.1;simp at this;have h2:a.size=0:=by omega
           simpa using h2
          simp only[this,Mv,A9,Ax,Nat.add_zero]
       ·cases h
      ·cases h
     ·cases h
    ·cases h
   ·rw[hd]at h;cases h
  ·cases h
 ·cases h
end
end Go.Eng
end
end
section
noncomputable section
namespace Go.Eng
open Go
section
variable {P:Ao} {T:TE} (hT:T.OK P) {D:AB->Prop} {ι:AB->Reg} {σ:St} {w:AN}
def jW:AJ->AP AB
 | .slice _ n _=>AC n
 | .string s=>AC s.size
 |_=>AF
def cr(σ:St)(size n:AB)(x:AJ):AP (AE AJ×AE (AB×AB)):=
 match x with
 | .string s=>bif Af size 1 then AC (Ee (s.data.toList.take n),[])else AF
 | .slice AF _ _=>AC ([],[])
 | .slice (AC ⟨id,off,AF⟩) _ _=>match σ.heap.get id with
   |some (.row a _ _)=>match Fm a off (n*size)with
    |some l=>AC (l,J3 id off (n*size))
    |none=>AF
   |_=>AF
 |_=>AF
theorem S8{size n:AB}{x d:AJ}{l:AE AJ}{rc:AE (AB×AB)}{φ:Foot}(h:cr σ size n x=AC (l,rc))(a:VR D ι x d)(i:HOn P D ι σ.H φ w)(k:∀p∈rc,φ.Fc p.1 p.2):∃c:Aa AJ,(∀w':AN,w'.heap=w.heap->(GZ size n d).run P w'=.ok c w')/\AR D ι l.toArray c:=by
 unfold cr at h
 split at h
 ·rename_i s;cases f:Af size 1
  ·rw[f]at h;cases h
  ·rw[f]at h;cases h;cases a;refine⟨(Ee (s.data.toList.take n)).toArray,λw' _=> ?_,AR.refl_plain λv g=> ?_⟩
   ·simp only[GZ,A9];congr 1;apply Gr;rw[FD,Rr];simp[jV]
   ·rw[FD]at g;obtain⟨b,_,rfl⟩:=Ju.1 g;rfl
 ·cases h;cases a;exact⟨#[],λ_ _=>rfl,rfl,by simp⟩
 ·rename_i id off u y
  split at h
  ·rename_i z e A m
   split at h
   ·rename_i B o;cases h;obtain⟨q,rfl,_⟩:=a.sl_inv;obtain⟨c,r,t⟩:=Dj m o i λj C=>k _ (Di.2 ⟨rfl,bX _ _,by omega⟩)
    exact⟨c,r,t⟩
   ·cases h
  ·cases h
 ·cases h
def ZF(T:TE)(σ:St)(args:Aa AQ)(d x:AJ):AP R:=
 match args.toList with
 |h::_=>match T.und h with
  |some (.slice c)=>match T.inf c,jW x with
   |some e,AC nx=>match d with
    | .slice AF 0 _=>AC ⟨Eb 0,σ,.nil⟩
    | .slice (AC ⟨id,off,AF⟩) a _=>match cr σ e.size (Gb nx a) x with
      |some (l,rc)=>match l with
       |[]=>AC ⟨Eb (Gb nx a),σ,⟨rc,[],[],[]⟩⟩
       |y::f=>match σ.heap.get id with
        |some (.row i b AK)=>bif (y::f).all oneC then match lput i off (y::f)with
         |some g=>AC ⟨Eb (Gb nx a),σ.put id (AC (.row g b AK)),⟨rc,[],J3 id off (f.length+1),[]⟩⟩
         |none=>AF
         else AF
        |_=>AF
      |none=>AF
    |_=>AF
   |_,_=>AF
  |_=>AF
 |_=>AF
theorem S9{x a:AJ}{n:AB}(h:jW x=AC n)(b:VR D ι x a)(w:AN):(RK a).run P w=.ok n w:=by
 unfold jW at h
 split at h
 ·cases h;cases b<;>rfl
 ·cases h;cases b;rfl
 ·cases h
include hT
theorem ZG{args:Aa AQ}{ty:AQ}{d F x j:AJ}{r:R}(h:ZF T σ args d x=AC r)(hd:VR D ι d F)(m:VR D ι x j):
  Ab P D ι σ w (Hv args ty #[F,j]) r:=by
 unfold ZF at h
 split at h
 ·rename_i M G i;have H:args[0]?=AC M:=by rw[<-Bf,i];rfl
  split at h
  ·rename_i I n
   split at h
   ·rename_i e nx J b
    split at h
    ·rename_i cap;cases h;cases hd;refine Ab.same (w':={ w with drawn:=w.drawn}) (v':=Eb 0) (λo=> ?_) rfl rfl;refine⟨?_,.int _ _,rfl,rfl,rfl⟩;have N:(GZ e.size 0 j).run P w=.ok #[] w:=by
      have p:=m;unfold jW at b
      split at b
      ·cases p with
       |slN l c=>rfl
       |slK id off l c h hc=>simp only[GZ,I6];rfl
       |slU id off l c h O v=>simp only[GZ,I6];rfl
       |slE id off o' c h O v=>simp only[GZ,I6];rfl
      ·cases p;simp only[GZ,A9];congr 1;rw[Rr];simp[jV]
      ·cases b
     have q:Gb nx 0=0:=Nat.min_zero nx;unfold Hv;simp only[H,ANI,EM,RL,A7,Ah hT n,Ax,S9 b m,Bb hT J,q,N,A9];rfl
    ·rename_i id off a cap;obtain⟨Q,rfl,hD,_,_⟩:=hd.sl_inv
     split at h
     ·rename_i l rc K;have f:∀(c:Aa AJ) (w':AN),(GZ e.size (Gb nx a) j).run P w=.ok c w->(Mv ⟨(ι id).blk,(ι id).base+off,AF⟩ c.toList).run P w=.ok () w'->
        (Hv args ty #[.slice (AC ⟨(ι id).blk,(ι id).base+off,AF⟩) a Q,j]).run P w=.ok (Eb (Gb nx a)) w':=by
       intro c w' S U;unfold Hv;simp only[H,ANI,EM,RL,A7,Ah hT n,Ax,S9 b m,Bb hT J,S,U,A9]
      split at h
      ·cases h;refine Ab.same (w':=w) (v':=Eb (Gb nx a)) (λo=> ?_) rfl rfl;obtain⟨c,g1,t⟩:=S8 (P:=P) K m o Foot.rc_fc;refine⟨f c w (g1 w rfl) ?_,.int _ _,rfl,rfl,rfl⟩;have:c.toList=[]:=by
        have:=t.1;simp at this;have v:c.size=0:=by omega
        simpa using v
       simp only[this,Mv,A9]
      ·rename_i y L
       split at h
       ·rename_i cs z A;cases B:(y::L).all oneC
        ·rw[B]at h;cases h
        ·rw[B,Ag]at h
         split at h
         ·rename_i V g;cases h;refine⟨Ak _,λC=>⟨St.put_wf C (St.lv_lt C (St.lv_of A)) _,AFr.lput A g (by simp)⟩,λC W o=> ?_⟩;obtain⟨c,g1,t⟩:=S8 (P:=P) K m o Foot.rc_fc;have s:(y::L).length=c.toList.length:=by simpa using t.1
          obtain⟨w',X,Y⟩:=JE (vs':=c.toList) A g (by simp) (C8.1 B) o s λk u Z hu E=>t.2 k u Z (by simpa using hu) (by simpa using E)
          exact⟨Eb (Gb nx a),ι,w',f c w' (g1 w rfl) X,.int _ _,Y⟩
         ·cases h
       ·cases h
     ·cases h
    ·cases h
   ·cases h
  ·cases h
 ·cases h
omit hT
def Rs:AJ->AP UInt8
 | .int .u8 n=>AC (Cj n.toNat)
 |_=>AF
def Dk:AE AJ->AP (L8)
 |[]=>AC []
 |v::l=>match Rs v with
  |some b=>match Dk l with
   |some r=>AC (b::r)
   |none=>AF
  |none=>AF
def Ew(σ:St)(x:AJ):AP R:=
 match x with
 | .slice AF _ _=>AC ⟨.string .empty,σ,.nil⟩
 | .slice (AC ⟨id,off,AF⟩) len _=>match σ.heap.get id with
   |some (.row a _ _)=>match Fm a off len with
    |some l=>match Dk l with
     |some b=>AC ⟨.string ⟨b.toArray⟩,σ,⟨J3 id off len,[],[],[]⟩⟩
     |none=>AF
    |none=>AF
   |_=>AF
 |_=>AF
theorem J7{v:AJ}{b:UInt8}(h:Rs v=AC b):∃n,v=.int .u8 n/\b=Cj n.toNat:=by
 unfold Rs at h
 split at h
 ·cases h;exact⟨_,rfl,rfl⟩
 ·cases h
theorem N3(P:Ao)(w:AN):∀(l a:AE AJ) (b:L8) (s:Cg),Dk l=AC b->l.length=a.length->(∀(k:AB) v v',l[k]?=AC v->a[k]?=AC v'->VR D ι v v')->
  (forIn a s λ(c:AJ) (s:Cg)=>(do
   let .int .u8 n:=c|stuck "bytesToString: byte expected"
   Ck (AJE (s.push (Cj n.toNat))):Sem (ForInStep Cg))).run P w=.ok ⟨s.data++b.toArray⟩ w
 |[],a,b,s,d,e,_=>by
  have:a=[]:=List.length_eq_zero_iff.1 e.symm;subst this;simp only[Dk,BJ]at d;subst d;simp only[List.forIn_nil,A9];congr 1
 |v::l,a,b,s,d,e,i=>by
  match a,e with
  |v'::a,e=>
   simp only[Dk]at d
   split at d
   ·rename_i q f
    split at d
    ·rename_i j g;cases d;have h:=i 0 v v' rfl rfl;obtain⟨n,rfl,rfl⟩:=J7 f;cases h;have:=N3 P w l a j (s.push (Cj n.toNat)) g (by simpa using e) (λk x m o p=>i (k+1) x m (by simpa using o) (by simpa using p));simp only[List.forIn_cons,A7,A9,Ax]
     rw[this];congr 1;apply Kp;simp[AJD]
    ·cases d
   ·cases d
theorem LX{x f:AJ}{r:R}(h:Ew σ x=AC r)(g:VR D ι x f):Ab P D ι σ w (Ui f) r:=by
 unfold Ew at h
 split at h
 ·cases h;cases g;exact Ab.pure rfl (.string _)
 ·rename_i id off len cap
  split at h
  ·rename_i A e B m
   split at h
   ·rename_i l n
    split at h
    ·rename_i b o;cases h;obtain⟨C,rfl,_⟩:=g.sl_inv;refine Ab.same (w':=w) (v':=.string ⟨b.toArray⟩) (λp=> ?_) rfl rfl;obtain⟨c,q,i⟩:=Dj m n p λj E=>.inl (Di.2 ⟨rfl,bX _ _,by omega⟩)
     refine⟨?_,.string _,rfl,rfl,rfl⟩;have d:=N3 P w l c.toList b .empty o (by simpa using i.1) λk v v' s t=>i.2 k v v' (by simpa using s) (by simpa using t)
     have u:(⟨(RI).data++b.toArray⟩:Cg)=⟨b.toArray⟩:=by apply Kp;simp
     rw[u]at d;simp only[Ui,A7,q w rfl,Ax];rw[<-Array.forIn_toList];have:∀z:Result Cg,z=.ok ⟨b.toArray⟩ w->(z.andThen λa w'=>(Ck (Value.string a):Sem AJ).run P w')=.ok (.string ⟨b.toArray⟩) w:=λz y=>by rw[y];rfl
     exact this _ d
    ·cases h
   ·cases h
  ·cases h
 ·cases h
