/-
  The engine, part 2: an abstract evaluator over the model's code, proved sound. No condition.
-/
import Derived.Test.YtkgejlchafionaaGreatDoorEng1
import Derived.ChangeKeysEq
section
noncomputable section
namespace Go.Eng
open Go
structure TE where
 und:TypeId->Option TypeDesc
 inf:TypeId->Option TypeInfo
structure TE.OK (T:TE) (P:Program):Prop where
 und:∀t d,T.und t=some d->P.underlying t=some d
 inf:∀t i,T.inf t=some i->P.info? t=some i
section
variable {P:Program} {T:TE} (hT:T.OK P) {D:Nat->Prop} {ι:Nat->Reg} {σ:St} {w:World}
def Lu:Value->Bool
 | .chan (some _)=>false
 |_=>true
theorem GA {n:Nat} {v:Value} (h:AW n v=true):Lu v=true:=by
 cases n with
 |zero=>simp[AW] at h
 |succ n=>cases v<;>first|rfl|(rename_i r;cases r<;>first|rfl|simp[AW] at h)
theorem VR.cells {v v':Value} (h:VR D ι v v') (z:Lu v=true):AR D ι v.cells v'.cells:=by
 have one:∀x y:Value,VR D ι x y->AR D ι #[x] #[y]:=λx y p=>⟨rfl,λi a b w A=>by
  rcases i with _|i
  ·cases w;cases A;exact p
  ·simp at w⟩
 cases h with
 |junk v=>cases z
 |sym _ h=>cases v'<;>first|exact one _ _ (.sym _ h)|cases h
 |err _ _ h=>cases v'<;>first|exact one _ _ (.err _ _ h)|cases h
 |aint k n=>exact one _ _ (.aint k n)
 |dat id a l c h e=>exact one _ _ (.dat id a l c h e)
 |pfx id m a l c h e d=>exact one _ _ (.pfx id m a l c h e d)
 |pel id i j b o l c h e=>exact one _ _ (.pel id i j b o l c h e)
 |agg as bs f g=>exact⟨f,g⟩
 |tuple as bs f g=>exact one _ _ (.tuple as bs f g)
 |bool b=>exact one _ _ (.bool b)
 |int k n=>exact one _ _ (.int k n)
 |float k n=>exact one _ _ (.float k n)
 |complex k a b=>exact one _ _ (.complex k a b)
 |string s=>exact one _ _ (.string s)
 |ptrN=>exact one _ _ .ptrN
 |ptr id off h=>exact one _ _ (.ptr id off h)
 |slN l c=>exact one _ _ (.slN l c)
 |slK id off l c h B=>exact one _ _ (.slK id off l c h B)
 |slU id off l c h d q=>exact one _ _ (.slU id off l c h d q)
 |slE id off C c h d q=>exact one _ _ (.slE id off C c h d q)
 |mapN=>exact one _ _ .mapN
 |chanN=>exact one _ _ .chanN
 |nilFunc=>exact one _ _ .nilFunc
 |nilIface=>exact one _ _ .nilIface
 |iface t v v' h=>exact one _ _ (.iface t v v' h)
 |func fn as bs E ds f r g u=>exact one _ _ (.func fn as bs E ds f r g u)
include hT
theorem AK {t:TypeId} {d:TypeDesc} (h:T.und t=some d) (w:World):(underlying t).run P w=.ok d w:=run_underlying (hT.und t d h) w
theorem IF {t:TypeId} {i:TypeInfo} (h:T.inf t=some i) (w:World):(typeInfo t).run P w=.ok i w:=run_typeInfo w (hT.inf t i h)
theorem Ao {t:TypeId} {i:TypeInfo} (h:T.inf t=some i) (w:World):(sizeOf t).run P w=.ok i.size w:=by
 simp[sizeOf,IF hT h]
theorem Ei {t:TypeId} {i:TypeInfo} {z:Value} (h:T.inf t=some i) (a:i.zero=some z) (w:World):(zeroValue t).run P w=.ok z w:=by
 simp[zeroValue,IF hT h,a]
def S6 (T:TE) (σ:St) (a:TypeId) (b:List Value):Option R:=
 match T.inf a with
 |some i=>bif Nat.beq (Nat.mod b.length i.size) 0 then some ⟨.pointer (some ⟨σ.next,0,none⟩),σ.new (.row b a false),.nil⟩ else none
 |none=>none
theorem NA {b:TypeId} {d:List Value} {c:Array Value} {r:R} (h:S6 T σ b d=some r) (f:AR D ι d.toArray c):
  AF P D ι σ w (do pure (.pointer (some (<-newRow b c)))) r:=by
 unfold S6 at h
 split at h
 ·rename_i i p;cases a:Nat.beq (Nat.mod d.length i.size) 0
  ·rw[a] at h;cases h
  rw[a,cond_true] at h;have a:d.length%i.size=0:=Nat.eq_of_beq_eq_true a;cases h;refine⟨by simp[St.new],λg=>⟨St.new_wf g _,AFr.new _ _ _⟩,λg q _=> ?_⟩;have l:¬D σ.next:=q _ (by simp[St.rng,St.new]);refine⟨.pointer (some ⟨w.heap.size,0,none⟩),EG ι σ.next (rg w.heap.size 0 c.size i.size),{ w with heap:=w.heap.push (.cells c b (0,0))},by simp[newRow],?_,?_⟩
  ·have:=VR.ptr (D:=λi=>D i\/σ.rng (σ.new (.row d b false)) i) (ι:=EG ι σ.next (rg w.heap.size 0 c.size i.size)) σ.next 0 (.inr (St.rng_new.2 rfl));rw[AV] at this;exact this
  ·refine Post.new g l ?_ ?_ ?_ ?_ rfl rfl rfl rfl rfl
   ·have:=f.1;simp at this;omega
   ·intro j n;have:=hT.inf _ _ p;rw[this] at n;cases n;have s:d.length=c.size:=by simpa using f.1
    exact⟨rfl,by rw[<-s];exact a⟩
   ·intro o _ h;omega
   ·intro k v m;have e:k<c.size:=by
     have:=f.1;simp at this;have t:k<d.length:=by
      rcases Nat.lt_or_ge k d.length with h|h
      ·exact h
      ·rw[List.getElem?_eq_none h] at m;cases m
     omega
    exact⟨c[k],Array.getElem?_eq_getElem e,f.2 k v c[k] (by simpa using m) (Array.getElem?_eq_getElem e)⟩
 ·cases h
def Kg (T:TE) (σ:St) (a:TypeId):Option R:=
 match T.inf a with
 |some i=>match i.zero with
  |some z=>bif AW 8 z then S6 T σ a z.cells.toList else none
  |none=>none
 |none=>none
theorem RM {d:TypeId} {r:R} (h:Kg T σ d=some r):AF P D ι σ w (Instr.alloc d true (.tuple #[])) r:=by
 unfold Kg at h
 split at h
 ·rename_i i g
  split at h
  ·rename_i z j;cases f:AW 8 z
   ·rw[f] at h;cases h
   ·rw[f] at h;have k:VR D ι z z:=Ar 8 z f;have:=NA hT (w:=w) (ι:=ι) (D:=D) (c:=z.cells) h (by simpa using k.cells (GA f));have e:Instr.alloc d true (.tuple #[])=(do let zero<-zeroValue d;pure (.pointer (some (<-newVar d zero)))):=by
     unfold Instr.alloc;rfl
    obtain⟨l,m,n⟩:=this;refine⟨l,m,λa b c=> ?_⟩;obtain⟨v',ι',w',g1,o,g3⟩:=n a b c;refine⟨v',ι',w',?_,o,g3⟩;rw[e,Sem.run_bind,Ei hT g j,Result.andThen_ok];exact g1
  ·cases h
 ·cases h
theorem Vg {a:TypeId} {v v':Value} {r:R} (h:S6 T σ a v.cells.toList=some r) (b:VR D ι v v') (d:Lu v=true):AF P D ι σ w (Instr.box a v') r:=by
 have:=NA hT (w:=w) (ι:=ι) (D:=D) (c:=v'.cells) h (by simpa using b.cells d);exact this
omit hT
def NB:List Value->Nat->Option (List Value)
 |_,0=>some []
 |[],_+1=>none
 |x::a,n+1=>match NB a n with
  |some l=>some (x::l)
  |none=>none
def DB:List Value->Nat->Nat->Option (List Value)
 |cs,0,n=>NB cs n
 |[],_+1,n=>NB [] n
 |_::cs,o+1,n=>DB cs o n
def RN:List Value->Nat->Option Value
 |[],_=>none
 |x::_,0=>some x
 |_::a,n+1=>RN a n
theorem MI:∀(l:List Value) (k:Nat),RN l k=l[k]?
 |[],k=>by simp[RN]
 |x::a,0=>by simp[RN]
 |x::a,k+1=>by simp[RN,MI a k]
theorem Iu:∀(a:List Value) (n:Nat) (l:List Value),NB a n=some l->l.length=n/\n<=a.length/\∀j,j<n->l[j]?=a[j]?
 |_,0,l,h=>by simp[NB] at h;subst h;simp
 |[],n+1,l,h=>by simp[NB] at h
 |x::b,n+1,l,h=>by
  simp only[NB] at h
  split at h
  ·rename_i c d;cases h;obtain⟨e,g,f⟩:=Iu b n c d;refine⟨by simp[e],by simp;omega,λj i=> ?_⟩;rcases j with _|j
   ·simp
   ·simpa using f j (by omega)
  ·cases h
theorem Ck:∀(cs:List Value) (o n:Nat) (l:List Value),DB cs o n=some l->l.length=n/\(0<n->o+n<=cs.length)/\∀j,j<n->l[j]?=cs[o+j]?
 |cs,0,n,l,h=>by
  obtain⟨a,b,c⟩:=Iu cs n l (by simpa[DB] using h);exact⟨a,λ_=>by omega,λj d=>by simpa using c j d⟩
 |[],o+1,n,l,h=>by
  obtain⟨a,b,c⟩:=Iu [] n l (by simpa[DB] using h);simp at b;exact⟨a,λh=>by omega,λj d=>by omega⟩
 |x::e,o+1,n,l,h=>by
  obtain⟨a,b,c⟩:=Ck e o n l (by simpa[DB] using h);refine⟨a,λh=>by have:=b h;simp;omega,λj d=> ?_⟩;rw[c j d,show o+1+j=(o+j)+1 by omega];simp
def GB (id:Nat):Nat->Nat->List (Nat×Nat)
 |_,0=>[]
 |o,n+1=>(id,o)::GB id (o+1) n
theorem CA {id:Nat}:∀{n o j k:Nat},(j,k)∈GB id o n↔j=id/\o<=k/\k<o+n
 |0,o,j,k=>by simp only[GB,List.not_mem_nil,false_iff];omega
 |n+1,o,j,k=>by
  simp only[GB,List.mem_cons,Prod.mk.injEq,CA (n:=n)];omega
def GC:TypeDesc->Bool
 | .struct _| .array _ _=>true
 |_=>false
include hT
theorem CW {t:TypeId} {d:TypeDesc} (h:T.und t=some d) (w:World):(isAgg t).run P w=.ok (GC d) w:=by
 simp only[isAgg,Sem.run_bind,AK hT h,Result.andThen_ok];cases d<;>rfl
omit hT
theorem BF (b o n:Nat):(⟨b,o,none⟩:Addr).add n=⟨b,o+n,none⟩:=by
 unfold Addr.add;split
 ·rename_i a;subst a;rfl
 ·rfl
theorem Pk {w w':World} (h:w'.heap=w.heap) (a:Addr):w'.cell? a=w.cell? a:=by simp only[World.cell?,h]
theorem CB {id off n:Nat} {k l:List Value} {e:TypeId} {s:Bool} {φ:Foot} (q:σ.heap.get id=some (.row k e s)) (t:DB k off n=some l)
  (x:HOn P D ι σ.H φ w) (y:∀j,j<n->φ.Fc id (off+j)):
  ∃c:Array Value,(∀w':World,w'.heap=w.heap->(loadCells ⟨(ι id).blk,(ι id).base+off,none⟩ n).run P w'=.ok c w')/\AR D ι l.toArray c:=by
 obtain⟨z,C,A⟩:=Ck k off n l t;have r:∀j,j<n->∃v v',l[j]?=some v/\w.cell? ⟨(ι id).blk,(ι id).base+off+j,none⟩=some v'/\VR D ι v v':=by
  intro j g;have d:l[j]?=some l[j]:=List.getElem?_eq_getElem (by omega);obtain⟨-,v',m,o⟩:=x.ce id (off+j) l[j] (y j g) (St.lv_of q) (by rw[St.cell_of q,<-A j g,d]);exact⟨l[j],v',d,by rw[Nat.add_assoc];exact m,o⟩
 refine⟨_,λw' p=>run_loadCells w' _ n (λj=>(w.cell? ⟨(ι id).blk,(ι id).base+off+j,none⟩).getD undef) λj g=> ?_,?_,?_⟩
 ·obtain⟨v,v',_,e,_⟩:=r j g;rw[BF,Pk p,e];rfl
 ·simp[z]
 ·intro i v v' b a;have f:i<n:=by
   rcases Nat.lt_or_ge i n with h|h
   ·exact h
   ·simp only[List.getElem?_toArray] at b;rw[List.getElem?_eq_none (by omega)] at b;cases b
  obtain⟨u,E,m,o,B⟩:=r i f;simp only[List.getElem?_toArray] at b a;rw[m] at b;cases b;simp[f,o] at a;rw[<-a];exact B
def Ia (T:TE) (σ:St) (t:TypeId) (a:Value):Option R:=
 match a with
 | .pointer (some ⟨id,off,none⟩)=>match σ.heap.get id with
   |some (.row b _ _)=>match T.und t with
    |some d=>bif GC d then
     match T.inf t with
     |some i=>match DB b off i.size with
      |some l=>some ⟨.agg l.toArray,σ,⟨GB id off i.size,[],[],[]⟩⟩
      |none=>none
     |none=>none
     else match RN b off with
      |some v=>some ⟨v,σ,⟨[(id,off)],[],[],[]⟩⟩
      |none=>none
    |none=>none
   |_=>none
 |_=>none
theorem VR.ptr_inv {id off:Nat} {v':Value} (h:VR D ι (.pointer (some ⟨id,off,none⟩)) v'):v'=.pointer (some ⟨(ι id).blk,(ι id).base+off,none⟩)/\D id:=by
 cases h with|ptr _ _ h=>exact⟨rfl,h⟩
include hT
theorem S7 {t:TypeId} {a n:Value} {r:R} (h:Ia T σ t a=some r) (o:VR D ι a n):AF P D ι σ w (Instr.loadAt t n) r:=by
 unfold Ia at h
 split at h
 ·rename_i id off;obtain⟨rfl,x⟩:=o.ptr_inv
  split at h
  ·rename_i y e z k
   split at h
   ·rename_i d hd;cases b:GC d
    ·rw[b,cond_false,MI] at h
     split at h
     ·rename_i v p;cases h;refine AF.same (w':=w) (v':=(w.cell? ⟨(ι id).blk,(ι id).base+off,none⟩).getD undef) (λm=> ?_) rfl rfl;obtain⟨-,v',f,g⟩:=m.ce id off v (.inl (by simp)) (St.lv_of k) (by rw[St.cell_of k];exact p);refine⟨?_,by rw[f];exact g,rfl,rfl,rfl⟩;simp only[Instr.loadAt,Instr.sureAddr,loadVar,Sem.run_bind,Sem.run_pure,Result.andThen_ok,CW hT hd,b,Bool.false_eq_true,if_false,run_load,f]
      rfl
     ·cases h
    ·rw[b,cond_true] at h
     split at h
     ·rename_i i q
      split at h
      ·rename_i l s;cases h;refine⟨Nat.le_refl _,λu=>⟨u,AFr.refl _ _⟩,λ_ _ m=> ?_⟩;obtain⟨c,f,g⟩:=CB k s m λj A=>.inl (CA.2 ⟨rfl,by omega,by omega⟩)
       refine⟨.agg c,ι,w,?_,(VR.agg _ _ g.1 g.2).mono (λ_=>.inl) λ_ _=>rfl,Post.same (St.rng_self σ) rfl rfl rfl rfl rfl⟩;simp only[Instr.loadAt,Instr.sureAddr,loadVar,Sem.run_bind,Sem.run_pure,Result.andThen_ok,CW hT hd,b,if_true,Ao hT q,f w rfl]
      ·cases h
     ·cases h
   ·cases h
  ·cases h
 ·cases h
omit hT
def NC:List Value->List Value->Option (List Value)
 |cs,[]=>some cs
 |[],_::_=>none
 |_::cs,v::vs=>match NC cs vs with
  |some l=>some (v::l)
  |none=>none
def lput:List Value->Nat->List Value->Option (List Value)
 |cs,0,vs=>NC cs vs
 |[],_+1,vs=>NC [] vs
 |c::cs,o+1,vs=>match lput cs o vs with
  |some l=>some (c::l)
  |none=>none
theorem Iv:∀(cs vs a:List Value),NC cs vs=some a->a.length=cs.length/\vs.length<=cs.length/\∀k,a[k]?=if k<vs.length then vs[k]? else cs[k]?
 |cs,[],a,h=>by simp[NC] at h;subst h;simp
 |[],v::vs,a,h=>by simp[NC] at h
 |c::cs,v::vs,a,h=>by
  simp only[NC] at h
  split at h
  ·rename_i l b;cases h;obtain⟨d,f,e⟩:=Iv cs vs l b;refine⟨by simp[d],by simp;omega,λk=> ?_⟩;rcases k with _|k
   ·simp
   ·simpa using e k
  ·cases h
theorem IG:∀(cs:List Value) (o:Nat) (vs a:List Value),lput cs o vs=some a->a.length=cs.length/\(vs≠[]->o+vs.length<=cs.length)/\
  ∀k,a[k]?=if o<=k/\k<o+vs.length then vs[k-o]? else cs[k]?
 |cs,0,vs,a,h=>by
  obtain⟨b,e,d⟩:=Iv cs vs a (by simpa[lput] using h);exact⟨b,λ_=>by omega,λk=>by simpa using d k⟩
 |[],o+1,vs,a,h=>by
  obtain⟨b,e,d⟩:=Iv [] vs a (by simpa[lput] using h);have:vs=[]:=by simpa using e
  subst this;exact⟨b,λh=>absurd rfl h,λk=>by have:=d k;simp at this⊢;exact this⟩
 |c::cs,o+1,vs,a,h=>by
  simp only[lput] at h
  split at h
  ·rename_i l g;cases h;obtain⟨b,e,d⟩:=IG cs o vs l g;refine⟨by simp[b],λh=>by have:=e h;simp;omega,λk=> ?_⟩;rcases k with _|k
   ·rw[if_neg (by omega)];simp
   ·have:=d k;simp only[List.getElem?_cons_succ,this,show k+1-(o+1)=k-o by omega];by_cases f:o<=k/\k<o+vs.length
    ·rw[if_pos f,if_pos (by omega)]
    ·rw[if_neg f,if_neg (by omega)]
  ·cases h
theorem AFr.lput {id off:Nat} {d b vs:List Value} {a:TypeId} {φ:Foot} (e:σ.heap.get id=some (.row d a false)) (f:lput d off vs=some b) (g:φ.wc=GB id off vs.length):
  AFr σ (σ.put id (some (.row b a false))) φ:=by
 obtain⟨g1,_,g3⟩:=IG d off vs b f;refine AFr.put e g1 λk h=> ?_
 rw[g3,if_neg];intro c;exact h (by rw[g];exact CA.2 ⟨rfl,c.1,c.2⟩)
theorem FM {id off:Nat} {m d vs:List Value} {b:TypeId} {rc:List (Nat×Nat)} {rh:List Nat} {vs':List Value} (t:σ.heap.get id=some (.row m b false)) (y:lput m off vs=some d) (g:vs≠[])
  (z:∀v∈vs,oneC v=true) (A:HOn P D ι σ.H ⟨rc,rh,GB id off vs.length,[]⟩ w) (K:vs.length=vs'.length) (h:∀(k:Nat) v v',vs[k]?=some v->vs'[k]?=some v'->VR D ι v v'):
  ∃w':World,(storeCells ⟨(ι id).blk,(ι id).base+off,none⟩ vs').run P w=.ok () w'/\
   Post P D (σ.rng (σ.put id (some (.row d b false)))) ι σ.H w ⟨rc,rh,GB id off vs.length,[]⟩ ι (σ.put id (some (.row d b false))).H w':=by
 obtain⟨g1,u,g3⟩:=IG m off vs d y;have u:=u g;have x:0<vs.length:=List.length_pos_iff.2 g;have n:(⟨rc,rh,GB id off vs.length,[]⟩:Foot).Fi id:=.inr (.inr (.inl ⟨off,CA.2 ⟨rfl,by omega,by omega⟩⟩));have hd:=A.hd id _ n (St.hdr_of t);obtain⟨c,a,fr,q,B,C,E,i⟩:=hd
 obtain⟨rfl,L,F⟩:=i rfl;have hd:Am P ι id w (.row m.length a false):=⟨c,a,fr,q,B,C,E,i⟩
 refine⟨_,DI P _ ((ι id).base+off) a fr vs' 0 c w q (by omega) (λv' r=> ?_) F,?_⟩
 ·obtain⟨k,f,rfl⟩:=List.mem_iff_getElem.1 r;exact(h k (vs[k]'(by omega)) _ (List.getElem?_eq_getElem (by omega)) (List.getElem?_eq_getElem f)).oneC (z _ (List.getElem_mem _))
 ·refine Post.write t hd q rfl rfl rfl (AJ _ _ _) g1 (λp G=>(CA (j:=p.1) (k:=p.2)).1 G|>.1) (λo s=> ?_) (λk v I f=> ?_) λk f=> ?_
  ·rw[Bo _ _ _ _ (by omega),if_neg];intro e;refine s (o-(ι id).base) (CA.2 ⟨rfl,by omega,by omega⟩) (by omega)
  ·have J:=(CA.1 I).2;rw[g3,if_pos (by omega)] at f;have l:k-off<vs'.length:=by omega
   refine⟨vs'[k-off],?_,h (k-off) v _ f (List.getElem?_eq_getElem l)⟩;rw[Bo _ _ _ _ (by omega),if_pos (by omega),show(ι id).base+k-((ι id).base+off+0)=k-off by omega];exact List.getElem?_eq_getElem l
  ·rw[g3,if_neg];intro e;exact f (CA.2 ⟨rfl,e.1,e.2⟩)
def Kh (T:TE) (σ:St) (t:TypeId) (a v:Value):Option R:=
 match a with
 | .pointer (some ⟨id,off,none⟩)=>match σ.heap.get id with
   |some (.row e b false)=>match T.inf t with
    |some i=>match v.cells.toList with
     |[]=>none
     |x::c=>bif Nat.beq i.size (c.length+1)&&(x::c).all oneC then
       match lput e off (x::c) with
       |some d=>some ⟨undef,σ.put id (some (.row d b false)),⟨[],[],GB id off (c.length+1),[]⟩⟩
       |none=>none
      else none
    |none=>none
   |_=>none
 |_=>none
include hT
theorem RO {t:TypeId} {a q v v':Value} {r:R} (h:Kh T σ t a v=some r) (A:VR D ι a q) (B:VR D ι v v'):AF P D ι σ w (do Instr.storeAt t q v';pure undef) r:=by
 unfold Kh at h
 split at h
 ·rename_i id off;obtain⟨rfl,K⟩:=A.ptr_inv
  split at h
  ·rename_i L s g
   split at h
   ·rename_i i C
    split at h
    ·cases h
    ·rename_i x f j;cases c:(Nat.beq i.size (f.length+1)&&(x::f).all oneC)
     ·rw[c] at h;cases h
     ·rw[c,cond_true] at h;rw[Bool.and_eq_true] at c
      split at h
      ·rename_i E y;cases h;refine⟨Nat.le_refl _,λl=>⟨St.put_wf l (St.lv_lt l (St.lv_of g)) _,AFr.lput g y (by simp)⟩,λl F G=> ?_⟩;have m:Lu v=true:=by
        cases v with
        |chan r=>cases r with
         |none=>rfl
         |some r=>
          have e:[x]=[x]:=rfl;have n:[Value.chan (some r)]=x::f:=j;have d:=c.2;rw[<-n] at d;cases d
        |_=>rfl
       obtain⟨c1,c2⟩:=B.cells m;have b:(x::f).length=v'.cells.toList.length:=by rw[<-j];simpa using c1
       obtain⟨w',H,I⟩:=FM (vs':=v'.cells.toList) g y (by simp) (List.all_eq_true.1 c.2) G b λk u J z o=>c2 k u J (by rw[<-j] at z;simpa using z) (by simpa using o)
       refine⟨undef,ι,w',?_,.tuple #[] #[] rfl (by simp),I⟩;have p:¬v'.cells.size≠i.size:=by
        have:=Nat.eq_of_beq_eq_true c.1;simp at b;omega
       simp only[Instr.storeAt,Instr.sureAddr,storeVar,Sem.run_bind,Sem.run_pure,Result.andThen_ok,Ao hT C];rw[if_neg p,H];rfl
      ·cases h
   ·cases h
  ·cases h
 ·cases h
def Ds (T:TE) (σ:St) (s:TypeId) (a:Value) (f:Nat):Option R:=
 match a with
 | .pointer (some ⟨id,off,none⟩)=>match T.und s with
   |some (.struct c)=>match c[f]? with
    |some b=>match T.inf b.type with
     |some i=>bif Nat.beq i.size 0 then none else some ⟨.pointer (some ⟨id,off+b.offset,none⟩),σ,.nil⟩
     |none=>none
    |none=>none
   |_=>none
 |_=>none
theorem Ki {s:TypeId} {a c:Value} {f:Nat} {r:R} (h:Ds T σ s a f=some r) (d:VR D ι a c):AF P D ι σ w (Instr.fieldAt s c f) r:=by
 unfold Ds at h
 split at h
 ·rename_i id off;obtain⟨rfl,g⟩:=d.ptr_inv
  split at h
  ·rename_i o j
   split at h
   ·rename_i k l
    split at h
    ·rename_i i m;cases b:Nat.beq i.size 0
     ·rw[b] at h;cases h;have n:i.size≠0:=λe=>by rw[e] at b;cases b
      refine AF.pure (v':=.pointer (some ⟨(ι id).blk,(ι id).base+off+k.offset,none⟩)) ?_ (by rw[Nat.add_assoc];exact .ptr id _ g);simp only[Instr.fieldAt,Sem.run_bind,AK hT j,Result.andThen_ok,l,Instr.sureAddr,Sem.run_pure,fieldPlace,Ao hT m,if_neg n,BF]
     ·rw[b] at h;cases h
    ·cases h
   ·cases h
  ·cases h
 ·cases h
def LK (i:Int) (n:Nat):Bool:=
 match i with
 | .ofNat k=>Nat.blt k n
 | .negSucc _=>false
omit hT in
theorem Iw {i:Int} {n:Nat} (h:LK i n=true):0<=i/\i<n/\i.toNat<n:=by
 cases i with
 |ofNat k=>
  have:k<n:=by simpa[LK] using h
  exact⟨Int.natCast_nonneg k,by simpa using this,by simpa using this⟩
 |negSucc k=>cases h
def CG (T:TE) (σ:St) (t:TypeId) (x b:Value):Option R:=
 match b with
 | .int _ i=>match T.und t with
   |some (.slice a)=>match x,T.inf a with
    | .slice (some ⟨id,off,none⟩) len _,some e=>bif LK i len then some ⟨.pointer (some ⟨id,off+i.toNat*e.size,none⟩),σ,.nil⟩ else none
    |_,_=>none
   |some (.array len a)=>match x,T.inf a with
    | .pointer (some ⟨id,off,none⟩),some e=>bif LK i len then some ⟨.pointer (some ⟨id,off+i.toNat*e.size,none⟩),σ,.nil⟩ else none
    |_,_=>none
   |_=>none
 |_=>none
omit hT in
theorem VR.sl_inv {id off l c:Nat} {v':Value} (h:VR D ι (.slice (some ⟨id,off,none⟩) l c) v'):
  ∃a,v'=.slice (some ⟨(ι id).blk,(ι id).base+off,none⟩) l a/\D id/\(c≠Ew->a=c)/\(c=Ew->l<=a/\off+a*(ι id).esz<=(ι id).room):=by
 cases h with
 |slK _ _ _ _ h b=>exact⟨c,rfl,h,λ_=>rfl,λe=>absurd e b⟩
 |slU _ _ _ a h d f=>exact⟨a,rfl,h,λe=>absurd rfl e,λ_=>⟨d,f⟩⟩
theorem AA6 {t:TypeId} {x l m b:Value} {r:R} (h:CG T σ t x m=some r) (n:VR D ι x l) (o:VR D ι m b):AF P D ι σ w (Instr.indexAt t l b) r:=by
 unfold CG at h
 split at h
 ·rename_i k i;cases o
  split at h
  ·rename_i c d
   split at h
   ·rename_i id off len cap e f;cases a:LK i len
    ·rw[a] at h;cases h
    ·rw[a,cond_true] at h;cases h;obtain⟨p,rfl,g,_,_⟩:=n.sl_inv;obtain⟨j,i2,i3⟩:=Iw a;refine AF.pure (v':=.pointer (some ⟨(ι id).blk,(ι id).base+off+i.toNat*e.size,none⟩)) ?_ (by rw[Nat.add_assoc];exact .ptr id _ g);simp only[Instr.indexAt,asIntOf,Sem.run_bind,Sem.run_pure,Result.andThen_ok,AK hT d,j,i2,and_self,if_true,Ao hT f,BF]
   ·cases h
  ·rename_i len c d
   split at h
   ·rename_i id off e f;cases a:LK i len
    ·rw[a] at h;cases h
    ·rw[a,cond_true] at h;cases h;obtain⟨rfl,g⟩:=n.ptr_inv;obtain⟨j,i2,i3⟩:=Iw a;refine AF.pure (v':=.pointer (some ⟨(ι id).blk,(ι id).base+off+i.toNat*e.size,none⟩)) ?_ (by rw[Nat.add_assoc];exact .ptr id _ g);simp only[Instr.indexAt,asIntOf,Sem.run_bind,Sem.run_pure,Result.andThen_ok,AK hT d,Instr.sureAddr,j,i2,and_self,if_true,Ao hT f,BF]
   ·cases h
  ·cases h
 ·cases h
end
end Go.Eng
end
end
section
noncomputable section
namespace Go.Eng
open Go
section
variable {P:Program} {T:TE} (hT:T.OK P) {D:Nat->Prop} {ι:Nat->Reg} {σ:St} {w:World}
def Kj {α:Type} (P:Program):Sem α->Option α
 | .pure a=>some a
 | .program k=>Kj P (k P)
 | .mark _ k=>Kj P k
 | .choose q k=>bif q.forced then Kj P (k 0) else none
 |_=>none
theorem ND {α:Type} (P:Program) (e:Sem α):∀(a:α),Kj P e=some a->∀w,e.run P w=.ok a w:=by
 induction e with
 |pure x=>intro a h w;simp[Kj] at h;subst h;rfl
 |program k b=>intro a h w;simp only[Kj] at h;simp only[Sem.run];exact b P a h w
 |mark m k b=>intro a h w;simp only[Kj] at h;simp only[Sem.run];exact b a h w
 |choose q k b=>
  intro a h w;simp only[Kj] at h;cases c:q.forced
  ·rw[c] at h;cases h
  ·rw[c,cond_true] at h;simp only[Sem.run,c,if_true];exact b 0 a h w
 |_=>intro a h;simp[Kj] at h
theorem Vh {e:Sem Value} {v:Value} (h:Kj P e=some v) (a:AW 8 v=true):AF P D ι σ w e ⟨v,σ,.nil⟩:=
 AF.pure (ND P e v h w) (Ar 8 v a)
def Jd (x:Value) (i:Nat):Option Value:=
 match x with
 | .tuple vs=>bif QX vs.toList then none else RN vs.toList i
 |_=>none
theorem S8 (as:Array Value) (i:Nat):RN as.toList i=as[i]?:=by rw[MI];simp
theorem ABE {x d v:Value} {i:Nat} (h:Jd x i=some v) (e:VR D ι x d):AF P D ι σ w (Instr.extract d i) ⟨v,σ,.nil⟩:=by
 unfold Jd at h
 split at h
 ·rename_i vs;cases a:QX vs.toList
  case true=>rw[a] at h;cases h
  rw[a,cond_false,S8] at h;cases e with
  |sym _ _=>cases a
  |err _ _ _=>cases a
  |aint _ _=>cases a
  |dat _ _ _ _ _ _=>cases a
  |pfx _ _ _ _ _ _ _ _=>cases a
  |tuple _ bs f g=>
   have b:i<bs.size:=by
    rw[<-f];rcases Nat.lt_or_ge i vs.size with c|c
    ·exact c
    ·rw[Array.getElem?_eq_none c] at h;cases h
   refine AF.pure (v':=bs[i]) ?_ (g i v bs[i] h (Array.getElem?_eq_getElem b));simp[Instr.extract,Array.getElem?_eq_getElem b]
 ·cases h
def Xm (T:TE) (t:TypeId) (a:Array Value) (off:Nat):Option Value:=
 match T.und t with
 |some d=>bif GC d then
   match T.inf t with
   |some i=>match DB a.toList off i.size with
    |some l=>some (.agg l.toArray)
    |none=>none
   |none=>none
  else RN a.toList off
 |none=>none
include hT
theorem Pm {t:TypeId} {as bs:Array Value} {off:Nat} {v:Value} (h:Xm T t as off=some v) (g:AR D ι as bs) (w:World):
  ∃v',(part t bs off).run P w=.ok v' w/\VR D ι v v':=by
 unfold Xm at h
 split at h
 ·rename_i d hd;cases a:GC d
  ·rw[a,cond_false,S8] at h;have f:off<bs.size:=by
    rw[<-g.1];rcases Nat.lt_or_ge off as.size with e|e
    ·exact e
    ·rw[Array.getElem?_eq_none e] at h;cases h
   refine⟨bs[off],?_,g.2 off v bs[off] h (Array.getElem?_eq_getElem f)⟩;simp only[part,Sem.run_bind,CW hT hd,a,Result.andThen_ok,Bool.false_eq_true,if_false,Array.getElem?_eq_getElem f,Sem.run_pure]
  ·rw[a,cond_true] at h
   split at h
   ·rename_i i m
    split at h
    ·rename_i l n;cases h;obtain⟨o,j,p⟩:=Ck _ _ _ _ n;simp only[Array.length_toList] at j;have s:=g.1;refine⟨.agg (bs.extract off (off+i.size)),?_,.agg _ _ ?_ λk v v' b c=> ?_⟩
     ·simp only[part,Sem.run_bind,CW hT hd,a,Result.andThen_ok,if_true,Ao hT m,Sem.run_pure]
     ·simp only[List.size_toArray,o,Array.size_extract];by_cases q:0<i.size
      ·have:=j q;omega
      ·omega
     ·have r:k<i.size:=by
       rcases Nat.lt_or_ge k i.size with e|e
       ·exact e
       ·simp only[List.getElem?_toArray] at b;rw[List.getElem?_eq_none (by omega)] at b;cases b
      simp only[List.getElem?_toArray] at b;rw[p k r] at b;simp only[Array.getElem?_toList] at b;rw[Array.getElem?_extract] at c;have:=j (by omega);rw[if_pos (by omega)] at c;exact g.2 _ v v' b c
    ·cases h
   ·cases h
 ·cases h
def RP (T:TE) (t:TypeId) (x:Value) (f:Nat):Option Value:=
 match x with
 | .agg b=>match T.und t with
   |some (.struct c)=>match c[f]? with
    |some a=>Xm T a.type b a.offset
    |none=>none
   |_=>none
 |_=>none
theorem RQ {t:TypeId} {x a v:Value} {f:Nat} (h:RP T t x f=some v) (b:VR D ι x a):AF P D ι σ w (Instr.field t a f) ⟨v,σ,.nil⟩:=by
 unfold RP at h
 split at h
 ·rename_i k
  split at h
  ·rename_i l c
   split at h
   ·rename_i m d;cases b with
    |agg _ bs g i=>
     obtain⟨v',e,j⟩:=Pm hT h ⟨g,i⟩ w;refine AF.pure (v':=v') ?_ j;simp only[Instr.field,Sem.run_bind,AK hT c,Result.andThen_ok,d,asAgg,Sem.run_pure,e]
   ·cases h
  ·cases h
 ·cases h
omit hT
def ZE:L8->Nat->Option UInt8
 |[],_=>none
 |x::_,0=>some x
 |_::a,n+1=>ZE a n
theorem Xn:∀(l:L8) (k:Nat),ZE l k=l[k]?
 |[],k=>by simp[ZE]
 |x::a,0=>by simp[ZE]
 |x::a,k+1=>by simp[ZE,Xn a k]
theorem Pn (s:ByteArray) (k:Nat):s[k]?=s.data.toList[k]?:=by
 rw[getElem?_def];by_cases h:k<s.size
 ·rw[dif_pos h];have:k<s.data.toList.length:=by simpa using h
  rw[List.getElem?_eq_getElem this];rfl
 ·rw[dif_neg h,List.getElem?_eq_none (by simpa using h)]
def RR (T:TE) (t:TypeId) (x c:Value):Option Value:=
 match c with
 | .int _ i=>match x with
   | .string s=>match T.und t with
     |some .string=>match i with
      | .ofNat k=>match ZE s.data.toList k with
        |some b=>some (.int .u8 b.toNat)
        |none=>none
      |_=>none
     |_=>none
   | .agg d=>match T.und t with
     |some (.array len a)=>match T.inf a with
      |some e=>bif LK i len then Xm T a d (i.toNat*e.size) else none
      |none=>none
     |_=>none
   |_=>none
 |_=>none
include hT
theorem RS {t:TypeId} {x f g a v:Value} (h:RR T t x g=some v) (j:VR D ι x f) (m:VR D ι g a):AF P D ι σ w (Instr.index t f a) ⟨v,σ,.nil⟩:=by
 unfold RR at h
 split at h
 ·rename_i k i;cases m
  split at h
  ·rename_i s;cases j
   split at h
   ·rename_i d
    split at h
    ·rename_i n;rw[Xn] at h
     split at h
     ·rename_i b c;cases h;refine AF.pure (v':=.int .u8 b.toNat) ?_ (.int _ _);have o:(0:Int)<=(n:Int):=Int.natCast_nonneg n;simp only[Instr.index,asIntOf,Sem.run_bind,Sem.run_pure,Result.andThen_ok,AK hT d,o,if_true,Int.ofNat_eq_natCast,Int.toNat_natCast,Pn,c]
     ·cases h
    ·cases h
   ·cases h
  ·rename_i A
   split at h
   ·rename_i len l d
    split at h
    ·rename_i e p;cases c:LK i len
     ·rw[c] at h;cases h
     ·rw[c,cond_true] at h;obtain⟨q,i2,i3⟩:=Iw c;cases j with
      |agg _ bs r u=>
       obtain⟨v',y,z⟩:=Pm hT h ⟨r,u⟩ w;refine AF.pure (v':=v') ?_ z;simp only[Instr.index,asIntOf,Sem.run_bind,Sem.run_pure,Result.andThen_ok,AK hT d,q,i2,and_self,if_true,Ao hT p,y]
    ·cases h
   ·cases h
  ·cases h
 ·cases h
omit hT
def ZF (s:L8) (l h:Nat):L8:=(s.drop l).take (h-l)
theorem MJ (s:ByteArray) (l h:Nat):s.extract l h=⟨(ZF s.data.toList l h).toArray⟩:=by
 apply ByteArray.ext;rw[ByteArray.data_extract];apply Array.ext';simp[ZF,List.extract]
def Bu (v:Option Value) (dflt a:Nat):Option Nat:=
 match v with
 |none=>some dflt
 |some (.int _ (.ofNat k))=>bif Nat.ble k a then some k else none
 |_=>none
theorem Bv {x:Value} {y k:Nat} {code:BoundsCode} {dflt:Nat} (h:Bu (some x) dflt y=some k) {d:Value} (e:VR D ι x d) (w:World):
  (Instr.sliceBound d y code).run P w=.ok k w/\k<=y:=by
 unfold Bu at h
 split at h
 ·rename_i b;cases b
 ·rename_i b;cases b;rename_i i n;cases c:Nat.ble n y
  ·rw[c] at h;cases h
  ·rw[c] at h;cases h;cases e;have a:=Nat.le_of_ble_eq_true c;refine⟨?_,a⟩;have f:(0:Int)<=(k:Int):=Int.natCast_nonneg k;have g:(k:Int)<=(y:Int):=by simpa using a
   simp only[Instr.sliceBound,asIntOf,Sem.run_bind,Sem.run_pure,Result.andThen_ok,f,g,and_self,if_true,Int.ofNat_eq_natCast,Int.toNat_natCast]
 ·cases h
inductive OR (D:Nat->Prop) (ι:Nat->Reg):Option Value->Option Value->Prop where
 |none:OR D ι none none
 |some (a b) (h:VR D ι a b):OR D ι (some a) (some b)
def GD (len cap:Nat) (lo a b:Option Value):Option (Nat×Nat×Nat):=
 match Bu b cap cap with
 |some m=>match Bu a len m with
  |some h=>match Bu lo 0 h with
   |some l=>match a,b with
    |none,some _=>none
    |_,_=>some (l,h,m)
   |none=>none
  |none=>none
 |none=>none
theorem EB {isSl:Bool} {len cap cap':Nat} {lo G z q r s:Option Value} {l h m:Nat} (i:GD len cap lo G z=some (l,h,m)) (J:cap<=cap') (A:z=none->cap'=cap)
  (B:OR D ι lo q) (H:OR D ι G r) (K:OR D ι z s) (t:len<=cap) (w:World):
  (Instr.sliceBounds isSl len cap' q r s).run P w=.ok (l,h,m) w/\l<=h/\h<=m/\m<=cap:=by
 unfold GD at i
 split at i
 ·rename_i I f
  split at i
  ·rename_i M j
   split at i
   ·rename_i N k;have L:∀a,Bu (some a) cap cap=some I->Bu (some a) cap cap'=some I:=by
     intro a f;unfold Bu at f⊢
     split at f
     ·rename_i h;cases h
     ·rename_i O n e;cases e;cases C:Nat.ble n cap
      ·rw[C] at f;cases f
      ·rw[C] at f;have:Nat.ble n cap'=true:=Nat.ble_eq_true_of_le (Nat.le_trans (Nat.le_of_ble_eq_true C) J);simp only[this,cond_true];exact f
     ·cases f
    split at i
    ·cases i
    ·rename_i E;cases i;cases K with
     |none=>
      simp only[Bu,Option.some.injEq] at f;subst f;have F:=A rfl;subst F;cases H with
      |none=>
       simp only[Bu,Option.some.injEq] at j;subst j;cases B with
       |none=>
        simp only[Bu,Option.some.injEq] at k;subst k;exact⟨by simp[Instr.sliceBounds],Nat.zero_le _,t,Nat.le_refl _⟩
       |some a b g=>
        have e:=λc=>Bv (P:=P) (code:=c) k g w
        exact⟨by simp[Instr.sliceBounds,(e _).1],(e .index).2,t,Nat.le_refl _⟩
      |some c d p=>
       have o:=λc=>Bv (P:=P) (code:=c) j p w
       cases B with
       |none=>
        simp only[Bu,Option.some.injEq] at k;subst k;exact⟨by simp[Instr.sliceBounds,(o _).1],Nat.zero_le _,(o .index).2,Nat.le_refl _⟩
       |some a b g=>
        have e:=λc=>Bv (P:=P) (code:=c) k g w
        exact⟨by simp[Instr.sliceBounds,(e _).1,(o _).1],(e .index).2,(o .index).2,Nat.le_refl _⟩
     |some u v x=>
      have em:=λc=>Bv (P:=P) (code:=c) (L u f) x w
      have y:=Bv (P:=P) (code:=.index) f x w;cases H with
      |none=>exact absurd rfl (E u rfl)
      |some c d p=>
       have o:=λc=>Bv (P:=P) (code:=c) j p w
       cases B with
       |none=>
        simp only[Bu,Option.some.injEq] at k;subst k;exact⟨by simp[Instr.sliceBounds,(em _).1,(o _).1],Nat.zero_le _,(o .index).2,y.2⟩
       |some a b g=>
        have e:=λc=>Bv (P:=P) (code:=c) k g w
        exact⟨by simp[Instr.sliceBounds,(e _).1,(em _).1,(o _).1],(e .index).2,(o .index).2,y.2⟩
   ·cases i
  ·cases i
 ·cases i
end
end Go.Eng
end
end
section
noncomputable section
namespace Go.Eng
open Go
section
variable {P:Program} {T:TE} (hT:T.OK P) {D:Nat->Prop} {ι:Nat->Reg} {σ:St} {w:World}
theorem LL {len cap':Nat} {lo r j k:Option Value} {l h:Nat} (p:Bu r len len=some h) (i:Bu lo 0 h=some l) (u:len<=cap')
  (s:OR D ι lo j) (v:OR D ι r k) (w:World):
  (Instr.sliceBounds true len cap' j k none).run P w=.ok (l,h,cap') w/\l<=h/\h<=len:=by
 have x:∀a,Bu (some a) len len=some h->Bu (some a) len cap'=some h:=by
  intro a f;unfold Bu at f⊢
  split at f
  ·rename_i h;cases h
  ·rename_i y n e;cases e;cases q:Nat.ble n len
   ·rw[q] at f;cases f
   ·rw[q] at f;have:Nat.ble n cap'=true:=Nat.ble_eq_true_of_le (Nat.le_trans (Nat.le_of_ble_eq_true q) u);simp only[this,cond_true];exact f
  ·cases f
 cases v with
 |none=>
  simp only[Bu,Option.some.injEq] at p;subst p;cases s with
  |none=>
   simp only[Bu,Option.some.injEq] at i;subst i;exact⟨by simp[Instr.sliceBounds],Nat.zero_le _,Nat.le_refl _⟩
  |some a b g=>
   have e:=λc=>Bv (P:=P) (code:=c) i g w
   exact⟨by simp[Instr.sliceBounds,(e _).1],(e .index).2,Nat.le_refl _⟩
 |some c d m=>
  have t:=λc=>Bv (P:=P) (code:=c) (x _ p) m w
  have o:=Bv (P:=P) (code:=.index) p m w;cases s with
  |none=>
   simp only[Bu,Option.some.injEq] at i;subst i;exact⟨by simp[Instr.sliceBounds,(t _).1],Nat.zero_le _,o.2⟩
  |some a b g=>
   have e:=λc=>Bv (P:=P) (code:=c) i g w
   exact⟨by simp[Instr.sliceBounds,(e _).1,(t _).1],(e .index).2,o.2⟩
def Kk (T:TE) (σ:St) (t:TypeId) (x:Value) (lo c d:Option Value):Option R:=
 match T.und t with
 |some .string=>match x,d with
  | .string s,none=>match GD s.size s.size lo c none with
    |some (l,h,_)=>some ⟨.string ⟨(ZF s.data.toList l h).toArray⟩,σ,.nil⟩
    |none=>none
  |_,_=>none
 |some (.slice a)=>match T.inf a with
  |some e=>match x with
   | .slice none len cap=>bif Nat.ble len cap then match GD len cap lo c d with
     |some (l,h,m)=>some ⟨.slice none (h-l) (m-l),σ,.nil⟩
     |none=>none else none
   | .slice (some ⟨id,off,none⟩) len cap=>
     bif Nat.beq cap Ew then match d with
      |none=>match Bu c len len with
       |some h=>match Bu lo 0 h with
        |some l=>bif Nat.beq l 0||Nat.blt l len then match σ.heap.get id with
         |some (.row _ b false)=>bif Nat.beq b a then some ⟨.slice (some ⟨id,off+l*e.size,none⟩) (h-l) Ew,σ,⟨[],[id],[],[]⟩⟩ else none
         |_=>none
         else match σ.heap.get id with
          |some (.row _ b false)=>bif Nat.beq b a&&Nat.beq l len&&Nat.beq h len then some ⟨.slice (some ⟨id,off+l*e.size,some 0⟩) 0 Ew,σ,⟨[],[id],[],[]⟩⟩ else some ⟨junk,σ,.nil⟩
          |_=>some ⟨junk,σ,.nil⟩
        |none=>none
       |none=>none
      |some f=>match GD len len lo c (some f) with
       |some (l,h,m)=>bif Nat.blt len Ew then some ⟨.slice (some ⟨id,bif Nat.beq m l then off else off+l*e.size,none⟩) (h-l) (m-l),σ,.nil⟩ else none
       |none=>none
     else bif Nat.ble len cap&&Nat.blt cap Ew then match GD len cap lo c d with
      |some (l,h,m)=>some ⟨.slice (some ⟨id,bif Nat.beq m l then off else off+l*e.size,none⟩) (h-l) (m-l),σ,.nil⟩
      |none=>none
     else none
   |_=>none
  |none=>none
 |some (.array n a)=>match T.inf a with
  |some e=>match x with
   | .pointer (some ⟨id,off,none⟩)=>bif Nat.blt n Ew then match GD n n lo c d with
     |some (l,h,m)=>some ⟨.slice (some ⟨id,bif Nat.beq m l then off else off+l*e.size,none⟩) (h-l) (m-l),σ,.nil⟩
     |none=>none
     else none
   |_=>none
  |none=>none
 |_=>none
theorem iT {α:Type} (a b:Nat) (x y:α):(bif Nat.beq a b then x else y)=if a=b then x else y:=by
 by_cases h:a=b
 ·rw[Cc h,if_pos h];rfl
 ·rw[UG h,if_neg h];rfl
theorem VR.cut {id off l h m sz:Nat} (a:D id) (c:m<Ew):
  VR D ι (.slice (some ⟨id,bif Nat.beq m l then off else off+l*sz,none⟩) (h-l) (m-l))
   (.slice (if m=l then some ⟨(ι id).blk,(ι id).base+off,none⟩ else some ⟨(ι id).blk,(ι id).base+off+l*sz,none⟩) (h-l) (m-l)):=by
 rw[iT];have b:m-l≠Ew:=by omega
 by_cases e:m=l
 ·rw[if_pos e,if_pos e];exact .slK id off _ _ a b
 ·rw[if_neg e,if_neg e,Nat.add_assoc];exact .slK id _ _ _ a b
include hT
theorem RT {t:TypeId} {x Z:Value} {lo hi mx z A H:Option Value} {r:R} (h:Kk T σ t x lo hi mx=some r) (K:VR D ι x Z) (B:OR D ι lo z) (C:OR D ι hi A) (F:OR D ι mx H):
  AF P D ι σ w (Instr.sliceAt t Z z A H) r:=by
 unfold Kk at h
 split at h
 ·rename_i q
  split at h
  ·rename_i s;cases K;cases F
   split at h
   ·rename_i l f m b;cases h;obtain⟨e,_⟩:=EB (P:=P) (isSl:=false) b (Nat.le_refl _) (λ_=>rfl) B C .none (Nat.le_refl _) w;refine AF.pure (v':=.string (s.extract l f)) ?_ (by rw[MJ];exact .string _);simp only[Instr.sliceAt,Instr.slice,Sem.run_bind,AK hT q,Result.andThen_ok,Option.isSome_none,Bool.false_eq_true,if_false,e,Sem.run_pure]
   ·cases h
  ·cases h
 ·rename_i o q
  split at h
  ·rename_i e u
   split at h
   ·rename_i len cap;cases b:Nat.ble len cap
    ·rw[b] at h;cases h
    ·rw[b,cond_true] at h
     split at h
     ·rename_i l f m i;cases h;cases K;obtain⟨er,_⟩:=EB (P:=P) (isSl:=true) i (Nat.le_refl _) (λ_=>rfl) B C F (Nat.le_of_ble_eq_true b) w;refine AF.pure (v':=.slice none (f-l) (m-l)) ?_ (.slN _ _);simp only[Instr.sliceAt,Instr.slice,Sem.run_bind,AK hT q,Result.andThen_ok,er,Ao hT u,Sem.run_pure,Option.map_none,ite_self]
     ·cases h
   ·rename_i id off len cap;obtain⟨g,rfl,E,hk,I⟩:=K.sl_inv;have L:∀l,Option.map (λa:Addr=>a.add (l*e.size)) (some (⟨(ι id).blk,(ι id).base+off,none⟩:Addr))=some ⟨(ι id).blk,(ι id).base+off+l*e.size,none⟩:=λl=>by
     simp only[Option.map_some,BF]
    cases j:Nat.beq cap Ew
    ·rw[j,cond_false] at h;have Q:cap≠Ew:=λe=>by rw[Cc e] at j;cases j
     obtain rfl:=hk Q;cases b:(Nat.ble len g&&Nat.blt g Ew)
     ·rw[b] at h;cases h
     ·rw[b,cond_true] at h;rw[Bool.and_eq_true] at b;have hlt:g<Ew:=by simpa using b.2
      split at h
      ·rename_i l f m i;cases h;obtain⟨er,M,N,e3⟩:=EB (P:=P) (isSl:=true) i (Nat.le_refl _) (λ_=>rfl) B C F (Nat.le_of_ble_eq_true b.1) w;refine AF.pure ?_ (VR.cut E (by omega));simp only[Instr.sliceAt,Instr.slice,Sem.run_bind,AK hT q,Result.andThen_ok,er,Ao hT u,Sem.run_pure,L]
      ·cases h
    ·rw[j,cond_true] at h;have j:=Nat.eq_of_beq_eq_true j;obtain⟨O,u2⟩:=I j
     split at h
     ·cases F
      split at h
      ·rename_i f hh
       split at h
       ·rename_i l hl;cases v:(Nat.beq l 0||Nat.blt l len)
        ·rw[v,cond_false] at h;obtain⟨er,M,N⟩:=LL (P:=P) hh hl O B C w;have p:(Instr.sliceAt t (.slice (some ⟨(ι id).blk,(ι id).base+off,none⟩) len g) z A none).run P w=.ok (.slice (if g=l then some ⟨(ι id).blk,(ι id).base+off,none⟩ else some ⟨(ι id).blk,(ι id).base+off+l*e.size,none⟩) (f-l) (g-l)) w:=by
          simp only[Instr.sliceAt,Instr.slice,Sem.run_bind,AK hT q,Result.andThen_ok,er,Ao hT u,Sem.run_pure,L]
         split at h
         ·rename_i cs k S;cases d:(Nat.beq k o&&Nat.beq l len&&Nat.beq f len)
          ·rw[d] at h;cases h;exact AF.pure p (.junk _)
          ·rw[d,cond_true] at h;rw[Bool.and_eq_true,Bool.and_eq_true] at d;obtain⟨⟨U,V⟩,W⟩:=d;have U:=Nat.eq_of_beq_eq_true U;have V:=Nat.eq_of_beq_eq_true V;have W:=Nat.eq_of_beq_eq_true W;subst U V W;cases h;refine AF.same (w':=w) (λX=> ?_) rfl rfl (v':=.slice (if g=f then some ⟨(ι id).blk,(ι id).base+off,none⟩ else some ⟨(ι id).blk,(ι id).base+off+f*e.size,none⟩) (f-f) (g-f))
           obtain⟨c,_,fr,_,_,_,_,g4⟩:=X.hd id _ (.inr (.inl (by simp))) (St.hdr_of S);have y:=((g4 rfl).2.1 e (hT.inf _ _ u)).1;refine⟨p,?_,rfl,rfl,rfl⟩;rw[Nat.sub_self];have hmul:f*e.size<=g*(ι id).esz:=by rw[y];exact Nat.mul_le_mul_right _ O
           by_cases G:g=f
           ·rw[if_pos G,G,Nat.sub_self];exact .slE id _ off 0 E (by omega) (.inl rfl)
           ·rw[if_neg G,Nat.add_assoc];refine .slE id _ _ _ E (by omega) (.inr ⟨rfl,?_⟩);have:f*e.size+(g-f)*(ι id).esz=g*(ι id).esz:=by
             rw[y,<-Nat.add_mul];congr 1;omega
            omega
         ·cases h;exact AF.pure p (.junk _)
        ·rw[v,cond_true] at h
         split at h
         ·rename_i cs k S;cases d:Nat.beq k o
          ·rw[d] at h;cases h
          ·rw[d,cond_true] at h;have d:=Nat.eq_of_beq_eq_true d;subst d;cases h;obtain⟨er,M,N⟩:=LL (P:=P) hh hl O B C w;refine AF.same (w':=w) (v':=.slice (some ⟨(ι id).blk,(ι id).base+(off+l*e.size),none⟩) (f-l) (g-l)) (λX=> ?_) rfl rfl;obtain⟨c,_,fr,_,_,_,_,g4⟩:=X.hd id _ (.inr (.inl (by simp))) (St.hdr_of S)
           have y:=((g4 rfl).2.1 e (hT.inf _ _ u)).1;refine⟨?_,.slU id _ _ _ E (by omega) ?_,rfl,rfl,rfl⟩
           ·have J:(if g=l then some (⟨(ι id).blk,(ι id).base+off,none⟩:Addr) else some ⟨(ι id).blk,(ι id).base+off+l*e.size,none⟩)=some ⟨(ι id).blk,(ι id).base+(off+l*e.size),none⟩:=by
             by_cases G:g=l
             ·rw[if_pos G];have:l=0:=by
               rw[Bool.or_eq_true] at v;rcases v with Y|Y
               ·exact Nat.eq_of_beq_eq_true Y
               ·have:l<len:=by simpa using Y
                omega
              simp[this]
             ·rw[if_neg G,Nat.add_assoc]
            simp only[Instr.sliceAt,Instr.slice,Sem.run_bind,AK hT q,Result.andThen_ok,er,Ao hT u,Sem.run_pure,L,J]
           ·have:l*e.size+(g-l)*(ι id).esz=g*(ι id).esz:=by
             rw[y,<-Nat.add_mul];congr 1;omega
            omega
         ·cases h
       ·cases h
      ·cases h
     ·rename_i mv
      split at h
      ·rename_i l f m i;cases b:Nat.blt len Ew
       ·rw[b] at h;cases h
       ·rw[b,cond_true] at h;have b:len<Ew:=by simpa using b
        cases h;obtain⟨er,M,N,e3⟩:=EB (P:=P) (isSl:=true) (cap':=g) i O (λh=>by cases h) B C F (Nat.le_refl _) w;refine AF.pure ?_ (VR.cut E (by omega));simp only[Instr.sliceAt,Instr.slice,Sem.run_bind,AK hT q,Result.andThen_ok,er,Ao hT u,Sem.run_pure,L]
      ·cases h
   ·cases h
  ·cases h
 ·rename_i n o q
  split at h
  ·rename_i e u
   split at h
   ·rename_i id off;obtain⟨rfl,E⟩:=K.ptr_inv;cases b:Nat.blt n Ew
    ·rw[b] at h;cases h
    ·rw[b,cond_true] at h;have b:n<Ew:=by simpa using b
     split at h
     ·rename_i l f m i;cases h;obtain⟨er,M,N,e3⟩:=EB (P:=P) (isSl:=false) i (Nat.le_refl _) (λ_=>rfl) B C F (Nat.le_refl _) w;refine AF.pure (v':=.slice (if m=l then some ⟨(ι id).blk,(ι id).base+off,none⟩ else some ⟨(ι id).blk,(ι id).base+off+l*e.size,none⟩) (f-l) (m-l)) ?_ (VR.cut E (by omega))
      simp only[Instr.sliceAt,Sem.run_bind,AK hT q,Result.andThen_ok,Instr.sureAddr,Sem.run_pure,er,Ao hT u,BF]
      split<;>rfl
     ·cases h
   ·cases h
  ·cases h
 ·cases h
end
end Go.Eng
end
end
section
noncomputable section
namespace Go.Eng
open Go
section
variable {P:Program} {T:TE} (hT:T.OK P) {D:Nat->Prop} {ι:Nat->Reg} {σ:St} {w:World}
def CZ:L8->List Value
 |[]=>[]
 |b::l=>.int .u8 b.toNat::CZ l
theorem Ct (l:L8):CZ l=l.map λb=>Value.int .u8 b.toNat:=by
 induction l with
 |nil=>rfl
 |cons b l a=>simp[CZ,a]
theorem Ej (l:L8):(CZ l).length=l.length:=by rw[Ct];simp
def NF (σ:St) (size:Nat) (x:Value):Option (List Value×Nat×List (Nat×Nat)):=
 match x with
 | .string s=>bif Nat.beq size 1 then some (CZ s.data.toList,s.size,[]) else none
 | .slice none n _=>bif Nat.beq n 0 then some ([],0,[]) else none
 | .slice (some ⟨id,off,none⟩) n _=>match σ.heap.get id with
   |some (.row a _ _)=>match DB a off (n*size) with
    |some l=>some (l,n,GB id off (n*size))
    |none=>none
   |_=>none
 |_=>none
theorem AR.refl_plain {l:List Value} (h:∀v∈l,AW 8 v=true):AR D ι l.toArray l.toArray:=
 ⟨rfl,λi v v' e a=>by
  rw[e] at a;cases a;exact Ar 8 v (h v (by simp at e;exact List.mem_of_getElem? e))⟩
theorem DD {size n:Nat} {x d:Value} {l:List Value} {rc:List (Nat×Nat)} {φ:Foot} (h:NF σ size x=some (l,n,rc)) (f:VR D ι x d) (m:HOn P D ι σ.H φ w)
  (o:∀p∈rc,φ.Fc p.1 p.2):(∀w,(Builtin.lenOf d).run P w=.ok n w)/\l.length=n*size/\∃c:Array Value,(∀w':World,w'.heap=w.heap->(Builtin.firstCells size n d).run P w'=.ok c w')/\AR D ι l.toArray c:=by
 unfold NF at h
 split at h
 ·rename_i s;cases a:Nat.beq size 1
  ·rw[a] at h;cases h
  ·rw[a] at h;have q:=Nat.eq_of_beq_eq_true a;cases h;cases f;refine⟨λ_=>rfl,by rw[Ej,q];simp,(CZ s.data.toList).toArray,λw' _=> ?_,AR.refl_plain λv g=> ?_⟩
   ·simp only[Builtin.firstCells,Sem.run_pure];congr 1;apply Array.ext';rw[Ct];simp
   ·rw[Ct] at g;obtain⟨b,_,rfl⟩:=List.mem_map.1 g;rfl
 ·rename_i i r;cases a:Nat.beq i 0
  ·rw[a] at h;cases h
  ·rw[a] at h;have t:=Nat.eq_of_beq_eq_true a;subst t;cases h;cases f;exact⟨λ_=>rfl,by simp,#[],λ_ _=>rfl,rfl,by simp⟩
 ·rename_i id off i r
  split at h
  ·rename_i B e C u
   split at h
   ·rename_i E k;cases h;obtain⟨y,rfl,_⟩:=f.sl_inv;obtain⟨c,z,A⟩:=CB u k m λj F=>o _ (CA.2 ⟨rfl,Nat.le_add_right _ _,by omega⟩)
    exact⟨λ_=>rfl,(Ck _ _ _ _ k).1,c,z,A⟩
   ·cases h
  ·cases h
 ·cases h
theorem Po (a:Nat):∀(r c:Nat),c<=2*a+400->Builtin.growBy a r c<=2*a+400
 |0,c,h=>by simpa[Builtin.growBy] using h
 |r+1,c,h=>by
  simp only[Builtin.growBy]
  split
  ·exact h
  ·exact Po a r _ (by omega)
theorem NG {a cap:Nat} (h:cap<a):Builtin.nextslicecap a cap<=2*a+400:=by
 unfold Builtin.nextslicecap
 split
 ·omega
 ·split
  ·omega
  ·exact Po a 4 cap (by omega)
theorem Vi (a old t:Nat) (e:TypeId):a<=(Question.appendCap a old e).cut t:=Nat.le_add_right _ _
theorem Ac (z:Array Value) (n:Nat):(Builtin.zeroCells z n).size=n*z.size:=by simp[Builtin.zeroCells]
include hT
theorem Cu {j xT:TypeId} {args:Array TypeId} {d:TypeDesc} {a:TypeId} {e:TypeInfo} {z:Value} {base:Option Addr} {sLen cap n:Nat} {x:Value} {old new:Array Value} {ty:TypeId}
  (l:args[0]?=some j) (m:args[1]?=some xT) (o:T.und j=some (.slice a)) (p:T.und xT=some d) (hd:∀k,d≠ .int k) (f:T.inf a=some e) (q:e.zero=some z)
  (g:e.bytes≠0) (u:(2*(sLen+n)+400)*e.bytes<=2^48) (c:∀w,(Builtin.lenOf x).run P w=.ok n w) (FJ:cap<sLen+n)
  (r:∀w':World,w'.heap=w.heap->(Builtin.firstCells e.size sLen (.slice base sLen cap)).run P w'=.ok old w') (s:∀w':World,w'.heap=w.heap->(Builtin.firstCells e.size n x).run P w'=.ok new w'):
  ∃(b:Nat) (w':World),sLen+n<=b/\w'.heap=w.heap.push (.cells (old++new++Builtin.zeroCells z.cells (b-(sLen+n))) a (0,0))/\w'.os=w.os/\w'.output=w.output/\
   (Builtin.append_ args ty #[.slice base sLen cap,x]).run P w=.ok (.slice (some ⟨w.heap.size,0,none⟩) (sLen+n) b) w':=by
 have t:(Question.appendCap (sLen+n) cap a).forced=false:=rfl;refine⟨(Question.appendCap (sLen+n) cap a).cut (w.tape w.drawn (.appendCap (sLen+n) cap a)),{ w with drawn:=w.drawn+1,heap:=w.heap.push (.cells (old++new++Builtin.zeroCells z.cells _) a (0,0))},Vi _ _ _ _,rfl,rfl,rfl,?_⟩;have h:¬(Builtin.nextslicecap (sLen+n) cap*e.bytes>2^48):=by
  have:=Nat.mul_le_mul_right e.bytes (NG FJ);omega
 have i:¬(sLen+n<=cap):=by omega
 unfold Builtin.append_;simp only[l,m,List.getElem?_toArray,List.getElem?_cons_zero,List.getElem?_cons_succ,Sem.run_bind,AK hT o,Result.andThen_ok,Ao hT f,AK hT p,Sem.run_pure,Bool.false_eq_true,if_false,c,if_neg i,
  IF hT f,g,false_or,and_false,if_neg h,run_choose,t,run_askRoom,Bool.not_false,if_true]
 rw[r { w with drawn:=w.drawn+1} rfl];simp only[Result.andThen_ok];rw[s { w with drawn:=w.drawn+1} rfl];simp only[Result.andThen_ok,Ei hT f q,newRow,Sem.run_bind,run_newObj,Sem.run_pure]
theorem CR {g xT:TypeId} {args:Array TypeId} {d:TypeDesc} {b:TypeId} {e:TypeInfo} {base:Option Addr} {sLen cap n:Nat} {x:Value} {new:Array Value} {ty:TypeId}
  (h:args[0]?=some g) (i:args[1]?=some xT) (j:T.und g=some (.slice b)) (l:T.und xT=some d) (hd:∀k,d≠ .int k) (m:T.inf b=some e)
  (c:∀w,(Builtin.lenOf x).run P w=.ok n w) (f:sLen+n<=cap) (o:(Builtin.firstCells e.size n x).run P w=.ok new w):
  (Builtin.append_ args ty #[.slice base sLen cap,x]).run P w=
   ((match base with|some a=>storeCells (a.add (sLen*e.size)) new.toList|none=>Pure.pure ()).run P w).andThen λ_ w'=>.ok (.slice base (sLen+n) cap) w':=by
 unfold Builtin.append_;simp only[h,i,List.getElem?_toArray,List.getElem?_cons_zero,List.getElem?_cons_succ,Sem.run_bind,AK hT j,Result.andThen_ok,Ao hT m,AK hT l,Sem.run_pure,Bool.false_eq_true,if_false,c,if_pos f,
  Bool.not_false,if_true,o]
 cases base with
 |none=>rfl
 |some a=>simp only[Sem.run_bind,Sem.run_pure]
omit hT
theorem HOn.sub {h:H} {φ ψ:Foot} (a:HOn P D ι h φ w) (b:∀id,ψ.Fi id->φ.Fi id) (c:∀id k,ψ.Fc id k->φ.Fc id k):HOn P D ι h ψ w where
 hd:=λid x f e=>a.hd id x (b id f) e
 ce:=λid k v f l e=>a.ce id k v (c id k f) l e
 inj:=λi j fi d=>a.inj i j (b i fi) (b j d)
def Kl:TypeDesc->Bool
 | .int _=>true
 |_=>false
def Hb (e:TypeInfo) (z:Value) (a:Nat):Bool:=
 Nat.beq z.cells.size e.size&& !Nat.beq e.bytes 0&&Nat.ble ((2*a+400)*e.bytes) 281474976710656
def Pp (σ:St) (b:TypeId) (e:TypeInfo) (z:Value) (old new:List Value) (a:Nat) (rc:List (Nat×Nat)):Option R:=
 bif Hb e z a then some ⟨.slice (some ⟨σ.next,0,none⟩) a Ew,σ.new (.row (old++new) b false),⟨rc,[],[],[]⟩⟩ else none
def GE (T:TE) (σ:St) (args:Array TypeId) (s x:Value):Option R:=
 match args.toList with
 |i::xT::_=>match T.und i,T.und xT with
  |some (.slice a),some d=>bif Kl d then none else match T.inf a with
   |some e=>match e.zero,NF σ e.size x with
    |some z,some (new,n,rc)=>match s with
     | .slice none sLen cap=>bif Nat.beq sLen 0&&Nat.beq cap 0 then
       bif Nat.beq n 0 then some ⟨.slice none 0 0,σ,⟨rc,[],[],[]⟩⟩ else Pp σ a e z [] new n rc
       else none
     | .slice (some ⟨id,off,none⟩) sLen cap=>match σ.heap.get id with
       |some (.row c b h)=>
        bif Nat.beq cap Ew then
         bif Nat.beq n 0 then some ⟨.slice (some ⟨id,off,none⟩) sLen Ew,σ,⟨rc,[],[],[]⟩⟩
         else bif Nat.beq b a&& !h&&Hb e z (sLen+n)&&new.all oneC&&Nat.beq (Nat.mod off e.size) 0 then match DB c off (sLen*e.size) with
          |some old=>some ⟨.slice (some ⟨σ.next,0,none⟩) (sLen+n) Ew,(σ.put id none).new (.row (old++new) a false),⟨rc,[],[],[id]⟩⟩
          |none=>none
         else none
        else bif Nat.ble (sLen+n) cap then match new with
         |[]=>some ⟨.slice (some ⟨id,off,none⟩) (sLen+n) cap,σ,⟨rc,[],[],[]⟩⟩
         |y::f=>bif Nat.beq b a&& !h&&(y::f).all oneC then match lput c (off+sLen*e.size) (y::f) with
           |some g=>some ⟨.slice (some ⟨id,off,none⟩) (sLen+n) cap,σ.put id (some (.row g b false)),⟨rc,[],GB id (off+sLen*e.size) (f.length+1),[]⟩⟩
           |none=>none
          else none
        else match DB c off (sLen*e.size) with
         |some old=>Pp σ a e z old new (sLen+n) (rc++GB id off (sLen*e.size))
         |none=>none
       |_=>none
     |_=>none
    |_,_=>none
   |none=>none
  |_,_=>none
 |_=>none
theorem AR.append {a b:List Value} {c d:Array Value} (i:AR D ι a.toArray c) (j:AR D ι b.toArray d) (e:Array Value):
  ∀(k:Nat) v,(a++b)[k]?=some v->∃v',(c++d++e)[k]?=some v'/\VR D ι v v':=by
 have m:a.length=c.size:=by simpa using i.1
 have n:b.length=d.size:=by simpa using j.1
 intro k v f;by_cases g:k<a.length
 ·rw[List.getElem?_append_left g] at f;have l:c[k]?=some (c[k]'(by omega)):=Array.getElem?_eq_getElem (by omega);refine⟨_,?_,i.2 k v _ (by simpa using f) l⟩;rw[Array.append_assoc,Array.getElem?_append_left (by omega)];exact l
 ·rw[List.getElem?_append_right (by omega)] at f;have o:k-a.length<b.length:=by
   rcases Nat.lt_or_ge (k-a.length) b.length with h|h
   ·exact h
   ·rw[List.getElem?_eq_none h] at f;cases f
  have hd:d[k-a.length]?=some (d[k-a.length]'(by omega)):=Array.getElem?_eq_getElem (by omega);refine⟨_,?_,j.2 _ v _ (by simpa using f) hd⟩;rw[Array.append_assoc,Array.getElem?_append_right (by omega),Array.getElem?_append_left (by omega),<-m];exact hd
include hT
theorem NH {c:TypeId} {e:TypeInfo} {z:Value} {old new:List Value} {oldc d:Array Value} {b n0 n a:Nat} {φ:Foot} {w':World} (t:σ.wf) (u:¬D σ.next) (v:T.inf c=some e)
  (k:z.cells.size=e.size) (m:AR D ι old.toArray oldc) (p:AR D ι new.toArray d) (q:old.length=n0*e.size) (r:new.length=n*e.size) (l:b=n0+n) (g:b<=a)
  (x:w'.heap=w.heap.push (.cells (oldc++d++Builtin.zeroCells z.cells (a-b)) c (0,0))) (y:w'.os=w.os) (A:w'.output=w.output) (B:φ.wc=[]) (C:φ.wh=[]):
  ∃ι',VR (λi=>D i\/σ.rng (σ.new (.row (old++new) c false)) i) ι' (.slice (some ⟨σ.next,0,none⟩) b Ew) (.slice (some ⟨w.heap.size,0,none⟩) b a)/\
   Post P D (σ.rng (σ.new (.row (old++new) c false))) ι σ.H w φ ι' (σ.new (.row (old++new) c false)).H w':=by
 have E:old.length=oldc.size:=by simpa using m.1
 have a2:new.length=d.size:=by simpa using p.1
 have f:(oldc++d++Builtin.zeroCells z.cells (a-b)).size=a*e.size:=by
  simp only[Array.size_append,Ac,k,<-E,<-a2,q,r];rw[<-Nat.add_mul,<-Nat.add_mul];congr 1;omega
 refine⟨EG ι σ.next (rg w.heap.size 0 (a*e.size) e.size),?_,?_⟩
 ·have:=VR.slU (D:=λi=>D i\/σ.rng (σ.new (.row (old++new) c false)) i) (ι:=EG ι σ.next (rg w.heap.size 0 (a*e.size) e.size)) σ.next 0 b a (.inr (St.rng_new.2 rfl)) g (by rw[AV];simp);rw[AV] at this;exact this
 ·rw[<-f];refine Post.new t u ?_ ?_ ?_ (AR.append m p _) x y A B C
  ·rw[f,List.length_append,q,r,<-Nat.add_mul];exact Nat.mul_le_mul_right _ (by omega)
  ·intro j s;rw[hT.inf _ _ v] at s;cases s;exact⟨rfl,by rw[f];exact Nat.mul_mod_left _ _⟩
  ·intro o _ h;omega
omit hT
theorem E6 {e:TypeInfo} {z:Value} {a:Nat} (h:Hb e z a=true):z.cells.size=e.size/\e.bytes≠0/\(2*a+400)*e.bytes<=2^48:=by
 simp only[Hb,Bool.and_eq_true,Bool.not_eq_true'] at h;refine⟨Nat.eq_of_beq_eq_true h.1.1,λe=> ?_,Nat.le_of_ble_eq_true h.2⟩;rw[Cc e] at h;cases h.1.2
end
end Go.Eng
end
end
section
noncomputable section
namespace Go.Eng
open Go
section
variable {P:Program} {T:TE} (hT:T.OK P) {D:Nat->Prop} {ι:Nat->Reg} {σ:St} {w:World}
theorem Hc {d:TypeDesc} (h:Kl d=false):∀k,d≠ .int k:=by
 intro k e;subst e;cases h
theorem Foot.rc_fc {rc:List (Nat×Nat)} {wc:List (Nat×Nat)} {rh wh:List Nat}:∀p∈rc,(⟨rc,rh,wc,wh⟩:Foot).Fc p.1 p.2:=λ_ a=>.inl a
include hT
theorem FN {args:Array TypeId} {ty:TypeId} {s s' x x':Value} {r:R} (h:GE T σ args s x=some r) (hs:VR D ι s s') (hx:VR D ι x x'):
  AF P D ι σ w (Builtin.append_ args ty #[s',x']) r:=by
 unfold GE at h
 split at h
 ·rename_i sT xT rest O;have h0:args[0]?=some sT:=by rw[<-Array.getElem?_toList,O];rfl
  have h1:args[1]?=some xT:=by rw[<-Array.getElem?_toList,O];rfl
  split at h
  ·rename_i elem d B C;cases hd:Kl d
   ·rw[hd,cond_false] at h;have hd:=Hc hd
    split at h
    ·rename_i e L
     split at h
     ·rename_i z new n rc hz hc
      split at h
      ·
       rename_i sLen cap;cases t:(Nat.beq sLen 0&&Nat.beq cap 0)
       ·rw[t] at h;cases h
       ·rw[t,cond_true] at h;rw[Bool.and_eq_true] at t;have e1:=Nat.eq_of_beq_eq_true t.1;have e2:=Nat.eq_of_beq_eq_true t.2;subst e1 e2;cases hs;cases E:Nat.beq n 0
        ·rw[E,cond_false] at h;have E:n≠0:=λe=>by rw[Cc e] at E;cases E
         unfold Pp at h;cases A:Hb e z n
         ·rw[A] at h;cases h
         ·rw[A,cond_true] at h;cases h;obtain⟨g1,g2,g3⟩:=E6 A;refine⟨by simp[St.new],λF=>⟨St.new_wf F _,AFr.new _ _ _⟩,λF hD q=> ?_⟩;obtain⟨J,N,a,K,f⟩:=DD (P:=P) hc hx q Foot.rc_fc;obtain⟨g,w',c1,c2,c3,c4,c5⟩:=Cu hT (ty:=ty) (w:=w) (base:=none) (sLen:=0) (cap:=0) (old:=#[]) h0 h1 B C hd L hz g2 (by rw[Nat.zero_add];exact g3) J (by omega) (λw' _=>rfl) K
          rw[Nat.zero_add] at c1 c2 c5;obtain⟨ι',p1,p2⟩:=NH hT (D:=D) (ι:=ι) (φ:=⟨rc,[],[],[]⟩) (n0:=0) (old:=[]) (oldc:=#[]) F (hD _ (by simp[St.rng,St.new])) L g1 ⟨rfl,by simp⟩ f (by simp) N (by simp) c1 c2 c3 c4 rfl rfl;exact⟨_,ι',w',c5,p1,p2⟩
        ·rw[E,cond_true] at h;have E:=Nat.eq_of_beq_eq_true E;subst E;cases h;refine AF.same (w':=w) (v':=.slice none 0 0) (λq=> ?_) rfl rfl;obtain⟨J,N,a,K,f⟩:=DD (P:=P) hc hx q Foot.rc_fc;refine⟨?_,.slN _ _,rfl,rfl,rfl⟩;rw[CR hT h0 h1 B C hd L J (Nat.le_refl 0) (K w rfl)]
         rfl
      ·rename_i id off sLen cap
       split at h
       ·rename_i cs l ro A;obtain⟨Q,rfl,hD,X,hunk⟩:=hs.sl_inv;cases G:Nat.beq cap Ew
        ·
         rw[G,cond_false] at h;have hne:cap≠Ew:=λe=>by rw[Cc e] at G;cases G
         obtain rfl:=X hne;cases H:Nat.ble (sLen+n) Q
         ·rw[H,cond_false] at h;have FJ:Q<sLen+n:=by
           rcases Nat.lt_or_ge Q (sLen+n) with h|h
           ·exact h
           ·rw[Nat.ble_eq_true_of_le h] at H;cases H
          split at h
          ·rename_i old I;unfold Pp at h;cases hg':Hb e z (sLen+n)
           ·rw[hg'] at h;cases h
           ·rw[hg',cond_true] at h;cases h;obtain⟨g1,g2,g3⟩:=E6 hg';refine⟨by simp[St.new],λF=>⟨St.new_wf F _,AFr.new _ _ _⟩,λF Y q=> ?_⟩;obtain⟨J,N,a,K,f⟩:=DD (P:=P) hc hx q λp hp=>.inl (by simp[hp])
            obtain⟨oldc,Z,S⟩:=CB A I q λj hj=>.inl (by simp only[List.mem_append];exact .inr (CA.2 ⟨rfl,Nat.le_add_right _ _,by omega⟩))
            obtain⟨g,w',c1,c2,c3,c4,c5⟩:=Cu hT (ty:=ty) (w:=w) (base:=some ⟨(ι id).blk,(ι id).base+off,none⟩) (cap:=Q) (old:=oldc) h0 h1 B C hd L hz g2 g3 J FJ (λw' hw'=>Z w' hw') K;obtain⟨ι',p1,p2⟩:=NH hT (D:=D) (ι:=ι) (φ:=⟨rc++GB id off (sLen*e.size),[],[],[]⟩) (n0:=sLen) F (Y _ (by simp[St.rng,St.new])) L g1 S f (Ck _ _ _ _ I).1 N rfl c1 c2 c3 c4 rfl rfl
            exact⟨_,ι',w',c5,p1,p2⟩
          ·cases h
         ·rw[H,cond_true] at h;have H:=Nat.le_of_ble_eq_true H
          split at h
          ·cases h;refine AF.same (w':=w) (v':=.slice (some ⟨(ι id).blk,(ι id).base+off,none⟩) (sLen+n) Q) (λq=> ?_) rfl rfl;obtain⟨J,N,a,K,f⟩:=DD (P:=P) hc hx q Foot.rc_fc;refine⟨?_,.slK id _ _ _ hD hne,rfl,rfl,rfl⟩;rw[CR hT h0 h1 B C hd L J H (K w rfl)];have:a.toList=[]:=by
            have:=f.1;simp at this;have h2:a.size=0:=by omega
            simpa using h2
           simp only[this,storeCells,Sem.run_pure,Result.andThen_ok]
          ·rename_i y ys;cases t:(Nat.beq l elem&& !ro&&(y::ys).all oneC)
           ·rw[t] at h;cases h
           ·rw[t,cond_true] at h;rw[Bool.and_eq_true,Bool.and_eq_true] at t
            split at h
            ·rename_i cs' hput;cases h;have hro:ro=false:=by simpa using t.1.2
             subst hro;refine⟨Nat.le_refl _,λF=>⟨St.put_wf F (St.lv_lt F (St.lv_of A)) _,AFr.lput A hput (by simp)⟩,λF Y q=> ?_⟩;obtain⟨J,N,a,K,f⟩:=DD (P:=P) hc hx q Foot.rc_fc;have hlen:(y::ys).length=a.toList.length:=by simpa using f.1
             obtain⟨w',e1,e2⟩:=FM (vs':=a.toList) A hput (by simp) (List.all_eq_true.1 t.2) q hlen λk u u' hu hu'=>f.2 k u u' (by simpa using hu) (by simpa using hu')
             refine⟨.slice (some ⟨(ι id).blk,(ι id).base+off,none⟩) (sLen+n) Q,ι,w',?_,(VR.slK id _ _ _ hD hne).mono (λ_=>.inl) λ_ _=>rfl,e2⟩;rw[CR hT h0 h1 B C hd L J H (K w rfl)];simp only[BF];rw[Nat.add_assoc,e1];rfl
            ·cases h
        ·
         rw[G,cond_true] at h;have G:=Nat.eq_of_beq_eq_true G;obtain⟨u1,u2⟩:=hunk G;cases E:Nat.beq n 0
         ·rw[E,cond_false] at h;have E:n≠0:=λe=>by rw[Cc e] at E;cases E
          cases t:(Nat.beq l elem&& !ro&&Hb e z (sLen+n)&&new.all oneC&&Nat.beq (Nat.mod off e.size) 0)
          ·rw[t] at h;cases h
          ·rw[t,cond_true] at h;rw[Bool.and_eq_true,Bool.and_eq_true,Bool.and_eq_true,Bool.and_eq_true] at t;obtain⟨⟨⟨⟨b1,b2⟩,b3⟩,b4⟩,b5⟩:=t;have b5:off%e.size=0:=Nat.eq_of_beq_eq_true b5;have b1:=Nat.eq_of_beq_eq_true b1;subst b1;have hro:ro=false:=by simpa using b2
           subst hro;obtain⟨g1,g2,g3⟩:=E6 b3
           split at h
           ·rename_i old I;cases h;obtain⟨q1,q2,q3⟩:=Ck _ _ _ _ I;refine⟨by simp[St.new,St.put],λF=>⟨St.new_wf (St.put_wf F (St.lv_lt F (St.lv_of A)) _) _,AFr.giveUp (by simp)⟩,λF Y q=> ?_⟩;have hDx:¬D σ.next:=Y _ (by simp[St.rng,St.new,St.put]);obtain⟨J,N,a,K,f⟩:=DD (P:=P) hc hx q Foot.rc_fc
            obtain⟨oldc,Z,S⟩:=CB A I q λj hj=>.inr (.inr (.inr (by simp)))
            have a1:old.length=oldc.size:=by simpa using S.1
            have a2:new.length=a.size:=by simpa using f.1
            have hid:(⟨rc,[],[],[id]⟩:Foot).Fi id:=.inr (.inr (.inr (by simp)));obtain⟨c,elem0,fr,e1,e2,e3,eo,e45⟩:=q.hd id _ hid (St.hdr_of A);obtain⟨e0,e4,e5⟩:=e45 rfl;rw[e0] at e1;obtain⟨hes,hal1,hal2⟩:=e4 e (hT.inf _ _ L);have hblk:(ι id).blk<w.heap.size:=(q.hd id _ hid (St.hdr_of A)).lt (.inl ⟨eo.1,rfl⟩)
            have hnn:∀j,σ.rng ((σ.put id none).new (.row (old++new) l false)) j↔j=σ.next:=λj=>by simp only[St.rng,St.put,St.new];omega
            by_cases U:sLen+n<=Q
            ·
             have hroom:off+(sLen+n)*e.size<=(ι id).room:=by
              rw[hes] at u2;have:=Nat.mul_le_mul_right e.size U;omega
             have hadd:sLen*e.size+n*e.size=(sLen+n)*e.size:=by rw[Nat.add_mul]
             have hnl:a.toList.length=n*e.size:=by simp;omega
             have hrun:=DI P (ι id).blk ((ι id).base+off+sLen*e.size) l fr a.toList 0 c w e1 (by omega) (λv' m=>by
              obtain⟨k,X,rfl⟩:=List.mem_iff_getElem.1 m;have hk':k<new.length:=by omega
              exact(f.2 k new[k] _ (by simp) (by simp only[Array.length_toList] at X;simp[X])).oneC (List.all_eq_true.1 b4 _ (List.getElem_mem _))) e5
             have hset:=λk=>Bo a.toList c ((ι id).base+off+sLen*e.size+0) k (by omega)
             refine⟨.slice (some ⟨(ι id).blk,(ι id).base+off,none⟩) (sLen+n) Q,EG ι σ.next (rg (ι id).blk ((ι id).base+off) ((ι id).room-off) e.size),{ w with heap:=w.heap.setIfInBounds (ι id).blk (.cells (BQ c ((ι id).base+off+sLen*e.size+0) a.toList) l fr)},?_,?_,?_⟩
             ·rw[CR hT h0 h1 B C hd L J U (K w rfl)];simp only[BF];rw[hrun];rfl
             ·have:=VR.slU (D:=λi=>D i\/σ.rng ((σ.put id none).new (.row (old++new) l false)) i) (ι:=EG ι σ.next (rg (ι id).blk ((ι id).base+off) ((ι id).room-off) e.size)) σ.next 0 (sLen+n) Q (.inr ((hnn _).2 rfl)) U (by rw[AV];rw[hes] at u2;simp only[rg];omega);rw[AV] at this;exact this
             ·have V:∀(o:Obj),(w.heap.setIfInBounds (ι id).blk o)[(ι id).blk]?=some o:=λo=>by simp[hblk]
              refine Post.giveUp F A (λb t hbe=> ?_) rfl rfl (by simp) ?_ ?_ (.inr rfl) eo.1 (Ii _ _ _ _)
              ·exact Array.getElem?_setIfInBounds_ne hbe.symm
              ·refine⟨BQ c _ a.toList,_,fr,by rw[AV];exact V _,by rw[AV,AJ];simp only[rg];omega,by rw[AV,List.length_append,q1,N];simp only[rg];omega,MV,λ_=>⟨rfl,λi M=> ?_,λo ho'=>e5 o (by rwa[AJ] at ho')⟩⟩;rw[AV,AJ];rw[hT.inf _ _ L] at M;cases M;exact⟨rfl,by simp only[rg];rw[Nat.add_mod,hal1,b5];simp,hal2⟩
              ·intro k v X;obtain⟨v',m,hvv⟩:=AR.append S f #[] k v X;have hkl:k<(sLen+n)*e.size:=by
                rcases Nat.lt_or_ge k (old++new).length with h|h
                ·rw[List.length_append,q1,N] at h;omega
                ·rw[List.getElem?_eq_none h] at X;cases X
               refine⟨MV.1,v',?_,hvv.mono (λ_ M=>M) λi M=>Dz _ _ λe=>hDx (e▸M)⟩;simp only[World.cell?,AV,rg,V,Option.isSome_none,Bool.false_eq_true,if_false];rw[hset,hnl];rw[Array.append_empty] at m;by_cases hlow:k<sLen*e.size
               ·rw[if_neg (by omega)];rw[Array.getElem?_append_left (by omega)] at m;have hold':k<old.length:=by omega
                obtain⟨-,u,hu1,hu2⟩:=q.ce id (off+k) old[k] (.inr (.inr (.inr (by simp)))) (St.lv_of A) (by rw[St.cell_of A,<-q3 k hlow];exact List.getElem?_eq_getElem hold');have hrd:=Z w rfl;have:oldc[k]?=some u:=by
                 have W:=run_loadCells (P:=P) w ⟨(ι id).blk,(ι id).base+off,none⟩ (sLen*e.size) (λj=>(w.cell? ⟨(ι id).blk,(ι id).base+off+j,none⟩).getD undef) λj hj=>by
                  obtain⟨-,y,hy1,_⟩:=q.ce id (off+j) (old[j]'(by omega)) (.inr (.inr (.inr (by simp)))) (St.lv_of A) (by rw[St.cell_of A,<-q3 j hj];exact List.getElem?_eq_getElem (by omega));rw[BF,Nat.add_assoc,hy1];rfl
                 rw[hrd] at W;simp only[Result.ok.injEq,and_true] at W;rw[W];simp only[List.getElem?_toArray,List.getElem?_map,List.getElem?_range hlow,Option.map_some];rw[Nat.add_assoc,hu1];rfl
                rw[this] at m;cases m;simp only[World.cell?,e1,Option.isSome_none,Bool.false_eq_true,if_false] at hu1;rw[Nat.add_assoc];exact hu1
               ·rw[if_pos (by omega)];rw[Array.getElem?_append_right (by omega)] at m;rw[Array.getElem?_toList,<-m];congr 1;omega
            ·
             obtain⟨g,w',c1,c2,c3,c4,c5⟩:=Cu hT (ty:=ty) (w:=w) (base:=some ⟨(ι id).blk,(ι id).base+off,none⟩) (cap:=Q) (old:=oldc) h0 h1 B C hd L hz g2 g3 J (by omega) (λw' hw'=>Z w' hw') K;have hsz:(oldc++a++Builtin.zeroCells z.cells (g-(sLen+n))).size=g*e.size:=by
              simp only[Array.size_append,Ac,g1,<-a1,<-a2,q1,N];rw[<-Nat.add_mul,<-Nat.add_mul];congr 1;omega
             refine⟨.slice (some ⟨w.heap.size,0,none⟩) (sLen+n) g,EG ι σ.next (rg w.heap.size 0 (g*e.size) e.size),w',c5,?_,?_⟩
             ·have:=VR.slU (D:=λi=>D i\/σ.rng ((σ.put id none).new (.row (old++new) l false)) i) (ι:=EG ι σ.next (rg w.heap.size 0 (g*e.size) e.size)) σ.next 0 (sLen+n) g (.inr ((hnn _).2 rfl)) c1 (by rw[AV];simp[rg]);rw[AV] at this;exact this
             ·refine Post.giveUp F A (λb t _=>by rw[c2,Af _ _ t]) c3 c4 (by rw[c2];simp) ?_ (λk v X=> ?_) (.inl ⟨Nat.le_refl _,by rw[c2];simp[rg]⟩) eo.1 (Ii _ _ _ _)
              ·refine⟨_,_,(0,0),by rw[AV,c2];exact Al _ _,by rw[AV,hsz];simp[rg],?_,MV,λ_=>⟨rfl,λi M=> ?_,λo _ h=>by omega⟩⟩
               ·rw[AV,List.length_append,q1,N,<-Nat.add_mul];exact Nat.mul_le_mul_right _ c1
               ·rw[AV];rw[hT.inf _ _ L] at M;cases M;exact⟨rfl,by simp[rg],by rw[hsz];exact Nat.mul_mod_left _ _⟩
              ·obtain⟨v',m,hvv⟩:=AR.append S f (Builtin.zeroCells z.cells (g-(sLen+n))) k v X;refine⟨MV.1,v',?_,hvv.mono (λ_ M=>M) λi M=>Dz _ _ λe=>hDx (e▸M)⟩;simp only[World.cell?,AV,rg,c2,Al,Option.isSome_none,Bool.false_eq_true,if_false,Nat.zero_add];exact m
           ·cases h
         ·rw[E,cond_true] at h;have E:=Nat.eq_of_beq_eq_true E;subst E;cases h;refine AF.same (w':=w) (v':=.slice (some ⟨(ι id).blk,(ι id).base+off,none⟩) sLen Q) (λq=> ?_) rfl rfl;obtain⟨J,N,a,K,f⟩:=DD (P:=P) hc hx q Foot.rc_fc;subst G;refine⟨?_,hs,rfl,rfl,rfl⟩;rw[CR hT h0 h1 B C hd L J (by omega) (K w rfl)]
          have:a.toList=[]:=by
           have:=f.1;simp at this;have h2:a.size=0:=by omega
           simpa using h2
          simp only[this,storeCells,Sem.run_pure,Result.andThen_ok,Nat.add_zero]
       ·cases h
      ·cases h
     ·cases h
    ·cases h
   ·rw[hd] at h;cases h
  ·cases h
 ·cases h
end
end Go.Eng
end
end
section
noncomputable section
namespace Go.Eng
open Go
section
variable {P:Program} {T:TE} (hT:T.OK P) {D:Nat->Prop} {ι:Nat->Reg} {σ:St} {w:World}
def ZG:Value->Option Nat
 | .slice _ n _=>some n
 | .string s=>some s.size
 |_=>none
def Vj (σ:St) (size n:Nat) (x:Value):Option (List Value×List (Nat×Nat)):=
 match x with
 | .string s=>bif Nat.beq size 1 then some (CZ (s.data.toList.take n),[]) else none
 | .slice none _ _=>some ([],[])
 | .slice (some ⟨id,off,none⟩) _ _=>match σ.heap.get id with
   |some (.row a _ _)=>match DB a off (n*size) with
    |some l=>some (l,GB id off (n*size))
    |none=>none
   |_=>none
 |_=>none
theorem NI {size n:Nat} {x d:Value} {l:List Value} {rc:List (Nat×Nat)} {φ:Foot} (h:Vj σ size n x=some (l,rc)) (a:VR D ι x d) (i:HOn P D ι σ.H φ w)
  (k:∀p∈rc,φ.Fc p.1 p.2):∃c:Array Value,(∀w':World,w'.heap=w.heap->(Builtin.firstCells size n d).run P w'=.ok c w')/\AR D ι l.toArray c:=by
 unfold Vj at h
 split at h
 ·rename_i s;cases f:Nat.beq size 1
  ·rw[f] at h;cases h
  ·rw[f] at h;cases h;cases a;refine⟨(CZ (s.data.toList.take n)).toArray,λw' _=> ?_,AR.refl_plain λv g=> ?_⟩
   ·simp only[Builtin.firstCells,Sem.run_pure];congr 1;apply Array.ext';rw[Ct,MJ];simp[ZF]
   ·rw[Ct] at g;obtain⟨b,_,rfl⟩:=List.mem_map.1 g;rfl
 ·cases h;cases a;exact⟨#[],λ_ _=>rfl,rfl,by simp⟩
 ·rename_i id off u y
  split at h
  ·rename_i z e A m
   split at h
   ·rename_i B o;cases h;obtain⟨q,rfl,_⟩:=a.sl_inv;obtain⟨c,r,t⟩:=CB m o i λj C=>k _ (CA.2 ⟨rfl,Nat.le_add_right _ _,by omega⟩)
    exact⟨c,r,t⟩
   ·cases h
  ·cases h
 ·cases h
def S9 (T:TE) (σ:St) (args:Array TypeId) (d x:Value):Option R:=
 match args.toList with
 |i::_=>match T.und i with
  |some (.slice c)=>match T.inf c,ZG x with
   |some e,some f=>match d with
    | .slice none 0 _=>some ⟨goInt 0,σ,.nil⟩
    | .slice (some ⟨id,off,none⟩) a _=>match Vj σ e.size (Nat.min f a) x with
      |some (l,rc)=>match l with
       |[]=>some ⟨goInt (Nat.min f a),σ,⟨rc,[],[],[]⟩⟩
       |y::g=>match σ.heap.get id with
        |some (.row j b false)=>bif (y::g).all oneC then match lput j off (y::g) with
         |some h=>some ⟨goInt (Nat.min f a),σ.put id (some (.row h b false)),⟨rc,[],GB id off (g.length+1),[]⟩⟩
         |none=>none
         else none
        |_=>none
      |none=>none
    |_=>none
   |_,_=>none
  |_=>none
 |_=>none
theorem NJ {x a:Value} {n:Nat} (h:ZG x=some n) (b:VR D ι x a) (w:World):(Builtin.lenOf a).run P w=.ok n w:=by
 unfold ZG at h
 split at h
 ·cases h;cases b<;>rfl
 ·cases h;cases b;rfl
 ·cases h
include hT
theorem TA {args:Array TypeId} {ty:TypeId} {d G x m:Value} {r:R} (h:S9 T σ args d x=some r) (hd:VR D ι d G) (n:VR D ι x m):
  AF P D ι σ w (Builtin.copy_ args ty #[G,m]) r:=by
 unfold S9 at h
 split at h
 ·rename_i N H i;have I:args[0]?=some N:=by rw[<-Array.getElem?_toList,i];rfl
  split at h
  ·rename_i J o
   split at h
   ·rename_i e j K b
    split at h
    ·rename_i cap;cases h;cases hd;refine AF.same (w':={ w with drawn:=w.drawn}) (v':=goInt 0) (λp=> ?_) rfl rfl;refine⟨?_,.int _ _,rfl,rfl,rfl⟩;have O:(Builtin.firstCells e.size 0 m).run P w=.ok #[] w:=by
      have q:=n;unfold ZG at b
      split at b
      ·cases q with
       |slN l c=>rfl
       |slK id off l c h hc=>simp only[Builtin.firstCells,Nat.zero_mul];rfl
       |slU id off l c h Q z=>simp only[Builtin.firstCells,Nat.zero_mul];rfl
       |slE id off o' c h Q z=>simp only[Builtin.firstCells,Nat.zero_mul];rfl
      ·cases q;simp only[Builtin.firstCells,Sem.run_pure];congr 1;rw[MJ];simp[ZF]
      ·cases b
     have s:Nat.min j 0=0:=Nat.min_zero j;unfold Builtin.copy_;simp only[I,List.getElem?_toArray,List.getElem?_cons_zero,List.getElem?_cons_succ,Sem.run_bind,AK hT o,Result.andThen_ok,NJ b n,Ao hT K,s,O,Sem.run_pure];rfl
    ·rename_i id off a cap;obtain⟨S,rfl,hD,_,_⟩:=hd.sl_inv
     split at h
     ·rename_i l rc L;have f:∀(c:Array Value) (w':World),(Builtin.firstCells e.size (Nat.min j a) m).run P w=.ok c w->(storeCells ⟨(ι id).blk,(ι id).base+off,none⟩ c.toList).run P w=.ok () w'->
        (Builtin.copy_ args ty #[.slice (some ⟨(ι id).blk,(ι id).base+off,none⟩) a S,m]).run P w=.ok (goInt (Nat.min j a)) w':=by
       intro c w' U V;unfold Builtin.copy_;simp only[I,List.getElem?_toArray,List.getElem?_cons_zero,List.getElem?_cons_succ,Sem.run_bind,AK hT o,Result.andThen_ok,NJ b n,Ao hT K,U,V,Sem.run_pure]
      split at h
      ·cases h;refine AF.same (w':=w) (v':=goInt (Nat.min j a)) (λp=> ?_) rfl rfl;obtain⟨c,g1,v⟩:=NI (P:=P) L n p Foot.rc_fc;refine⟨f c w (g1 w rfl) ?_,.int _ _,rfl,rfl,rfl⟩;have:c.toList=[]:=by
        have:=v.1;simp at this;have z:c.size=0:=by omega
        simpa using z
       simp only[this,storeCells,Sem.run_pure]
      ·rename_i y M
       split at h
       ·rename_i cs A B;cases C:(y::M).all oneC
        ·rw[C] at h;cases h
        ·rw[C,cond_true] at h
         split at h
         ·rename_i W g;cases h;refine⟨Nat.le_refl _,λE=>⟨St.put_wf E (St.lv_lt E (St.lv_of B)) _,AFr.lput B g (by simp)⟩,λE X p=> ?_⟩;obtain⟨c,g1,v⟩:=NI (P:=P) L n p Foot.rc_fc;have t:(y::M).length=c.toList.length:=by simpa using v.1
          obtain⟨w',Y,Z⟩:=FM (vs':=c.toList) B g (by simp) (List.all_eq_true.1 C) p t λk u u' hu F=>v.2 k u u' (by simpa using hu) (by simpa using F)
          exact⟨goInt (Nat.min j a),ι,w',f c w' (g1 w rfl) Y,.int _ _,Z⟩
         ·cases h
       ·cases h
     ·cases h
    ·cases h
   ·cases h
  ·cases h
 ·cases h
omit hT
def MK:Value->Option UInt8
 | .int .u8 n=>some (UInt8.ofNat n.toNat)
 |_=>none
def CC:List Value->Option (L8)
 |[]=>some []
 |v::l=>match MK v with
  |some b=>match CC l with
   |some r=>some (b::r)
   |none=>none
  |none=>none
def Cl (σ:St) (x:Value):Option R:=
 match x with
 | .slice none _ _=>some ⟨.string .empty,σ,.nil⟩
 | .slice (some ⟨id,off,none⟩) len _=>match σ.heap.get id with
   |some (.row a _ _)=>match DB a off len with
    |some l=>match CC l with
     |some b=>some ⟨.string ⟨b.toArray⟩,σ,⟨GB id off len,[],[],[]⟩⟩
     |none=>none
    |none=>none
   |_=>none
 |_=>none
theorem GF {v:Value} {b:UInt8} (h:MK v=some b):∃n,v=.int .u8 n/\b=UInt8.ofNat n.toNat:=by
 unfold MK at h
 split at h
 ·cases h;exact⟨_,rfl,rfl⟩
 ·cases h
theorem Je (P:Program) (w:World):∀(l a:List Value) (b:L8) (s:ByteArray),CC l=some b->l.length=a.length->(∀(k:Nat) v v',l[k]?=some v->a[k]?=some v'->VR D ι v v')->
  (forIn a s λ(c:Value) (s:ByteArray)=>(do
   let .int .u8 n:=c|stuck "bytesToString: byte expected"
   Pure.pure (ForInStep.yield (s.push (UInt8.ofNat n.toNat))):Sem (ForInStep ByteArray))).run P w=.ok ⟨s.data++b.toArray⟩ w
 |[],a,b,s,d,e,_=>by
  have:a=[]:=List.length_eq_zero_iff.1 e.symm;subst this;simp only[CC,Option.some.injEq] at d;subst d;simp only[List.forIn_nil,Sem.run_pure];congr 1
 |v::l,a,b,s,d,e,i=>by
  match a,e with
  |v'::a,e=>
   simp only[CC] at d
   split at d
   ·rename_i q f
    split at d
    ·rename_i j g;cases d;have h:=i 0 v v' rfl rfl;obtain⟨n,rfl,rfl⟩:=GF f;cases h;have:=Je P w l a j (s.push (UInt8.ofNat n.toNat)) g (by simpa using e) (λk x m o p=>i (k+1) x m (by simpa using o) (by simpa using p));simp only[List.forIn_cons,Sem.run_bind,Sem.run_pure,Result.andThen_ok]
     rw[this];congr 1;apply ByteArray.ext;simp[ByteArray.data_push]
    ·cases d
   ·cases d
theorem He {x f:Value} {r:R} (h:Cl σ x=some r) (g:VR D ι x f):AF P D ι σ w (Conv.bytesToString f) r:=by
 unfold Cl at h
 split at h
 ·cases h;cases g;exact AF.pure rfl (.string _)
 ·rename_i id off len cap
  split at h
  ·rename_i A e B m
   split at h
   ·rename_i l n
    split at h
    ·rename_i b o;cases h;obtain⟨C,rfl,_⟩:=g.sl_inv;refine AF.same (w':=w) (v':=.string ⟨b.toArray⟩) (λp=> ?_) rfl rfl;obtain⟨c,q,i⟩:=CB m n p λj E=>.inl (CA.2 ⟨rfl,Nat.le_add_right _ _,by omega⟩)
     refine⟨?_,.string _,rfl,rfl,rfl⟩;have d:=Je P w l c.toList b .empty o (by simpa using i.1) λk v v' s t=>i.2 k v v' (by simpa using s) (by simpa using t)
     have u:(⟨(ByteArray.empty).data++b.toArray⟩:ByteArray)=⟨b.toArray⟩:=by apply ByteArray.ext;simp
     rw[u] at d;simp only[Conv.bytesToString,Sem.run_bind,q w rfl,Result.andThen_ok];rw[<-Array.forIn_toList];have:∀z:Result ByteArray,z=.ok ⟨b.toArray⟩ w->(z.andThen λa w'=>(Pure.pure (Value.string a):Sem Value).run P w')=.ok (.string ⟨b.toArray⟩) w:=λz y=>by rw[y];rfl
     exact this _ d
    ·cases h
   ·cases h
  ·cases h
 ·cases h
