/-
  The engine, part 4: an abstract evaluator over the model's code, proved sound. No condition.
-/
import Derived.Test.YtkgejlchafionaaGreatDoorEng3
import Derived.Laws.StructEq
open Array renaming ext->sA,ext'->Gr,getElem?_eq_getElem->CX,getElem?_toList->Bf
open Bool renaming and_eq_true->A0,false->AK,false_eq_true->CI,or_eq_true->ED,true->AD
open Decidable renaming decide->AG
open Go renaming BinOp->DO,FuncId->BT,Operand->Bp,Program->Ao,TypeDesc->Jw,TypeId->AQ,Value->AJ,World->AN,binOp->Dd,builtin->Um,callFunc->FO,convert->FB,eqGuard->I7,execOp->ME,goInt->Eb
open Go.Builtin renaming cap_->zW,len_->M0
open Go.Call renaming operands->bj
open Go.Deferred renaming ofValue->AJR
open Go.Instr renaming fieldAt->bV,indexAt->Wh,loadAt->Kq,slice->FN,sliceAt->FA,sliceBounds->Ga,sureAddr->Gs
open Go.Op renaming eqFields->zX,equal->Ks,equalIn->Ku,operands->D1
open Go.Result renaming andThen_ok->Ax
open Go.Result.ok renaming injEq->rU
open Go.Sem renaming run_bind->A7,run_pure->A9
open List renaming all_eq_true->C8,getElem?_append_left->EE,getElem?_append_right->Fw,getElem?_cons_zero->EM,getElem?_drop->CA,getElem?_eq_getElem->B4,getElem?_eq_none->DA,getElem?_take->CB,getElem?_toArray->ANI,length_drop->CC,length_take->Bw,map_cons->PM
open Nat renaming add_assoc->Dg,add_mul->DB,add_zero->FK,beq->Af,eq_of_beq_eq_true->Br,le_refl->Ak,mul_le_mul_right->Gc,succ_pos->ij,zero_le->Cx
open Option renaming none->AF,some->AC
open Option.some renaming injEq->BJ
open Prod.mk renaming injEq->Ct
open Pure renaming pure->Ck
open _root_ renaming Array->Aa,Bool->AH,List->AE,Nat->AB,Option->AP,absurd->Aq,cond_true->Ag,if_false->BR,if_neg->AY,if_pos->Ae,if_true->ANH,of_decide_eq_true->BL
section
noncomputable section
noncomputable section
namespace Go.Eng
open Go
inductive DC where
 |v (x:AJ)
 |s (t:Ty) (xs:AE t.Den)
 |e (b:AH)
 |k (v:AJ)
 |j
def gM:(t:Ty)->t.Den->AE DC
 | .int k,n=>[.v (sy (.int k n))]
 | .byte,b=>[.v (sy (.int .u8 b.toNat))]
 | .bool,b=>[.v (sy (.bool b))]
 | .str,s=>[.v (sy (.string (bs s)))]
 | .unit,_=>[]
 | .pair a b,x=>gM a x.1++gM b x.2
 | .slice a,c=>[.s a c]
 | .err,b=>[.e b]
 | .fn f,_=>[.k (.func (.func f) #[] #[])]
 | .fv,f=>[.k (.func (.func f) #[] #[])]
 | .f64,n=>[.v (sy (.float .f64 n))]
 | .cx,x=>[.v (sy (.complex .f64 x.1 x.2))]
 | .ref _,_=>[.j]
 | .clo _ _,_=>[.j]
def Ty.dflt:(t:Ty)->t.Den
 | .int _=>(0:Int)
 | .byte=>(0:UInt8)
 | .bool=>AK
 | .str=>([]:L8)
 | .unit=>()
 | .pair a b=>(a.dflt,b.dflt)
 | .slice _=>[]
 | .err=>AD
 | .fn _=>()
 | .fv=>(0:AB)
 | .f64=>(0:AB)
 | .cx=>((0:AB),(0:AB))
 | .ref a=>a.dflt
 | .clo _ a=>a.dflt
def DCR(fz:AB->AP (Aa AJ)):DC->AJ->Prop
 | .v x,u=>x=sy u/\Mi u=AD
 | .s t a,u=>sd fz t a u
 | .e b,u=>pT b u=AD
 | .k v,u=>u=v/\Au 2 v=AD
 | .j,_=>True
theorem Lh{fz:AB->AP (Aa AJ)}:∀(t:Ty) (x:t.Den) (c:AE AJ),Cw fz t x c->c.length=t.sz/\(gM t x).length=t.sz/\∀(k:AB) d u,(gM t x)[k]?=AC d->c[k]?=AC u->DCR fz d u:=by
 intro t;have one:∀(d:DC) (u:AJ),DCR fz d u->∀(k:AB) l m,[d][k]?=AC l->[u][k]?=AC m->DCR fz l m:=by
  intro d u h k l m e i;rcases k with _|k
  ·simp only[EM,BJ]at e i;subst e i;exact h
  ·simp at e
 induction t with
 |int k=>intro x c h;simp only[Cw]at h;subst h;exact⟨rfl,rfl,one _ _ ⟨rfl,rfl⟩⟩
 |byte=>intro x c h;simp only[Cw]at h;subst h;exact⟨rfl,rfl,one _ _ ⟨rfl,rfl⟩⟩
 |bool=>intro x c h;simp only[Cw]at h;subst h;exact⟨rfl,rfl,one _ _ ⟨rfl,rfl⟩⟩
 |str=>intro x c h;simp only[Cw]at h;subst h;exact⟨rfl,rfl,one _ _ ⟨rfl,rfl⟩⟩
 |unit=>intro x c h;simp only[Cw]at h;subst h;exact⟨rfl,rfl,λk d u h=>by simp[gM]at h⟩
 |pair a b n p=>
  intro x c h;simp only[Cw]at h;obtain⟨c1,c2,rfl,e,i⟩:=h;obtain⟨q,a2,a3⟩:=n _ _ e;obtain⟨r,s,w⟩:=p _ _ i;refine⟨by simp[Ty.sz,q,r],by simp[gM,Ty.sz,a2,s],λk d u hd g=> ?_⟩;simp only[gM]at hd;by_cases A:k<a.sz
  ·rw[EE (by omega)]at hd g;exact a3 k d u hd g
  ·rw[Fw (by omega)]at hd g;rw[a2]at hd;rw[q]at g;exact w _ d u hd g
 |slice a=>
  intro x c h;simp only[Cw]at h;obtain⟨sv,rfl,h⟩:=h;exact⟨rfl,rfl,one _ _ h⟩
 |err=>intro x c h;simp only[Cw]at h;obtain⟨v,rfl,h⟩:=h;exact⟨rfl,rfl,one _ _ h⟩
 |fn f=>intro x c h;simp only[Cw]at h;subst h;exact⟨rfl,rfl,one _ _ ⟨rfl,rfl⟩⟩
 |fv=>intro x c h;simp only[Cw]at h;subst h;exact⟨rfl,rfl,one _ _ ⟨rfl,rfl⟩⟩
 |f64=>intro x c h;simp only[Cw]at h;subst h;exact⟨rfl,rfl,one _ _ ⟨rfl,rfl⟩⟩
 |cx=>intro x c h;simp only[Cw]at h;subst h;exact⟨rfl,rfl,one _ _ ⟨rfl,rfl⟩⟩
 |ref a y=>intro x c h;simp only[Cw]at h;obtain⟨b,o,z,rfl,_⟩:=h;exact⟨rfl,rfl,one _ _ trivial⟩
 |clo f a y=>intro x c h;simp only[Cw]at h;obtain⟨us,rfl,_⟩:=h;exact⟨rfl,rfl,one _ _ trivial⟩
def Vw{α:Type}:AE α->AB->AP (AE α)
 |_,0=>AC []
 |[],_+1=>AF
 |x::a,n+1=>match Vw a n with
  |some l=>AC (x::l)
  |none=>AF
def Pv{α:Type}:AE α->AB->AB->AP (AE α)
 |cs,0,n=>Vw cs n
 |[],_+1,_=>AF
 |_::cs,o+1,n=>Pv cs o n
theorem Tm{α:Type}:∀(a:AE α) (n:AB) (l:AE α),Vw a n=AC l->l=a.take n/\n<=a.length
 |_,0,l,h=>by simp[Vw]at h;subst h;simp
 |[],n+1,l,h=>by simp[Vw]at h
 |x::b,n+1,l,h=>by
  simp only[Vw]at h
  split at h
  ·rename_i c d;cases h;obtain⟨e,f⟩:=Tm b n c d;exact⟨by simp[e],by simp;omega⟩
  ·cases h
theorem Qu{α:Type}:∀(cs:AE α) (o n:AB) (l:AE α),Pv cs o n=AC l->l=(cs.drop o).take n/\o+n<=cs.length
 |cs,0,n,l,h=>by
  obtain⟨a,b⟩:=Tm cs n l (by simpa[Pv]using h);exact⟨by simpa using a,by omega⟩
 |[],o+1,n,l,h=>by simp[Pv]at h
 |x::c,o+1,n,l,h=>by
  obtain⟨a,b⟩:=Qu c o n l (by simpa[Pv]using h);exact⟨by simpa using a,by simp;omega⟩
def Gm:AE DC->St->AE AJ×St
 |[],σ=>([],σ)
 | .v x::r,σ=>match Gm r σ with
   |(vs,σ')=>(x::vs,σ')
 | .s t a::r,σ=>match Gm r (σ.new (.dat t a))with
   |(vs,σ')=>(dt σ.next::vs,σ')
 | .e b::r,σ=>match Gm r σ with
   |(vs,σ')=>(er b::vs,σ')
 | .k x::r,σ=>match Gm r σ with
   |(vs,σ')=>(x::vs,σ')
 | .j::r,σ=>match Gm r σ with
   |(vs,σ')=>(junk::vs,σ')
def dj(t:Ty)(fz:AB->AP (Aa AJ))(u:AJ):Reg:=⟨0,0,0,t.sz,AK,fz,u⟩
theorem sd.shape{fz:AB->AP (Aa AJ)}{t:Ty}{d:AE t.Den}{u:AJ}(h:sd fz t d u):∃a l c,u=.slice a l c:=by
 rcases h with⟨⟨q,c,rfl⟩,_⟩|⟨b,o,c,e,rfl,_⟩<;>exact⟨_,_,_,rfl⟩
structure MatOK(fz:AB->AP (Aa AJ))(ι:AB->Reg)(σ σ':St)(ι':AB->Reg):Prop where
 le:σ.next<=σ'.next
 pc:σ'.pc=σ.pc
 old:∀id,¬σ.rng σ' id->σ'.heap.get id=σ.heap.get id
 io:∀id,¬σ.rng σ' id->ι' id=ι id
 new:∀id,σ.rng σ' id->∃t xs u,σ'.heap.get id=AC (.dat t xs)/\sd fz t xs u/\ι' id=dj t fz u
theorem GQ{fz:AB->AP (Aa AJ)}:∀(l:AE DC) (us:AE AJ) (D:AB->Prop) (ι:AB->Reg) (σ σ':St) (vs:AE AJ),Gm l σ=(vs,σ')->l.length=us.length->(∀(k:AB) d u,l[k]?=AC d->us[k]?=AC u->DCR fz d u)->
  ∃ι',MatOK fz ι σ σ' ι'/\vs.length=us.length/\∀(k:AB) v u,vs[k]?=AC v->us[k]?=AC u->VR (λi=>D i\/σ.rng σ' i) ι' v u
 |[],us,D,ι,σ,σ',vs,h,m,_=>by
  simp only[Gm,Ct]at h;obtain⟨rfl,rfl⟩:=h;exact⟨ι,⟨Ak _,rfl,λ_ _=>rfl,λ_ _=>rfl,λid o=>Aq o (St.rng_self σ id)⟩,m,λk v u f=>by simp at f⟩
 | .v x::r,us,D,ι,σ,σ',vs,h,m,hd=>by
   simp only[Gm]at h;rcases hm:Gm r σ with⟨vs',σ1⟩
   rw[hm]at h;simp only[Ct]at h;obtain⟨rfl,rfl⟩:=h;cases us with
   |nil=>simp at m
   |cons u us=>
    obtain⟨ι',n,p,q⟩:=GQ r us D ι σ σ1 vs' hm (by simpa using m) (λk d u w y=>hd (k+1) d u (by simpa using w) (by simpa using y));refine⟨ι',n,by simp[p],λk v z f g=> ?_⟩;rcases k with _|k
    ·simp only[EM,BJ]at f g;subst f g;obtain⟨F,G⟩:=hd 0 _ _ rfl rfl;rw[F];exact .sym _ G
    ·exact q k v z (by simpa using f) (by simpa using g)
 | .e b::r,us,D,ι,σ,σ',vs,h,m,hd=>by
   simp only[Gm]at h;rcases hm:Gm r σ with⟨vs',σ1⟩
   rw[hm]at h;simp only[Ct]at h;obtain⟨rfl,rfl⟩:=h;cases us with
   |nil=>simp at m
   |cons u us=>
    obtain⟨ι',n,p,q⟩:=GQ r us D ι σ σ1 vs' hm (by simpa using m) (λk d u w y=>hd (k+1) d u (by simpa using w) (by simpa using y));refine⟨ι',n,by simp[p],λk v z f g=> ?_⟩;rcases k with _|k
    ·simp only[EM,BJ]at f g;subst f g;exact .err b _ (hd 0 _ _ rfl rfl)
    ·exact q k v z (by simpa using f) (by simpa using g)
 | .k x::r,us,D,ι,σ,σ',vs,h,m,hd=>by
   simp only[Gm]at h;rcases hm:Gm r σ with⟨vs',σ1⟩
   rw[hm]at h;simp only[Ct]at h;obtain⟨rfl,rfl⟩:=h;cases us with
   |nil=>simp at m
   |cons u us=>
    obtain⟨ι',n,p,q⟩:=GQ r us D ι σ σ1 vs' hm (by simpa using m) (λk d u w y=>hd (k+1) d u (by simpa using w) (by simpa using y));refine⟨ι',n,by simp[p],λk v z f g=> ?_⟩;rcases k with _|k
    ·simp only[EM,BJ]at f g;subst f g;obtain⟨F,G⟩:=hd 0 _ _ rfl rfl;rw[F];exact Bk 2 _ G
    ·exact q k v z (by simpa using f) (by simpa using g)
 | .j::r,us,D,ι,σ,σ',vs,h,m,hd=>by
   simp only[Gm]at h;rcases hm:Gm r σ with⟨vs',σ1⟩
   rw[hm]at h;simp only[Ct]at h;obtain⟨rfl,rfl⟩:=h;cases us with
   |nil=>simp at m
   |cons u us=>
    obtain⟨ι',n,p,q⟩:=GQ r us D ι σ σ1 vs' hm (by simpa using m) (λk d u w y=>hd (k+1) d u (by simpa using w) (by simpa using y));refine⟨ι',n,by simp[p],λk v z f g=> ?_⟩;rcases k with _|k
    ·simp only[EM,BJ]at f g;subst f g;exact .junk _
    ·exact q k v z (by simpa using f) (by simpa using g)
 | .s t C::r,us,D,ι,σ,σ',vs,h,m,hd=>by
   simp only[Gm]at h;rcases hm:Gm r (σ.new (.dat t C))with⟨vs',σ1⟩
   rw[hm]at h;simp only[Ct]at h;obtain⟨rfl,rfl⟩:=h;cases us with
   |nil=>simp at m
   |cons u us=>
    have g:sd fz t C u:=hd 0 _ _ rfl rfl;obtain⟨ι',n,p,q⟩:=GQ r us (λi=>D i\/i=σ.next) (FR ι σ.next (dj t fz u)) (σ.new (.dat t C)) σ1 vs' hm (by simpa using m) (λk d u w y=>hd (k+1) d u (by simpa using w) (by simpa using y));have H:σ.next+1<=σ1.next:=n.le;have E:∀id,¬σ.rng σ1 id->¬(σ.new (.dat t C)).rng σ1 id/\id≠σ.next:=λid o=>by simp only[St.rng,St.new]at o⊢;omega
    have A:¬(σ.new (.dat t C)).rng σ1 σ.next:=by simp only[St.rng,St.new];omega
    refine⟨ι',⟨by omega,n.pc,λid o=> ?_,λid o=> ?_,λid o=> ?_⟩,by simp[p],λk v z f B=> ?_⟩
    ·rw[n.old id (E id o).1];simp only[St.new,Tr.set_get,AY (E id o).2]
    ·rw[n.io id (E id o).1,FS _ _ (E id o).2]
    ·by_cases e:id=σ.next
     ·subst e;refine⟨t,C,u,?_,g,?_⟩
      ·rw[n.old _ A];simp only[St.new,Tr.set_get,ANH]
      ·rw[n.io _ A,Am]
     ·exact n.new id (by simp only[St.rng,St.new]at o⊢;omega)
    ·rcases k with _|k
     ·simp only[EM,BJ]at f B;subst f B;obtain⟨a,l,c,rfl⟩:=g.shape;refine .dat σ.next a l c (.inr (by simp only[St.rng];omega)) ?_;rw[n.io _ A,Am];rfl
     ·refine(q k v z (by simpa using f) (by simpa using B)).mono (λi hi=> ?_) λ_ _=>rfl
      rcases hi with(hi|rfl)|hi
      ·exact .inl hi
      ·exact .inr (by simp only[St.rng];omega)
      ·exact .inr (by simp only[St.rng,St.new]at hi⊢;omega)
section
variable {P:Ao} {T:TE} (hT:T.OK P) {D:AB->Prop} {ι ι':AB->Reg} {σ σ':St} {w w':AN} {φ:Foot}
theorem Post.mats{fz:AB->AP (Aa AJ)}(z:σ.wf)(m:MatOK fz ι σ σ' ι')(A:w.heap.size<=w'.heap.size)(q:w'.os=w.os)(l:w'.output=w.output)(B:∀b,b<w.heap.size->w'.heap[b]?=w.heap[b]?)(y:DK fz w')(C:∀b c,fz b=AC c->w.heap.size<=b\/∃k,φ.Fi k/\¬σ.rng σ' k/\Lv σ.H k/\(ι k).Fz b)(r:φ.wc=[])(o:φ.wh=[]):Post P D (σ.rng σ') ι σ.H w φ ι' σ'.H w':=by
 have f:∀id,¬σ.rng σ' id->σ'.H.hdr id=σ.H.hdr id:=λid s=>by simp only[St.H,m.old id s]
 have g:∀id k,¬σ.rng σ' id->σ'.H.cell id k=σ.H.cell id k:=λid k s=>by simp only[St.H,m.old id s]
 exact {
  io:=m.io
  size:=A
  os:=q
  out:=l
  hdr:=λid x hx e=>by
   rcases hx with hx|hx
   ·simp[Foot.Wi,o]at hx
   ·obtain⟨t,p,u,g1,n,g3⟩:=m.new id hx;rw[St.hdr_of g1]at e;cases e;refine⟨?_,?_,?_,?_⟩
    ·rw[g3];exact n
    ·rw[g3];rfl
    ·rw[g3];rfl
    ·rw[g3];exact y
  cel:=λid k v hx lv e=>by
   rcases hx with hx|hx
   ·simp[Foot.Wc,r,o]at hx
   ·obtain⟨t,p,u,g1,n,g3⟩:=m.new id hx;simp only[St.H,g1,Fs]at e;cases e
  ahdr:=λid d _=>f id d
  acel:=λid k d _=>g id k d
  cfr:=λb a _=>by rw[B b a];exact CR.refl _ _
  fresh:=λid d _ b a=>by
   obtain⟨t,p,u,g1,n,g3⟩:=m.new id d;rw[g3]at a;cases a.1
  freshF:=λid d _ b a=>by
   obtain⟨t,p,u,g1,n,g3⟩:=m.new id d;rw[g3]at a;obtain⟨c,a⟩:=a;rcases C b c a with h|h
   ·obtain⟨e,fr,E⟩:=y b c a;exact .inl ⟨h,BX E⟩
   ·exact .inr (.inr h)
  dist:=λi j F _ _ _ _ b a=>by
   obtain⟨t,p,u,g1,n,g3⟩:=m.new i F;rw[g3]at a;cases a.1
  nl:=λid d=>St.hdr_none z id d.1
  wl:=λid k hx=>by simp[Foot.Wc,r,o]at hx
  wrm:=λid d hx=>hx.of_hdr (f id d)
  wrow:=λid k hx=>by simp[Foot.Wc,r,o]at hx}
theorem MatOK.wf{fz:AB->AP (Aa AJ)}(m:MatOK fz ι σ σ' ι')(a:σ.wf):σ'.wf:=λid h=>by
 rw[m.old id (by simp only[St.rng];omega)];exact a id (by have:=m.le;omega)
theorem MatOK.afr{fz:AB->AP (Aa AJ)}(m:MatOK fz ι σ σ' ι')(φ:Foot):AFr σ σ' φ:=
 ⟨λid a _=>by simp only[St.H,m.old id a],λid k a _=>by simp only[St.H,m.old id a],λh=>by unfold St.Ok at h⊢;rw[m.pc]at h;exact h⟩
theorem MY:∀(l:AE DC) (σ σ':St) (vs:AE AJ),Gm l σ=(vs,σ')->σ.next<=σ'.next/\σ'.pc=σ.pc/\σ'.ora=σ.ora/\∀id,¬σ.rng σ' id->σ'.heap.get id=σ.heap.get id
 |[],σ,σ',vs,h=>by
  simp only[Gm,Ct]at h;obtain⟨rfl,rfl⟩:=h;exact⟨Ak _,rfl,rfl,λ_ _=>rfl⟩
 | .v x::r,σ,σ',vs,h=>by
   simp only[Gm]at h;rcases hm:Gm r σ with⟨vs',σ1⟩
   rw[hm]at h;simp only[Ct]at h;obtain⟨rfl,rfl⟩:=h;exact MY r σ σ1 vs' hm
 | .e b::r,σ,σ',vs,h=>by
   simp only[Gm]at h;rcases hm:Gm r σ with⟨vs',σ1⟩
   rw[hm]at h;simp only[Ct]at h;obtain⟨rfl,rfl⟩:=h;exact MY r σ σ1 vs' hm
 | .k x::r,σ,σ',vs,h=>by
   simp only[Gm]at h;rcases hm:Gm r σ with⟨vs',σ1⟩
   rw[hm]at h;simp only[Ct]at h;obtain⟨rfl,rfl⟩:=h;exact MY r σ σ1 vs' hm
 | .j::r,σ,σ',vs,h=>by
   simp only[Gm]at h;rcases hm:Gm r σ with⟨vs',σ1⟩
   rw[hm]at h;simp only[Ct]at h;obtain⟨rfl,rfl⟩:=h;exact MY r σ σ1 vs' hm
 | .s t a::r,σ,σ',vs,h=>by
   simp only[Gm]at h;rcases hm:Gm r (σ.new (.dat t a))with⟨vs',σ1⟩
   rw[hm]at h;simp only[Ct]at h;obtain⟨rfl,rfl⟩:=h;obtain⟨c,a2,a3,a4⟩:=MY r _ σ1 vs' hm;have c:σ.next+1<=σ1.next:=c;refine⟨by omega,a2,a3,λid f=> ?_⟩;have d:¬(σ.new (.dat t a)).rng σ1 id/\id≠σ.next:=by simp only[St.rng,St.new]at f⊢;omega
   rw[a4 id d.1];simp only[St.new,Tr.set_get,AY d.2]
end
end Go.Eng
end
end
end
section
noncomputable section
noncomputable section
namespace Go.Eng
open Go
section
variable {P:Ao} {T:TE} (hT:T.OK P) {D:AB->Prop} {ι ι':AB->Reg} {σ σ':St} {w w':AN} {φ:Foot}
def JX:AP AO->AP ((t:Ty)×AE t.Den)
 |some (.dat t a)=>AC ⟨t,a⟩
 |some (.vec t a _)=>AC ⟨t,a⟩
 |_=>AF
structure Mem(w:AN)(r:Reg)(t:Ty)(xs:AE t.Den):Prop where
 esz:r.esz=t.sz
 fz:DK r.fz w
 rd:((∃q c,r.sv=.slice q 0 c)/\xs=[])\/∃(b o c:AB) (arr:Aa AJ) (e:AQ) (fr:AB×AB),r.sv=.slice (AC ⟨b,o,AF⟩) xs.length c/\w.heap[b]?=AC (.cells arr e fr)/\o+xs.length*t.sz<=arr.size/\
  xs.length<=c/\(∀i x,xs[i]?=AC x->Cw r.fz t x ((arr.toList.drop (o+i*t.sz)).take t.sz))/\(r.Own b\/r.Fz b)
theorem Li{id:AB}{y}(h:JX (σ.heap.get id)=AC y):Lv σ.H id:=by
 cases a:σ.heap.get id with
 |none=>rw[a]at h;cases h
 |some o=>exact St.lv_of a
theorem KF{id:AB}{t:Ty}{n:AE t.Den}(h:JX (σ.heap.get id)=AC ⟨t,n⟩)(p:φ.Fi id)(r:HOn P D ι σ.H φ w):Mem w (ι id) t n:=by
 unfold JX at h
 split at h
 ·rename_i v j k;cases h;obtain⟨y,l,C,g⟩:=r.hd id _ p (St.hdr_of k);refine⟨l,g,y.imp_right ?_⟩;rintro⟨b,o,c,a,f,d,m,s,u⟩;obtain⟨e,fr,z⟩:=g b a d;exact⟨b,o,c,a,e,fr,f,z,m,s,u,.inr ⟨a,d⟩⟩
 ·rename_i v j el k;cases h;obtain⟨l,g,h⟩:=r.hd id _ p (St.hdr_of k);refine⟨l,g,h.imp (λ⟨_,f,q,d⟩=>⟨⟨_,_,d⟩,f⟩) ?_⟩;rintro⟨g1,E,cap,c,fr,f,d,m,s,u,F,G,A⟩;have I:=Gc t.sz d;refine⟨_,_,_,c,el,fr,f,m,by omega,d,λi x B=> ?_,.inl ⟨g1,rfl⟩⟩;have:=(A i x B).2
  rwa[List.drop_drop]at this
 ·cases h
theorem FQ{id:AB}{b:AJ}(h:VR D ι (dt id) b):∃a l c,b=.slice a l c/\D id/\(ι id).sv=.slice a l c:=by
 cases h with
 |dat _ a l c d e=>exact⟨a,l,c,rfl,d,e⟩
 |tuple as bs f h=>
  have g:bs[0]?=AC (bs[0]'(by rw[<-f];exact ij _)):=CX _;exact(h 0 _ _ rfl g).no_chan.elim
theorem ABj{id m:AB}{b:AJ}(h:VR D ι (pf id m) b):∃a l c,b=.slice a m c/\D id/\(ι id).sv=.slice a l c/\m<=l:=by
 cases h with
 |pfx _ _ a l c d e f=>exact⟨a,l,c,rfl,d,e,f⟩
 |tuple as bs g h=>
  have i:bs[0]?=AC (bs[0]'(by rw[<-g];exact ij _)):=CX _;exact(h 0 _ _ rfl i).no_chan.elim
theorem OM{id i j:AB}{a:AJ}(h:VR D ι (.pointer (AC ⟨id,i,AC j⟩)) a):∃b o l c,a=.pointer (AC ⟨b,o+i*(ι id).esz+j,AF⟩)/\D id/\(ι id).sv=.slice (AC ⟨b,o,AF⟩) l c:=by
 cases h with
 |pel _ _ _ b o l c d e=>exact⟨b,o,l,c,rfl,d,e⟩
def dm(t:Ty)(a:AE t.Den)(i j n:AB):AP (AE DC):=Pv (gM t (a.getD i t.dflt)) j n
theorem Qv{t:Ty}{a:AE t.Den}{i j n:AB}{l:AE DC}{r:Reg}{b o len c:AB}(z:Mem w r t a)(A:r.sv=.slice (AC ⟨b,o,AF⟩) len c)(p:i<a.length)(B:dm t a i j n=AC l):
  ∃us:AE AJ,us.length=n/\l.length=n/\(∀k,k<n->∃u,us[k]?=AC u/\w.cell? ⟨b,o+i*t.sz+j+k,AF⟩=AC u)/\∀(k:AB) d u,l[k]?=AC d->us[k]?=AC u->DCR r.fz d u:=by
 rcases z.rd with⟨_,h⟩|⟨I,J,K,f,e,fr,v,C,L,M,D,_⟩
 ·subst h;simp at p
 ·rw[A]at v;cases v;obtain⟨rfl,g⟩:=Qu _ _ _ _ B;have E:=D i a[i] (B4 p);have F:a.getD i t.dflt=a[i]:=by rw[List.getD_eq_getElem?_getD,B4 p];rfl
  rw[F]at g⊢;obtain⟨G,x,H⟩:=Lh t _ _ E;rw[x]at g;have y:i*t.sz+t.sz<=a.length*t.sz:=by
   have:=Gc t.sz p;rwa[Nat.succ_mul]at this
  refine⟨((((f.toList.drop (o+i*t.sz)).take t.sz).drop j).take n),?_,?_,λk s=> ?_,λk d u hd q=> ?_⟩
  ·rw[Bw,CC,G];omega
  ·rw[Bw,CC,x];omega
  ·have m:o+i*t.sz+j+k<f.size:=by omega
   refine⟨f[o+i*t.sz+j+k],?_,?_⟩
   ·rw[CB,Ae s,CA,CB,Ae (by omega),CA,Bf,show o+i*t.sz+(j+k)=o+i*t.sz+j+k by omega];exact CX m
   ·simp only[World.cell?,C,Option.isSome_none,CI,BR];exact CX m
  ·rw[CB]at hd q
   split at hd
   ·rename_i s;rw[Ae s]at q;rw[CA]at hd q;exact H _ d u hd q
   ·cases hd
def Zr(T:TE)(σ:St)(t:AQ)(a:AJ):AP R:=
 match a with
 | .pointer (AC ⟨id,i,AC j⟩)=>match JX (σ.heap.get id)with
   |some ⟨c,b⟩=>match T.und t with
    |some d=>bif J4 d then
     match T.inf t with
     |some e=>match dm c b i j e.size with
      |some l=>match Gm l σ with
       |(vs,σ')=>AC ⟨.agg vs.toArray,σ'.assume (AG (i<b.length)),⟨[],[id],[],[]⟩⟩
      |none=>AF
     |none=>AF
     else match dm c b i j 1 with
      |some l=>match Gm l σ with
       |([v],σ')=>AC ⟨v,σ'.assume (AG (i<b.length)),⟨[],[id],[],[]⟩⟩
       |_=>AF
      |none=>AF
    |none=>AF
   |none=>AF
 |_=>AF
theorem Xt{id:AB}(a:Lv σ.H id)(d:σ.wf)(h:(⟨[],[id],[],[]⟩:Foot).Fi id)(b:AB)(c:Aa AJ)(e:(ι id).fz b=AC c):w.heap.size<=b\/∃k,(⟨[],[id],[],[]⟩:Foot).Fi k/\¬σ.rng σ' k/\Lv σ.H k/\(ι k).Fz b:=
 .inr ⟨id,h,λf=>by have:=St.lv_lt d a;simp only[St.rng]at f;omega,a,c,e⟩
theorem Ab.assume{e:Sem AJ}{v:AJ}{φ:Foot}{p:AH}(h:Ab P D ι σ w e ⟨v,σ',φ⟩):Ab P D ι σ w e ⟨v,σ'.assume p,φ⟩:=
 ⟨h.1,λa=>⟨(h.2.1 a).1,(h.2.1 a).2.assume p⟩,h.2.2⟩
theorem D5{l:AE DC}{vs:AE AJ}{φ:Foot}(b:Gm l σ=(vs,σ')):σ.next<=σ'.next/\(σ.wf->σ'.wf/\AFr σ σ' φ):=by
 obtain⟨c,a2,a3,a4⟩:=MY _ _ _ _ b;refine⟨c,λd=>⟨λid h=> ?_,⟨λid a _=>by simp only[St.H,a4 id a],λid k a _=>by simp only[St.H,a4 id a],λh=>by unfold St.Ok at h⊢;rw[a2]at h;exact h⟩⟩⟩;rw[a4 id (by simp only[St.rng];omega)];exact d id (by omega)
include hT
theorem Zs{t:AQ}{a O:AJ}{r:R}(h:Zr T σ t a=AC r)(p:r.σ.Ok)(W:VR D ι a O):Ab P D ι σ w (Kq t O) r:=by
 unfold Zr at h
 split at h
 ·rename_i id i j;obtain⟨b,o,len,c,rfl,Z,q⟩:=OM W;have y:(⟨[],[id],[],[]⟩:Foot).Fi id:=.inr (.inl (by simp))
  split at h
  ·rename_i te Q A;have s:=Li A
   split at h
   ·rename_i d hd;cases f:J4 d
    ·rw[f,cond_false]at h
     split at h
     ·rename_i l B
      split at h
      ·rename_i v σ1 m;cases h;have C:i<Q.length:=BL p.1;refine Ab.assume ⟨(D5 (φ:=.nil) m).1,(D5 m).2,λx E F=> ?_⟩;have e:=KF A y F;obtain⟨us,S,X,G,H⟩:=Qv e q C B;obtain⟨ι',I,U,J⟩:=GQ l us D ι σ σ1 [v] m (by omega) H;obtain⟨u,n,z⟩:=G 0 (by omega)
       refine⟨u,ι',w,?_,J 0 v u rfl n,Post.mats x I (Ak _) rfl rfl (λ_ _=>rfl) e.fz (λb c K=>Xt s x y b c K) rfl rfl⟩;rw[FK,<-e.esz]at z;simp only[Kq,Gs,loadVar,A7,A9,Ax,Ec hT hd,f,CI,BR,run_load,z]
      ·cases h
     ·cases h
    ·rw[f,Ag]at h
     split at h
     ·rename_i V L
      split at h
      ·rename_i l B;rcases m:Gm l σ with⟨vs,σ1⟩
       rw[m]at h;cases h;have C:i<Q.length:=BL p.1;refine Ab.assume ⟨(D5 (φ:=.nil) m).1,(D5 m).2,λx E F=> ?_⟩;have e:=KF A y F;obtain⟨us,S,X,G,H⟩:=Qv e q C B;obtain⟨ι',I,U,J⟩:=GQ l us D ι σ σ1 vs m (by omega) H;refine⟨.agg us.toArray,ι',w,?_,.agg _ _ (by simp[U]) λk v u Y n=>J k v u (by simpa using Y) (by simpa using n),Post.mats x I (Ak _) rfl rfl (λ_ _=>rfl) e.fz (λb c K=>Xt s x y b c K) rfl rfl⟩
       have g:=run_loadCells_list (P:=P) w ⟨b,o+i*(ι id).esz+j,AF⟩ us λk v M=>by
        have N:k<V.size:=by
         rcases Nat.lt_or_ge k V.size with h|h
         ·exact h
         ·rw[DA (by omega)]at M;cases M
        obtain⟨u,n,z⟩:=G k N;rw[M]at n;cases n;rw[CU,e.esz];exact z
       rw[S]at g;simp only[Kq,Gs,loadVar,A7,A9,Ax,Ec hT hd,f,ANH,Bb hT L,g]
      ·cases h
     ·cases h
   ·cases h
  ·cases h
 ·cases h
omit hT
def Fq(T:TE)(σ:St)(t:AQ)(x c:AJ):AP R:=
 match x with
 | .tuple a=>match a.toList with
   |[.chan (AC 2),.pointer (AC ⟨id,0,AF⟩)]=>match JX (σ.heap.get id),T.und t,DH c with
    |some ⟨d,f⟩,AC (.slice b),AC (.int _ i)=>match T.inf b with
     |some e=>bif Af e.size d.sz then AC ⟨.pointer (AC ⟨id,i.toNat,AC 0⟩),(σ.assume (AG (i<f.length))).assume (AG (0<=i)),⟨[],[id],[],[]⟩⟩else AF
     |none=>AF
    |_,_,_=>AF
   |_=>AF
 |_=>AF
include hT
theorem Pw{t:AQ}{x p q f:AJ}{r:R}(h:Fq T σ t x q=AC r)(g:r.σ.Ok)(s:VR D ι x p)(n:VR D ι q f):Ab P D ι σ w (Wh t p f) r:=by
 unfold Fq at h
 split at h
 ·rename_i a
  split at h
  ·rename_i id A;rw[CV A]at s;obtain⟨a,l,c,rfl,B,j⟩:=FQ s
   split at h
   ·rename_i C u v k i E F G;obtain⟨rfl,_⟩:=Ay G n
    split at h
    ·rename_i e H;cases m:Af e.size C.sz
     ·rw[m]at h;cases h
     rw[m,Ag]at h;have m:=Br m;cases h;have I:0<=i:=BL g.1;have y:i<u.length:=BL g.2.1;refine Ab.assume (Ab.assume ⟨Ak _,λz=>⟨z,AFr.refl _ _⟩,λz _ J=> ?_⟩);have d:=KF E (.inr (.inl (by simp))) J;rcases d.rd with⟨_,K⟩|⟨b,o,M,L,el,fr,g1,N,g3,g4,O,_⟩
     ·subst K;simp at y;omega
     ·rw[j]at g1;cases g1;refine⟨.pointer (AC ⟨b,o+i.toNat*e.size,AF⟩),ι,w,?_,?_,Post.same (St.rng_self σ) rfl rfl rfl rfl rfl⟩
      ·simp only[Wh,asIntOf,A7,A9,Ax,Ah hT F,I,y,and_self,ANH,Bb hT H,CU]
      ·have:=VR.pel (D:=λi=>D i\/σ.rng σ i) (ι:=ι) id i.toNat 0 b o u.length c (.inl B) j;rw[d.esz,<-m,FK]at this;exact this
    ·cases h
   ·cases h
  ·cases h
 ·cases h
omit hT
def IM(T:TE)(σ:St)(s:AQ)(a:AJ)(f:AB):AP R:=
 match a with
 | .pointer (AC ⟨id,i,AC j⟩)=>match T.und s with
   |some (.struct c)=>match c[f]? with
    |some b=>match T.inf b.type with
     |some d=>bif Af d.size 0 then AF else AC ⟨.pointer (AC ⟨id,i,AC (j+b.offset)⟩),σ,.nil⟩
     |none=>AF
    |none=>AF
   |_=>AF
 |_=>AF
include hT
theorem Px{s:AQ}{a k:AJ}{f:AB}{r:R}(h:IM T σ s a f=AC r)(m:VR D ι a k):Ab P D ι σ w (bV s k f) r:=by
 unfold IM at h
 split at h
 ·rename_i id i j;obtain⟨b,o,len,c,rfl,n,g⟩:=OM m
  split at h
  ·rename_i x p
   split at h
   ·rename_i q t
    split at h
    ·rename_i l u;cases d:Af l.size 0
     ·rw[d]at h;cases h;have v:l.size≠0:=λe=>by rw[e]at d;cases d
      refine Ab.pure (v':=.pointer (AC ⟨b,o+i*(ι id).esz+(j+q.offset),AF⟩)) ?_ (.pel id i _ b o len c n g);simp only[bV,A7,Ah hT p,Ax,t,Gs,A9,fieldPlace,Bb hT u,AY v,CU,Dg]
     ·rw[d]at h;cases h
    ·cases h
   ·cases h
  ·cases h
 ·cases h
omit hT
def sLen(T:TE)(σ:St)(argTypes:AE AQ)(x:AJ):AP R:=
 match x with
 | .tuple a=>match a.toList with
   |[.chan (AC 2),.pointer (AC ⟨id,0,AF⟩)]=>match JX (σ.heap.get id),argTypes with
    |some ⟨_,b⟩,t::_=>match T.und t with
     |some (.slice _)=>AC ⟨sy (.int .i64 b.length),σ,⟨[],[id],[],[]⟩⟩
     |_=>AF
    |_,_=>AF
   |_=>AF
 |_=>AF
include hT
theorem dp{argTypes:Aa AQ}{ty:AQ}{x g:AJ}{r:R}(h:sLen T σ argTypes.toList x=AC r)(i:VR D ι x g):Ab P D ι σ w (M0 argTypes ty #[g]) r:=by
 have tl:∀t l,argTypes.toList=t::l->argTypes[0]?=AC t:=λt l e=>by rw[<-Bf,e];rfl
 unfold sLen at h
 split at h
 ·rename_i a
  split at h
  ·rename_i id n;rw[CV n]at i;obtain⟨a,l,c,rfl,C,d⟩:=FQ i
   split at h
   ·rename_i E j t p s u
    split at h
    ·rename_i e v;cases h;refine⟨Ak _,λk=>⟨k,AFr.refl _ _⟩,λk _ y=> ?_⟩;have f:=KF s (.inr (.inl (by simp))) y;have z:l=j.length:=by
      rcases f.rd with⟨⟨q,c1,m⟩,A⟩|⟨b,o,F,B,el,fr,g1,G,g3,g4,H,_⟩
      ·rw[d]at m;cases m;subst A;rfl
      ·rw[d]at g1;cases g1;rfl
     subst z;refine⟨.int .i64 j.length,ι,w,?_,.sym _ rfl,Post.same (St.rng_self σ) rfl rfl rfl rfl rfl⟩;simp only[M0,tl _ _ u,ANI,EM,A7,Ah hT v,Ax,A9,Eb]
    ·cases h
   ·cases h
  ·cases h
 ·cases h
end
end Go.Eng
end
end
end
section
noncomputable section
noncomputable section
namespace Go.Eng
open Go
section
variable {P:Ao} {T:TE} (hT:T.OK P) {D:AB->Prop} {ι ι':AB->Reg} {σ σ':St} {w w':AN} {φ:Foot}
def nR(len:AB)(lo a:AP AJ):AP (AP Int×AP Int×AE AH):=
 match lo,a with
 |none,AF=>AC (AF,AF,[])
 |some l,AF=>match DH l with
  |some (.int _ n)=>AC (AC n,AF,[AG (0<=n),AG (n<=len)])
  |_=>AF
 |none,AC h=>match DH h with
  |some (.int _ m)=>AC (AF,AC m,[AG (0<=m),AG (m<=len)])
  |_=>AF
 |some l,AC h=>match DH l,DH h with
  |some (.int _ n),AC (.int _ m)=>AC (AC n,AC m,[AG (0<=n),AG (n<=m),AG (m<=len)])
  |_,_=>AF
def Dt{α:Type}(a:AE α)(lo b:AP Int):AE α:=
 match lo,b with
 |none,AF=>a
 |some n,AF=>a.drop n.toNat
 |none,AC m=>a.take m.toNat
 |some n,AC m=>(a.take m.toNat).drop n.toNat
theorem Vx{len cap:AB}{lo v d f:AP AJ}{n m:AP Int}{x:AE AH}{α:Type}(r:AE α)(z:r.length=len)(h:nR len lo v=AC (n,m,x))(a:FZ x)(C:len<=cap)(p:OR D ι lo d)(q:OR D ι v f)(w:AN):
  ∃l h,(Ga AD len cap d f AF).run P w=.ok (l,h,cap) w/\l<=h/\h<=len/\Dt r n m=(r.take h).drop l:=by
 unfold nR at h
 split at h
 ·cases h;cases p;cases q;exact⟨0,len,by simp[Ga],Cx _,Ak _,by simp[Dt,<-z]⟩
 ·rename_i l
  split at h
  ·rename_i k n0 g;cases h;cases q;cases p with
   |some _ b i=>
    obtain⟨rfl,_⟩:=Ay g i;have j:(0:Int)<=n0:=BL a.1;have s:n0<=len:=BL a.2.1;have e:=λc=>Ed (P:=P) (k:=k) (code:=c) j (y:=len) s w
    exact⟨n0.toNat,len,by simp[Ga,e],by omega,Ak _,by simp[Dt,<-z]⟩
  ·cases h
 ·rename_i l
  split at h
  ·rename_i k n0 g;cases h;cases p;cases q with
   |some _ b i=>
    obtain⟨rfl,_⟩:=Ay g i;have j:(0:Int)<=n0:=BL a.1;have s:n0<=len:=BL a.2.1;have e:=λc=>Ed (P:=P) (k:=k) (code:=c) j (y:=cap) (by omega) w
    exact⟨0,n0.toNat,by simp[Ga,e],Cx _,by omega,by simp[Dt]⟩
  ·cases h
 ·rename_i l E
  split at h
  ·rename_i k n0 A o g t;cases h;cases p with
   |some _ b i=>
    cases q with
    |some _ F u=>
     obtain⟨rfl,_⟩:=Ay g i;obtain⟨rfl,_⟩:=Ay t u;have j:(0:Int)<=n0:=BL a.1;have s:n0<=o:=BL a.2.1;have G:o<=len:=BL a.2.2.1;have e:=λc=>Ed (P:=P) (k:=A) (code:=c) (by omega:0<=o) (y:=cap) (by omega) w
     have B:=λc=>Ed (P:=P) (k:=k) (code:=c) j (y:=o.toNat) (by omega) w
     exact⟨n0.toNat,o.toNat,by simp[Ga,e,B],by omega,by omega,by simp[Dt]⟩
  ·cases h
def St.assumes(σ:St)(a:AE AH):St:=a.foldr (λp σ=>σ.assume p) σ
theorem Cs:∀(a:AE AH) (σ:St),(σ.assumes a).Ok↔FZ a/\σ.Ok
 |[],σ=>by simp[St.assumes,FZ]
 |p::a,σ=>by
  show((σ.assumes a).assume p).Ok↔_;rw[St.assume_ok,Cs a σ,FZ,and_assoc]
theorem Ab.assumes{e:Sem AJ}{v:AJ}{φ:Foot}:∀(a:AE AH) {σ':St},Ab P D ι σ w e ⟨v,σ',φ⟩->Ab P D ι σ w e ⟨v,σ'.assumes a,φ⟩
 |[],_,h=>h
 |_::a,_,h=>(Ab.assumes a h).assume
def Zt(T:TE)(σ:St)(t:AQ)(x:AJ)(lo f:AP AJ):AP R:=
 match x with
 | .tuple a=>match a.toList with
   |[.chan (AC 2),.pointer (AC ⟨id,0,AF⟩)]=>match σ.heap.get id,T.und t with
    |some (.dat c d),AC (.slice b)=>match T.inf b with
     |some e=>bif Af e.size c.sz then match nR d.length lo f with
      |some (n,m,g)=>AC ⟨dt σ.next,(σ.new (.dat c (Dt d n m))).assumes g,⟨[],[id],[],[]⟩⟩
      |none=>AF
      else AF
     |none=>AF
    |_,_=>AF
   |_=>AF
 |_=>AF
include hT
theorem Zu{t:AQ}{x J:AJ}{lo V g j:AP AJ}{r:R}(h:Zt T σ t x lo V=AC r)(M:r.σ.Ok)(v:VR D ι x J)(W:OR D ι lo g)(X:OR D ι V j):Ab P D ι σ w (FA t J g j AF) r:=by
 have N:∀e,T.und t=AC (.slice e)->∀w,(FA t J g j AF).run P w=(FN t J g j AF).run P w:=λe A w=>by
  simp only[FA,A7,Ah hT A,Ax]
 unfold Zt at h
 split at h
 ·rename_i a
  split at h
  ·rename_i id ha;rw[CV ha]at v;obtain⟨a,len,c,rfl,hD,B⟩:=FQ v
   split at h
   ·rename_i p y Y O A
    split at h
    ·rename_i e Z;cases z:Af e.size p.sz
     ·rw[z]at h;cases h
     rw[z,Ag]at h;have z:=Br z
     split at h
     ·rename_i n m ps C;cases h;obtain⟨hp, -⟩:=(Cs _ _).1 M;refine Ab.assumes ps ?_;have Q:Gm [.s p (Dt y n m)] σ=([dt σ.next],σ.new (.dat p (Dt y n m))):=rfl;refine⟨(D5 (φ:=.nil) Q).1,(D5 Q).2,λhw hDn ho=> ?_⟩;have S:(⟨[],[id],[],[]⟩:Foot).Fi id:=.inr (.inl (by simp))
      have hmem:=KF (show JX (σ.heap.get id)=AC ⟨p,y⟩ by rw[O];rfl) S ho;obtain⟨g1, -, -,g4⟩:=ho.hd id _ S (St.hdr_of O);have key:∃u,(FN t (.slice a len c) g j AF).run P w=.ok u w/\sd (ι id).fz p (Dt y n m) u:=by
       rcases g1 with⟨⟨q,c1,E⟩,rfl⟩|⟨b,o,c',F,E,e2,e3,e4,e5⟩
       ·rw[B]at E;cases E;obtain⟨l,h,G,r2,K,L⟩:=Vx (P:=P) (cap:=c) ([]:AE p.Den) rfl C hp (Cx _) W X w;have K:h<=0:=K;have G:(Ga AD 0 c g j AF).run P w=.ok (l,h,c) w:=G;have:l=0:=by omega
        have:h=0:=by omega
        subst l h;exact⟨.slice (if c=0 then a else a.map (·.add (0*e.size))) (0-0) (c-0),by simp only[FN,A7,Ah hT A,Ax,G,Bb hT Z,A9],.inl ⟨⟨_,_,rfl⟩,by rw[L];rfl⟩⟩
       ·rw[B]at E;cases E;obtain⟨l,h,G,r2,K,L⟩:=Vx (P:=P) (cap:=c) y rfl C hp e4 W X w;have f:(Dt y n m).length=h-l:=by rw[L,CC,Bw];omega
        refine⟨.slice (if c=l then AC ⟨b,o,AF⟩else(AC ⟨b,o,AF⟩:AP Addr).map (·.add (l*e.size))) (h-l) (c-l),by simp only[FN,A7,Ah hT A,Ax,G,Bb hT Z,A9],?_⟩;by_cases hc:c=l
        ·subst hc;refine .inr ⟨b,o,0,F,by rw[Ae rfl,f];simp,e2,by rw[f,show h-c=0 by omega];omega,by rw[f];omega,λi x v=> ?_⟩;rw[DA (by omega)]at v;cases v
        ·refine .inr ⟨b,o+l*p.sz,c-l,F,by rw[AY hc,f,Option.map_some,CU,z],e2,?_,by rw[f];omega,λi x v=> ?_⟩
         ·rw[f];have:l*p.sz+(h-l)*p.sz=h*p.sz:=by rw[<-DB];congr 1;omega
          have:h*p.sz<=y.length*p.sz:=Gc _ K;omega
         ·rw[L,CA,CB]at v
          split at v
          ·have:=e5 (l+i) x v;rwa[DB,<-Dg]at this
          ·cases v
      obtain⟨u,H,U⟩:=key;obtain⟨ι',m1,m2,m3⟩:=GQ [.s p (Dt y n m)] [u] D ι σ _ _ Q rfl λk d u' hd I=>by
       rcases k with _|k
       ·simp only[EM,BJ]at hd I;subst hd I;exact U
       ·simp at hd
      exact⟨u,ι',w,(N _ A w).trans H,m3 0 _ u rfl rfl,Post.mats hw m1 (Ak _) rfl rfl (λ_ _=>rfl) g4 (λb c z=>Xt (St.lv_of O) hw S b c z) rfl rfl⟩
     ·cases h
    ·cases h
   ·cases h
  ·cases h
 ·cases h
end
end Go.Eng
end
end
end
section
noncomputable section
noncomputable section
namespace Go.Eng
open Go
def ABk:AJ->AH
 | .tuple a=>match a.toList with
   |[.chan (AC 3),.bool _]=>AD
   |_=>AK
 |_=>AK
def ABl:AJ->AH
 | .tuple a=>match a.toList with
   |[.chan (AC 4),.int _ 0]=>AD
   |_=>AK
 |_=>AK
def glc(c:AJ):AH:=Au 8 c||ABk c||ABl c
def lU(c u:AJ):Prop:=(Au 8 c=AD/\u=c)\/(∃b,c=er b/\pT b u=AD)\/∃k n,c=ai k/\u=.int k n
theorem kP{c:AJ}(h:ABl c=AD):∃k,c=ai k:=by
 unfold ABl at h
 split at h
 ·rename_i a
  split at h
  ·rename_i k b;refine⟨k,?_⟩;cases a;simp only at b;rw[b]
  ·cases h
 ·cases h
theorem ABm{D:AB->Prop}{ι:AB->Reg}{k:IntKind}{a:AJ}(h:VR D ι (ai k) a):∃n,a=.int k n:=by
 cases h with
 |aint _ n=>exact⟨n,rfl⟩
 |tuple as bs b h=>
  have c:bs[0]?=AC (bs[0]'(by rw[<-b];exact ij _)):=CX _;exact(h 0 _ _ rfl c).no_chan.elim
theorem kQ{c:AJ}(h:ABk c=AD):∃b,c=er b:=by
 unfold ABk at h
 split at h
 ·rename_i a
  split at h
  ·rename_i b d;refine⟨b,?_⟩;cases a;simp only at d;rw[d]
  ·cases h
 ·cases h
theorem AOK{D:AB->Prop}{ι:AB->Reg}{b:AH}{a:AJ}(h:VR D ι (er b) a):pT b a=true:=by
 cases h with
 |err _ _ h=>exact h
 |tuple as bs c h=>
  have d:bs[0]?=AC (bs[0]'(by rw[<-c];exact ij _)):=CX _;exact(h 0 _ _ rfl d).no_chan.elim
theorem lU.vr{D:AB->Prop}{ι:AB->Reg}{c u:AJ}(h:lU c u):VR D ι c u:=by
 rcases h with⟨h,rfl⟩|⟨b,rfl,h⟩|⟨k,n,rfl,rfl⟩
 ·exact Bk 8 _ h
 ·exact .err b u h
 ·exact .aint k n
theorem lU.of{D:AB->Prop}{ι:AB->Reg}{c u:AJ}(h:glc c=AD)(a:VR D ι c u):lU c u:=by
 unfold glc at h;rw[ED,ED]at h;rcases h with(h|h)|h
 ·exact .inl ⟨h,GT 8 _ _ h a⟩
 ·obtain⟨b,rfl⟩:=kQ h;exact .inr (.inl ⟨b,rfl,AOK a⟩)
 ·obtain⟨k,rfl⟩:=kP h;obtain⟨n,rfl⟩:=ABm a;exact .inr (.inr ⟨k,n,rfl,rfl⟩)
def NP(gl:AE (AB×AE AJ))(w:AN):Prop:=(∀p,p∈gl->∀(i:AB) c,p.2[i]?=AC c->∃u,w.cell? ⟨p.1,i,AF⟩=AC u/\lU c u)/\
 ∀p,p∈gl->∃(c:Aa AJ) (e:AQ) (fr:AB×AB),w.heap[p.1]?=AC (.cells c e fr)/\c.size=p.2.length
def DU(w w':AN):Prop:=w.heap.size<=w'.heap.size/\w'.os=w.os/\w'.output=w.output/\∀b,b<w.heap.size->w'.heap[b]?=w.heap[b]?
def Kh(P:Ao)(gl:AE (AB×AE AJ))(f:BT)(S:PSpec):Prop:=
 ∀(fz:AB->AP (Aa AJ)) (w:AN) (args:Aa AJ) (x:AM S.ts),DK fz w->NP gl w->CN fz S.ts x args.toList->S.pre x->
  Calls P f args w λe w'=>∃vs a,e=.returned (Er vs)/\(∀b c,fz b=AC c->a b=AC c)/\DK a w'/\(∀b c,a b=AC c->fz b=AC c\/w.heap.size<=b)/\CN a S.rs (S.g x) vs/\DU w w'
def uF(P:Ao)(S:OSpec)(fz:AB->AP (Aa AJ))(w:AN)(r:Reg)(own:AE AB)(z:S.root.Den×DX S.rs)(e:Ending)(w':AN):Prop:=
 ∃vs f a d,e=.returned (Er vs)/\(∀b c,fz b=AC c->f b=AC c)/\DK f w'/\(∀b c,f b=AC c->fz b=AC c\/w.heap.size<=b\/b∈own)/\
  (Iw S.rb r++(a++d)).Nodup/\(∀b,b∈Iw S.rb r++(a++d)->f b=AF)/\(∀b,b∈a++d->b∈own\/w.heap.size<=b)/\
  (S.rb=AD->UB P w' f r S.root S.re z.1 a)/\(S.rb=AK->a=[])/\UC P w' f S.rs z.2 vs d/\
  w.heap.size<=w'.heap.size/\w'.os=w.os/\w'.output=w.output/\∀b,b<w.heap.size->b∉Iw S.rb r++own->w'.heap[b]?=w.heap[b]?
def Xu(P:Ao)(gl:AE (AB×AE AJ))(f:BT)(S:OSpec):Prop:=
 ∀(fz:AB->AP (Aa AJ)) (w:AN) (r:Reg) (a c:AE AB) (args:AE AJ) (x:S.root.Den) (y:DX S.ts),DK fz w->NP gl w->(Iw S.rb r++(a++c)).Nodup->(∀b,b∈Iw S.rb r++(a++c)->fz b=AF)->(∀p,p∈gl->p.1∉Iw S.rb r++(a++c))->
  (S.rb=AD->UB P w fz r S.root S.re x a)->(S.rb=AK->a=[])->UC P w fz S.ts y args c->S.pre x y=AD->
  Calls P f (EI S.ri (kq S.rb r) args).toArray w (uF P S fz w r (a++c) (S.g x y))
def nT(P:Ao)(t:AQ)(l:AE (AQ×AB)):Prop:=
 ∃a:Aa Field,P.underlying t=AC (.struct a)/\a.toList.map (λf=>(f.type,f.offset))=l/\(∀f,f∈a.toList->f.name≠ "_")/\P.stoodInHeld t=AK/\P.eqGuardType P.depth t=AK
structure VSpec where
 t:Ty
 e:AQ
 ri:AB
 ts:AE Ty
 rs:AE Ty
 pre:AE t.Den->AM ts->AH
 g:AE t.Den->AM ts->AE t.Den×AM rs
def Zv(P:Ao)(gl:AE (AB×AE AJ))(f:BT)(S:VSpec):Prop:=
 ∀(fz:AB->AP (Aa AJ)) (r:Reg) (w:AN) (a:AE S.t.Den) (args:AE AJ) (y:AM S.ts),DK fz w->NP gl w->BI P (λ_=>r) 0 w (.vec S.t a S.e)->(∀p,p∈gl->¬r.Own p.1)->(∀b c,fz b=AC c->¬r.Own b)->CN fz S.ts y args->S.pre a y=AD->
  Calls P f (EI S.ri [r.sv] args).toArray w λev w'=>∃vs,ev=.returned (Er vs)/\CN (λ_=>AF) S.rs (S.g a y).2 vs/\BI P (λ_=>r) 0 w' (.vec S.t (S.g a y).1 S.e)/\w.heap.size<=w'.heap.size/\w'.os=w.os/\w'.output=w.output/\∀b,b<w.heap.size->¬r.Own b->w'.heap[b]?=w.heap[b]?
structure Env where
 T:TE
 G:AB
 fn:BT->AP Func
 ext:BT->AE AJ->AP AJ
 sum:BT->AE AJ->AP AJ
 gl:AE (AB×AE AJ)
 spec:BT->AP PSpec
 mnz:BT->AP AQ:=λ_=>AF
 vt:AQ->AP Ty:=λ_=>AF
 cmp:AQ->AP (AE (AQ×AB)):=λ_=>AF
 osp:BT->AP OSpec:=λ_=>AF
 vsp:BT->AP VSpec:=λ_=>AF
 frz:AB->AE AB:=λ_=>[]
structure Env.OK(E:Env)(P:Ao):Prop where
 T:E.T.OK P
 fn:∀f x,E.fn f=AC x->P.funcs[f]?=AC x/\x.body.isSome=AD/\(x.name== "runtime.NumGoroutine")=AK
 ext:∀f a v,E.ext f a=AC v->∀(D:AB->Prop) (ι:AB->Reg) (a':Aa AJ) (w:AN),AR D ι a.toArray a'->∃v',VR D ι v v'/\(FO f a').run P w=.ok (.value v') w
 sum:∀f a v,E.sum f a=AC v->Au 8 v=AD/\a.all (Au 8)=AD/\∀w,NP E.gl w->Calls P f a.toArray w λe w'=>e=.returned v/\DU w w'
 gl:∀p,p∈E.gl->p.1<E.G/\p.2.all glc=AD
 mixed:P.follows .mixedOrders=AD
 spec:∀f S,E.spec f=AC S->Kh P E.gl f S
 mnz:∀f e,E.mnz f=AC e->∀(n:AB) (w:AN),n<=281474976710656->∃cs:Aa AJ,(FO f #[.int .i64 n]).run P w=.ok (.value (.slice (AC ⟨w.heap.size,0,AF⟩) n cs.size)) (w.drew.drew.alloc (.cells cs e))/\n<=cs.size
 cmp:∀t l,E.cmp t=AC l->nT P t l
 osp:∀f S,E.osp f=AC S->Xu P E.gl f S
 vsp:∀f S,E.vsp f=AC S->Zv P E.gl f S
def GI(E:Env)(D:AB->Prop)(ι:AB->Reg):Prop:=∀g,g<E.G->D g/\(ι g).blk=g/\(ι g).base=0/\∀p,p∈E.gl->p.1=g->(ι g).room=p.2.length
theorem GI.b{E:Env}{D:AB->Prop}{ι:AB->Reg}(h:GI E D ι):∀g,g<E.G->D g/\(ι g).blk=g/\(ι g).base=0:=λg x=>⟨(h g x).1,(h g x).2.1,(h g x).2.2.1⟩
inductive OpR where
 |val (r:R)
 |enter (f:BT) (args:AE AJ)
def av(G:AB)(s:Tr AJ):Bp->AP AJ
 | .tmp t=>s.get t
 | .const v=>bif Au 8 v then AC v else AF
 | .global g=>bif Nat.blt g G then AC (.pointer (AC ⟨g,0,AF⟩))else AF
 | .func f=>AC (.func (.func f) #[] #[])
def lV(G:AB)(s:Tr AJ):AE Bp->AP (AE AJ)
 |[]=>AC []
 |x::a=>match av G s x with
  |some v=>match lV G s a with
   |some l=>AC (v::l)
   |none=>AF
  |none=>AF
def lW(G:AB)(s:Tr AJ):AP Bp->AP (AP AJ)
 |none=>AC AF
 |some x=>match av G s x with
  |some v=>AC (AC v)
  |none=>AF
def uG(G:AB)(s:Tr AJ):AE (AB×Bp)->AP (AE (AB×AJ))
 |[]=>AC []
 |(i,x)::a=>match av G s x with
  |some v=>match uG G s a with
   |some l=>AC ((i,v)::l)
   |none=>AF
  |none=>AF
def CF(σ:St):AP AJ->AP OpR
 |some v=>AC (.val ⟨v,σ,.nil⟩)
 |none=>AF
def DV:AP R->AP OpR
 |some r=>AC (.val r)
 |none=>AF
def uH(P:Ao)(T:TE)(op:DO)(t:AQ)(ox oy:Bp)(x y:AJ):AP AJ:=
 match x,y with
 | .int k a,.int c b=>match op with
   | .shl=>Vm .shl k a b
   | .shr=>Vm .shr k a b
   |_=>if k=c then TA op k a b else AF
 | .string a,.string b=>Xb op a b
 |_,_=>match mf T t x y,op with
  |some b,.eql=>AC (.bool b)
  |some b,.neq=>AC (.bool (!b))
  |_,_=>bif Au 8 x&&Au 8 y then
    match Pi P (do I7 op t ox oy x y;Dd op t x y)with
    |some v=>bif Au 8 v then AC v else AF
    |none=>AF
   else AF
def Tn(P:Ao)(e:Sem AJ):AP AJ:=
 match Pi P e with
 |some v=>bif Au 8 v then AC v else AF
 |none=>AF
def Rc:AP Jw->AH
 |some (.int .u8)=>AD
 |_=>AK
def Vy(P:Ao)(T:TE)(σ:St)(src dst:AQ)(x:AJ):AP R:=
 match T.und src,T.und dst,x with
 |some _,AC (.int k),.int _ n=>AC ⟨.int k (k.wrap n),σ,.nil⟩
 |some _,AC .string,.string s=>AC ⟨.string s,σ,.nil⟩
 |some _,AC (.slice e),.string s=>bif Rc (T.und e)then Ex T σ e s else AF
 |some (.slice e),AC .string,.slice a l c=>bif Rc (T.und e)then Ew σ (.slice a l c)else AF
 |some (.pointer t),AC .unsafePointer,.pointer a=>TB T σ t (.pointer a)
 |some .unsafePointer,AC (.pointer t),.pointer a=>La T σ t (.pointer a)
 |_,_,_=>bif Au 8 x then match Tn P (FB src dst x)with
   |some v=>AC ⟨v,σ,.nil⟩
   |none=>AF
  else AF
def JY(P:Ao)(T:TE)(σ:St)(b:Builtin)(argTypes:Aa AQ)(ty:AQ)(consts:Aa AH)(args:AE AJ):AP R:=
 match b,args with
 | .len,[.slice _ n _]=>match argTypes.toList with
   |t::_=>match T.und t with
    |some (.slice _)=>AC ⟨Eb n,σ,.nil⟩
    |_=>AF
   |_=>AF
 | .len,[.string s]=>match argTypes.toList with
   |t::_=>match T.und t with
    |some .string=>AC ⟨Eb s.size,σ,.nil⟩
    |_=>AF
   |_=>AF
 | .cap,[.slice _ _ c]=>match argTypes.toList with
   |t::_=>match T.und t with
    |some (.slice _)=>bif Af c IX then AF else AC ⟨Eb c,σ,.nil⟩
    |_=>AF
   |_=>AF
 | .append,[s,x]=>J6 T σ argTypes s x
 | .copy,[d,x]=>ZF T σ argTypes d x
 | .unsafeSliceData,[x]=>match NI x with
   |some v=>AC ⟨v,σ,.nil⟩
   |none=>AF
 | .unsafeString,[x,.int _ n]=>match argTypes.toList with
   |a::_=>Lb T σ a x n
   |_=>AF
 |_,_=>bif args.all (Au 8)then match Pi P (Um b argTypes ty consts args.toArray)with
   |some (.value v)=>bif Au 8 v then AC ⟨v,σ,.nil⟩else AF
   |_=>AF
  else AF
def gN(P:Ao)(E:Env)(s:Tr AJ)(σ:St)(o:Oper):AP OpR:=
 match o.op with
 | .move x=>CF σ (av E.G s x)
 | .assign x=>CF σ (av E.G s x)
 | .pick c a b=>match av E.G s c with
   |some (.bool AD)=>CF σ (av E.G s a)
   |some (.bool AK)=>CF σ (av E.G s b)
   |_=>AF
 | .alloc e=>DV (Pf E.T σ e)
 | .box e x=>match av E.G s x with
   |some v=>bif RX v then DV (ZC E.T σ e v.cells.toList)else AF
   |none=>AF
 | .build t j=>match uG E.G s j.toList with
   |some l=>CF σ (XX E.T t l)
   |none=>AF
 | .buildSlice t n j=>match uG E.G s j.toList with
   |some l=>DV (F2 E.T σ t n l)
   |none=>AF
 | .load t a=>match av E.G s a with
   |some v=>DV (Mm E.T σ t v)
   |none=>AF
 | .store t a x=>match av E.G s a,av E.G s x with
   |some v,AC u=>DV (Pg E.T σ t v u)
   |_,_=>AF
 | .nilCheck x=>match av E.G s x with
   |some (.pointer (AC a))=>CF σ (AC (.pointer (AC a)))
   |some (.iface t v)=>CF σ (AC (.iface t v))
   |some (.func (.func f) a b)=>CF σ (AC (.func (.func f) a b))
   |_=>AF
 | .binOp op t x y _=>match av E.G s x,av E.G s y with
   |some a,AC b=>CF σ (uH P E.T op t x y a b)
   |_,_=>AF
 | .unOp op _ x=>match av E.G s x with
   |some (.bool b)=>match op with
    | .not=>CF σ (AC (.bool (!b)))
    |_=>AF
   |some v=>CF σ (bif Au 8 v then Tn P (Op.unary op v)else AF)
   |none=>AF
 | .convert src dst x=>match av E.G s x with
   |some v=>DV (Vy P E.T σ src dst v)
   |none=>AF
 | .makeInterface t x=>match av E.G s x,E.T.und t with
   |some v,AC d=>match d with
    | .interface _=>AF
    |_=>CF σ (AC (.iface t v))
   |_,_=>AF
 | .makeFunc fn first captured=>match lV E.G s first.toList,lV E.G s captured.toList with
   |some l,AC m=>CF σ (AC (.func fn l.toArray m.toArray))
   |_,_=>AF
 | .makeSlice t l c=>match av E.G s l,av E.G s c with
   |some a,AC b=>DV (Gz E.T σ t a b)
   |_,_=>AF
 | .slice t x lo k p=>match av E.G s x,lW E.G s lo,lW E.G s k,lW E.G s p with
   |some v,AC l,AC h,AC m=>DV (Pj E.T σ t v l h m)
   |_,_,_,_=>AF
 | .fieldAddr t x f=>match av E.G s x with
   |some v=>DV (Gy E.T σ t v f)
   |none=>AF
 | .field t x f=>match av E.G s x with
   |some v=>CF σ (XS E.T t v f)
   |none=>AF
 | .indexAddr t x i=>match av E.G s x,av E.G s i with
   |some v,AC u=>DV (Dr E.T σ t v u)
   |_,_=>AF
 | .index t x i=>match av E.G s x,av E.G s i with
   |some v,AC u=>CF σ (XU E.T t v u)
   |_,_=>AF
 | .range t x=>match av E.G s x with
   |some v=>DV (Pn E.T σ t v)
   |none=>AF
 | .next q isS=>match av E.G s q with
   |some v=>DV (Vl σ v isS)
   |none=>AF
 | .extract x i=>match av E.G s x with
   |some v=>CF σ (N2 v i)
   |none=>AF
 | .call c=>match lV E.G s c.args.toList with
   |some args=>match c.callee with
    | .builtin b=>DV (JY P E.T σ b c.argTypes o.type (c.args.map λ| .const _=>AD|_=>AK) args)
    | .value f=>match av E.G s f with
      |some (.func (.func g) first captured)=>match E.fn g with
       |some _=>AC (.enter g (first.toList++args++captured.toList))
       |none=>CF σ (E.ext g (first.toList++args++captured.toList))
      |_=>AF
    |_=>AF
   |none=>AF
 |_=>AF
section
variable {P:Ao} {E:Env} (hE:E.OK P) {D:AB->Prop} {ι:AB->Reg} {σ:St} {w:AN} {s:Tr AJ} {ρ:Bp->AJ}
def De(P:Ao)(D:AB->Prop)(ι:AB->Reg)(σ:St)(w:AN)(e:Sem Next)(r:R):Prop:=
 σ.next<=r.σ.next/\(σ.wf->r.σ.wf/\AFr σ r.σ r.φ)/\(σ.wf->(∀id,σ.rng r.σ id->¬D id)->HOn P D ι σ.H r.φ w->
  ∃nx v' ι' w',e.run P w=.ok nx w'/\(nx=.value v'\/(nx=.skip/\v'=undef))/\VR (λi=>D i\/σ.rng r.σ i) ι' r.v v'/\Post P D (σ.rng r.σ) ι σ.H w r.φ ι' r.σ.H w')
theorem Ab.next{e:Sem AJ}{r:R}(h:Ab P D ι σ w e r):De P D ι σ w (do Ck (.value (<-e))) r:=by
 obtain⟨d,f,g⟩:=h;refine⟨d,f,λa b c=> ?_⟩;obtain⟨v',ι',w',g1,i,g3⟩:=g a b c;exact⟨.value v',v',ι',w',by simp only[A7,g1,Ax,A9],.inl rfl,i,g3⟩
theorem Ab.nextU{e:Sem Unit}{r:R}(h:Ab P D ι σ w (do e;Ck undef) r):De P D ι σ w (do e;Ck .skip) r:=by
 obtain⟨g,i,j⟩:=h;refine⟨g,i,λa b c=> ?_⟩;obtain⟨v',ι',w',g1,k,g3⟩:=j a b c;simp only[A7]at g1;cases d:e.run P w with
 |ok u f=>
  rw[d]at g1;simp only[Ax,A9,rU]at g1;obtain⟨rfl,rfl⟩:=g1;exact⟨.skip,undef,ι',f,by simp only[A7,d,Ax,A9],.inr ⟨rfl,rfl⟩,k,g3⟩
 |halt l f=>rw[d]at g1;simp at g1
def gO(G:AB)(D:AB->Prop)(ι:AB->Reg)(s:Tr AJ)(ρ:Bp->AJ)(x:Bp):Prop:=∀v,av G s x=AC v->VR D ι v (ρ x)
theorem KG{G:AB}:∀(c:AE Bp) (l:AE AJ),lV G s c=AC l->(∀x,x∈c->gO G D ι s ρ x)->AR D ι l.toArray (c.map ρ).toArray
 |[],l,h,_=>by
  simp only[lV,BJ]at h;subst h;exact⟨rfl,by simp⟩
 |x::c,l,h,f=>by
  simp only[lV]at h
  split at h
  ·rename_i v g
   split at h
   ·rename_i j k;cases h;obtain⟨m,n⟩:=KG c j k λy o=>f y (by simp[o])
    refine⟨by simpa using m,λi a b d e=> ?_⟩;rcases i with _|i
    ·simp at d e;subst d e;exact f x (by simp) v g
    ·exact n i a b (by simpa using d) (by simpa using e)
   ·cases h
  ·cases h
theorem KH{G:AB}{x:AP Bp}{v:AP AJ}(h:lW G s x=AC v)(a:∀y,x=AC y->gO G D ι s ρ y):OR D ι v (x.map ρ):=by
 unfold lW at h
 split at h
 ·cases h;exact .none
 ·rename_i y
  split at h
  ·rename_i u b;cases h;exact .some _ _ (a y rfl u b)
  ·cases h
theorem R9{G:AB}:∀(a:AE (AB×Bp)) (l:AE (AB×AJ)),uG G s a=AC l->(∀x,x∈a.map (·.2)->gO G D ι s ρ x)->PR D ι l (a.map λ(i,x)=>(i,ρ x))
 |[],l,h,_=>by
  simp only[uG,BJ]at h;subst h;exact .nil
 |(i,x)::a,l,h,b=>by
  simp only[uG]at h
  split at h
  ·rename_i v d
   split at h
   ·rename_i c e;cases h;exact .cons i v (ρ x) c _ (b x (by simp) v d) (R9 a c e λy f=>b y (by
     simp only[PM,List.mem_cons];exact .inr f))
   ·cases h
  ·cases h
theorem Lj{e:Sem AJ}{v:AJ}(h:Tn P e=AC v):Ab P D ι σ w e ⟨v,σ,.nil⟩:=by
 unfold Tn at h
 split at h
 ·rename_i u b;cases a:Au 8 u
  ·rw[a]at h;cases h
  ·rw[a]at h;cases h;exact ANd b a
 ·cases h
theorem F6{op:DO}{t:AQ}{ox oy:Bp}{x y:AJ}(a:x=.nilIface->y≠ .nilIface)(b:∀c,x≠ .agg c)(w:AN):(I7 op t ox oy x y).run P w=.ok () w:=by
 have:I7 op t ox oy x y=Ck ():=by
  cases op<;>first
   |rfl
   |(cases x<;>first
    |rfl
    |exact Aq rfl (b _)
    |(cases y<;>first|rfl|exact Aq rfl (a rfl)))
 rw[this];rfl
def notNum:AJ->AH
 | .int .. | .float .. | .complex .. | .string _| .chan (AC _)| .tuple _=>AK
 |_=>AD
theorem VR.notNum{x a:AJ}(h:VR D ι x a)(b:notNum x=AD):notNum a=true:=by cases h<;>first|rfl|cases b
theorem Qw{T:TE}{t:AQ}{x y:AJ}{b:AH}(h:mf T t x y=AC b):notNum x=true:=by
 cases x<;>first|rfl|simp[mf]at h
theorem Py{t:AQ}{x y:AJ}(h:notNum x=AD):Dd .eql t x y=(do Ck (.bool (<-Ks t x y))):=by
 cases x<;>first|rfl|cases h
theorem Pz{t:AQ}{x y:AJ}(h:notNum x=AD):Dd .neq t x y=(do Ck (.bool (!(<-Ks t x y)))):=by
 cases x<;>first|rfl|cases h
include hE
theorem dq{op:DO}{t:AQ}{ox oy:Bp}{x y m n v:AJ}(h:uH P E.T op t ox oy x y=AC v)(f:VR D ι x m)(g:VR D ι y n):
  Ab P D ι σ w (do I7 op t ox oy m n;Dd op t m n) ⟨v,σ,.nil⟩:=by
 unfold uH at h
 split at h
 ·rename_i k a s b;cases f;cases g;have i:=λw=>F6 (P:=P) (op:=op) (t:=t) (ox:=ox) (oy:=oy) (x:=.int k a) (y:=.int s b) (by simp) (by simp) w
  have z:∀u,TA op k a b=AC u->VR D ι u u:=λu c=>by
   cases op<;>simp only[TA]at c<;>first|(cases c;done)|(cases c;exact .int _ _)|(cases c;exact .bool _)|(split at c<;>cases c<;>exact .int _ _)
  have j:∀op u,Vm op k a b=AC u->VR D ι u u:=λop u c=>by
   unfold Vm at c
   split at c
   ·cases c
   ·cases op<;>simp only at c<;>cases c<;>exact .int _ _
  split at h
  ·exact Ab.pure (v':=v) (by simp only[A7,i,Ax];exact Vn h w) (j _ v h)
  ·exact Ab.pure (v':=v) (by simp only[A7,i,Ax];exact Vn h w) (j _ v h)
  ·split at h
   ·rename_i A;subst A;exact Ab.pure (v':=v) (by simp only[A7,i,Ax];exact cw h w) (z v h)
   ·cases h
 ·rename_i a b;cases f;cases g;have i:=λw=>F6 (P:=P) (op:=op) (t:=t) (ox:=ox) (oy:=oy) (x:=.string a) (y:=.string b) (by simp) (by simp) w
  have B:VR D ι v v:=by
   cases op<;>simp only[Xb]at h<;>first|(cases h;done)|(cases h;exact .bool _)|skip
   cases d:Nat.ble (a.size+b.size) 1099511627776
   ·rw[d]at h;cases h
   ·rw[d]at h;cases h;exact .string _
  refine Ab.pure (v':=v) ?_ B;have e:Dd op t (.string a) (.string b)=Op.stringOp op a b:=by cases op<;>rfl
  simp only[A7,i,Ax,e];exact cu h w
 ·split at h
  ·rename_i b d;cases h;obtain⟨o,p,q⟩:=ZK hE.T d f g w;refine Ab.pure (v':=.bool b) ?_ (.bool _);have r:=f.notNum (Qw d);simp only[A7,F6 p q,Ax,Py r,o,A9]
  ·rename_i b d;cases h;obtain⟨o,p,q⟩:=ZK hE.T d f g w;refine Ab.pure (v':=.bool (!b)) ?_ (.bool _);have r:=f.notNum (Qw d);simp only[A7,F6 p q,Ax,Pz r,o,A9]
  ·cases l:(Au 8 x&&Au 8 y)
   ·rw[l]at h;cases h
   ·rw[l,Ag]at h;rw[A0]at l;have C:=GT 8 x m l.1 f;have F:=GT 8 y n l.2 g;subst C F;exact Lj h
end
end Go.Eng
end
end
end
section
noncomputable section
noncomputable section
namespace Go.Eng
open Go
def eqS(d:Jw)(u v:AJ):AP AH:=
 match d,u,v with
 | .bool,.bool a,.bool b=>AC (a==b)
 | .int _,.int k a,.int c b=>bif AG (k=c)then AC (a==b)else AF
 | .string,.string a,.string b=>AC (Fg a==Fg b)
 |_,_,_=>AF
def NQ(T:TE)(e f:AE AJ):AE (AQ×AB)->AP AH
 |[]=>AC AD
 |x::r=>match T.und x.1,e[x.2]?,f[x.2]? with
  |some d,AC a,AC b=>match DH a,DH b with
   |some u,AC v=>match eqS d u v,NQ T e f r with
    |some c,AC g=>AC (c&&g)
    |_,_=>AF
   |_,_=>AF
  |_,_,_=>AF
def ABn(T:TE)(cmp:AQ->AP (AE (AQ×AB)))(op:DO)(t:AQ)(a b:AJ):AP SV:=
 match a,b,cmp t with
 | .agg d,.agg e,AC l=>match op with
   | .eql=>match NQ T d.toList e.toList l with
     |some c=>AC (.bool c,[])
     |none=>AF
   | .neq=>match NQ T d.toList e.toList l with
     |some c=>AC (.bool (!c),[])
     |none=>AF
   |_=>AF
 |_,_,_=>AF
def Zw(T:TE)(l:AE AQ)(t:AQ):AP (AE (AQ×AB)):=bif l.any (Af t)then match T.und t with
 |some (.struct a)=>AC (a.toList.map λf=>(f.type,f.offset))
 |_=>AF else AF
def AFt(P:Ao)(l:AE AQ):AH:=l.all λt=>match P.underlying t with
 |some (.struct a)=>a.toList.all (λf=>f.name != "_")&&(!(P.stoodInHeld t)&& !(P.eqGuardType P.depth t))
 |_=>AK
section
variable {P:Ao} {T:TE} (hT:T.OK P) {D:AB->Prop} {ι:AB->Reg}
include hT
theorem uI{n:AB}{t:AQ}{d:Jw}{u v:AJ}{c:AH}(hd:T.und t=AC d)(h:eqS d u v=AC c)(w:AN):J4 d=AK/\(Ku (n+1) t u v).run P w=.ok c w:=by
 unfold eqS at h
 split at h
 ·cases h;exact⟨rfl,run_equalIn_bool' w n t _ _ (hT.und t _ hd)⟩
 ·rename_i g k a f b;by_cases e:k=f
  ·subst e;simp only[decide_true,Ag,BJ]at h;subst h;exact⟨rfl,run_equalIn_int w n t _ _ _ _ (hT.und t _ hd)⟩
  ·simp[e]at h
 ·rename_i a b;cases h;refine⟨rfl,(run_equalIn_string w n t _ _ (hT.und t _ hd)).trans ?_⟩;rw[II,II]
 ·cases h
theorem To{s t i j:Aa AJ}(x:AR D ι s i)(y:AR D ι t j)(n:AB)(w:AN):∀(k:AE Field) (c:AH),(∀f,f∈k->f.name≠ "_")->NQ T s.toList t.toList (k.map λf=>(f.type,f.offset))=AC c->
  (zX (n+1) i j k).run P w=.ok c w
 |[],c,_,h=>by
  simp only[List.map_nil,NQ,BJ]at h;subst h;rfl
 |f::k,c,A,h=>by
  simp only[PM,NQ]at h
  split at h
  ·rename_i d a b hd E F
   split at h
   ·rename_i u v G H
    split at h
    ·rename_i c1 c2 l p;cases h;obtain⟨o,I⟩:=uI hT (n:=n) hd l w;have get:∀{q e:Aa AJ} {z u:AJ},AR D ι q e->q.toList[f.offset]?=AC z->DH z=AC u->e[f.offset]?=AC u:=by
      intro q e z u B l p;rw[Bf]at l;have r:=(Array.getElem?_eq_some_iff.1 l).1;have m:f.offset<e.size:=by rw[<-B.1];exact r
      have C:e[f.offset]?=AC e[f.offset]:=CX m;have:=B.2 f.offset _ _ l C;rw[C,(Ay p this).1]
     have J:(part f.type i f.offset).run P w=.ok u w:=by
      simp only[part,A7,Ec hT hd,o,Ax,CI,BR,get x E G,A9]
     have K:(part f.type j f.offset).run P w=.ok v w:=by
      simp only[part,A7,Ec hT hd,o,Ax,CI,BR,get y F H,A9]
     have L:=To x y n w k c2 (λg o=>A g (List.mem_cons_of_mem _ o)) p;simp only[zX,Ae (A f (List.mem_cons_self ..)),A7,J,K,I,Ax];cases c1
     ·simp
     ·simp[L]
    ·cases h
   ·cases h
  ·cases h
theorem nU{cmp:AQ->AP (AE (AQ×AB))}(u:∀t l,cmp t=AC l->nT P t l){op:DO}{t:AQ}{ox oy:Bp}{a b k m v:AJ}{x:AE AH}(h:ABn T cmp op t a b=AC (v,x))(y:VR D ι a k)(z:VR D ι b m)(w:AN):
  (do I7 op t ox oy k m;Dd op t k m).run P w=.ok v w/\Mi v=true:=by
 unfold ABn at h
 split at h
 ·rename_i p q l A;obtain⟨n,r,rfl,B,i,C⟩:=u _ _ A;obtain⟨d,rfl,E⟩:∃d,k=.agg d/\AR D ι p d:=by
   cases y with|agg _ bs i o=>exact⟨bs,rfl,i,o⟩
  obtain⟨e,rfl,F⟩:∃e,m=.agg e/\AR D ι q e:=by
   cases z with|agg _ bs i o=>exact⟨bs,rfl,i,o⟩
  have s:P.fieldsOf t=n:=by unfold Program.fieldsOf;rw[r]
  have key:∀c,NQ T p.toList q.toList (n.toList.map λf=>(f.type,f.offset))=AC c->(Ku 10000 t (.agg d) (.agg e)).run P w=.ok c w:=λc g=>by
   rw[show(10000:AB)=9999+1 from rfl,run_equalIn_struct w 9999 t d e (by rw[s];exact r) i,s];exact To hT E F 9998 w n.toList c B g
  have j:∀op,(I7 op t ox oy (.agg d) (.agg e)).run P w=.ok () w:=λop=>run_eqGuard_agg w op t ox oy d e C
  split at h
  ·split at h
   ·rename_i c g;cases h;exact⟨by simp only[A7,j,Ax,run_eql_struct,key c g],rfl⟩
   ·cases h
  ·split at h
   ·rename_i c g;cases h;exact⟨by simp only[A7,j,Ax,run_neq_struct,key c g],rfl⟩
   ·cases h
  ·cases h
 ·cases h
theorem Tp{l:AE AQ}(h:AFt P l=AD):∀t b,Zw T l t=AC b->nT P t b:=by
 intro t b a;unfold Zw at a;cases c:l.any (Af t)
 ·rw[c]at a;cases a
 rw[c,Ag]at a
 split at a
 ·rename_i f d;cases a;obtain⟨x,g,e⟩:=List.any_eq_true.1 c;have e:=Br e;subst e;have:=C8.1 h t g;rw[hT.und t _ d]at this;simp only[A0,Bool.not_eq_true',C8,bne_iff_ne,ne_eq]at this;exact⟨f,hT.und t _ d,rfl,this.1,this.2.1,this.2.2⟩
 ·cases a
end
end Go.Eng
end
end
end
section
noncomputable section
noncomputable section
namespace Go.Eng
open Go
section
variable {P:Ao} {E:Env} (hE:E.OK P) {D:AB->Prop} {ι:AB->Reg} {σ:St} {w:AN} {s:Tr AJ} {ρ:Bp->AJ}
theorem JZ{d:AP Jw}(h:Rc d=AD):d=AC (.int .u8):=by
 unfold Rc at h
 split at h
 ·rfl
 ·cases h
theorem P0{l:AE AJ}{a:Aa AJ}(h:l.all (Au 8)=AD)(b:AR D ι l.toArray a):a=l.toArray:=by
 refine sA (by rw[<-b.1]) λi c d=> ?_
 rw[C8]at h;have e:i<l.length:=by simpa using d
 exact GT 8 _ _ (h l[i] (List.getElem_mem e)) (b.2 i l[i] a[i] (by simp) (CX c))
theorem AR.two{x y:AJ}{a:Aa AJ}(h:AR D ι [x,y].toArray a):∃b c,a=#[b,c]/\VR D ι x b/\VR D ι y c:=by
 obtain⟨e,d⟩:=h;have f:a.size=2:=by simpa using e.symm
 refine⟨a[0],a[1],?_,d 0 x a[0] rfl (CX (by omega)),d 1 y a[1] rfl (CX (by omega))⟩;apply sA
 ·simp[f]
 ·intro i g1 g
  match i,g with
  |0,_=>rfl
  |1,_=>rfl
theorem AR.one{x:AJ}{a:Aa AJ}(h:AR D ι [x].toArray a):∃b,a=#[b]/\VR D ι x b:=by
 obtain⟨c,d⟩:=h;have e:a.size=1:=by simpa using c.symm
 refine⟨a[0],?_,d 0 x a[0] rfl (CX (by omega))⟩;apply sA
 ·simp[e]
 ·intro i g1 f
  match i,f with
  |0,_=>rfl
include hE
theorem Zx{src dst:AQ}{x m:AJ}{r:R}(h:Vy P E.T σ src dst x=AC r)(i:VR D ι x m):Ab P D ι σ w (FB src dst m) r:=by
 unfold Vy at h
 split at h
 ·rename_i d k kk n f g;cases h;cases i;refine Ab.pure (v':=.int k (k.wrap n)) ?_ (.int _ _);simp only[FB,A7,Ah hE.T f,Ah hE.T g,Ax,Conv.intToInt,A9]
 ·rename_i d C f g;cases h;cases i;refine Ab.pure (v':=.string C) ?_ (.string _);simp only[FB,A7,Ah hE.T f,Ah hE.T g,Ax,A9]
 ·rename_i d e C f g;cases i;cases j:Rc (E.T.und e)
  ·rw[j]at h;cases h
  ·rw[j,Ag]at h;have o:=JZ j;obtain⟨g1,p,g3⟩:=LY (w:=w) (D:=D) (ι:=ι) hE.T h;refine⟨g1,p,λa b c=> ?_⟩;obtain⟨v',ι',w',q,s,u⟩:=g3 a b c;refine⟨v',ι',w',?_,s,u⟩;simp only[FB,A7,Ah hE.T f,Ah hE.T g,Ax,Ah hE.T o]
   exact q
 ·rename_i e a l c f g;cases j:Rc (E.T.und e)
  ·rw[j]at h;cases h
  ·rw[j,Ag]at h;have o:=JZ j;obtain⟨g1,p,g3⟩:=LX (P:=P) (w:=w) (D:=D) (ι:=ι) h i;refine⟨g1,p,λa b c=> ?_⟩;obtain⟨v',ι',w',q,s,u⟩:=g3 a b c;refine⟨v',ι',w',?_,s,u⟩;have y:∃F G H,m=.slice F G H:=by cases i<;>exact⟨_,_,_,rfl⟩
   obtain⟨F,G,H,rfl⟩:=y;simp only[FB,A7,Ah hE.T f,Ah hE.T g,Ax,Ah hE.T o];exact q
 ·rename_i t a f g;have z:=hE.T.und _ _ f;have A:=hE.T.und _ _ g;exact Xc hE.T z A h i
 ·rename_i t a f g;have z:=hE.T.und _ _ f;have A:=hE.T.und _ _ g;exact TD hE.T z A h i
 ·rename_i x _ _ _ _ _ _ _ _ _;cases B:Au 8 x
  ·rw[B]at h;cases h
  ·rw[B,Ag]at h;have I:=GT 8 x m B i;subst I
   split at h
   ·rename_i v J;cases h;exact Lj J
   ·cases h
theorem Tq{b:Builtin}{argTypes:Aa AQ}{ty:AQ}{consts:Aa AH}{args:AE AJ}{f:Aa AJ}{r:R}(h:JY P E.T σ b argTypes ty consts args=AC r)(g:AR D ι args.toArray f):De P D ι σ w (Um b argTypes ty consts f) r:=by
 have tl:∀t l,argTypes.toList=t::l->argTypes[0]?=AC t:=λt l e=>by rw[<-Bf,e];rfl
 unfold JY at h
 split at h
 ·rename_i a n c;obtain⟨i,rfl,d⟩:=g.one
  split at h
  ·rename_i t l j
   split at h
   ·rename_i e o;cases h;have k:∃m u,i=.slice m n u:=by cases d<;>exact⟨_,_,rfl⟩
    obtain⟨m,u,rfl⟩:=k;refine Ab.next (e:=M0 argTypes ty #[.slice m n u]) (Ab.pure (v':=Eb n) ?_ (.int _ _));simp only[M0,tl _ _ j,ANI,EM,A7,Ah hE.T o,Ax,A9]
   ·cases h
  ·cases h
 ·rename_i A;obtain⟨i,rfl,d⟩:=g.one;cases d
  split at h
  ·rename_i t l j
   split at h
   ·rename_i o;cases h;refine Ab.next (e:=M0 argTypes ty #[.string A]) (Ab.pure (v':=Eb A.size) ?_ (.int _ _));simp only[M0,tl _ _ j,ANI,EM,A7,Ah hE.T o,Ax,A9]
   ·cases h
  ·cases h
 ·rename_i a n c;obtain⟨i,rfl,d⟩:=g.one
  split at h
  ·rename_i t l j
   split at h
   ·rename_i e o;cases s:Af c IX
    ·rw[s]at h;cases h;have p:c≠IX:=λe=>by rw[Ei e]at s;cases s
     have k:∃m,i=.slice m n c:=by
      cases d with
      |slN _ _=>exact⟨_,rfl⟩
      |slK _ _ _ _ _ _=>exact⟨_,rfl⟩
      |slU _ _ _ _ _ _ _=>exact Aq rfl p
      |slE _ _ _ _ _ _ _=>exact Aq rfl p
     obtain⟨m,rfl⟩:=k;refine Ab.next (e:=zW argTypes ty #[.slice m n c]) (Ab.pure (v':=Eb c) ?_ (.int _ _));simp only[zW,tl _ _ j,ANI,EM,A7,Ah hE.T o,Ax,A9]
    ·rw[s]at h;cases h
   ·cases h
  ·cases h
 ·obtain⟨i,B,rfl,d,q⟩:=g.two;exact Ab.next (JF hE.T h d q)
 ·obtain⟨i,B,rfl,d,q⟩:=g.two;exact Ab.next (ZG hE.T h d q)
 ·obtain⟨i,rfl,d⟩:=g.one
  split at h
  ·rename_i v x;cases h;exact Ab.next (Po x d)
  ·cases h
 ·obtain⟨i,B,rfl,d,q⟩:=g.two;cases q
  split at h
  ·rename_i G C j;exact Ab.next (TF hE.T j h d)
  ·cases h
 ·cases y:args.all (Au 8)
  ·rw[y]at h;cases h
  ·rw[y,Ag]at h;have e:=P0 y g;subst e
   split at h
   ·rename_i v x;cases z:Au 8 v
    ·rw[z]at h;cases h
    ·rw[z,Ag]at h;cases h;refine⟨Ak _,λF=>⟨F,AFr.refl _ _⟩,λ_ _ _=>⟨.value v,v,ι,w,S3 P _ _ x w,.inl rfl,(Bk 8 v z).mono (λ_=>.inl) λ_ _=>rfl,Post.same (St.rng_self σ) rfl rfl rfl rfl rfl⟩⟩
   ·cases h
omit hE
theorem B9{v:AP AJ}{r:R}(h:CF σ v=AC (.val r)):∃u,v=AC u/\r=⟨u,σ,.nil⟩:=by
 unfold CF at h
 split at h
 ·cases h;exact⟨_,rfl,rfl⟩
 ·cases h
theorem Av{v:AP R}{r:R}(h:DV v=AC (.val r)):v=AC r:=by
 unfold DV at h
 split at h
 ·cases h;rfl
 ·cases h
theorem Qx{v:AP AJ}{f:BT}{a:AE AJ}:CF σ v≠AC (.enter f a):=by
 unfold CF;split<;>simp
theorem KJ{v:AP R}{f:BT}{a:AE AJ}:DV v≠AC (.enter f a):=by
 unfold DV;split<;>simp
theorem De.value{v v':AJ}{e:Sem Next}(h:e.run P w=.ok (.value v') w)(a:VR D ι v v'):De P D ι σ w e ⟨v,σ,.nil⟩:=
 ⟨Ak _,λb=>⟨b,AFr.refl _ _⟩,λ_ _ _=>⟨.value v',v',ι,w,h,.inl rfl,a.mono (λ_=>.inl) λ_ _=>rfl,Post.same (St.rng_self σ) rfl rfl rfl rfl rfl⟩⟩
theorem KK{c:Call}{f:Bp}{ty:AQ}{g:BT}{first captured:Aa AJ}(a:c.callee=.value f)(b:ρ f=.func (.func g) first captured)(w:AN):
  (do let d<-resolve ρ c ty;invoke d.target d.args:Sem Next).run P w=(FO g (first++c.args.map ρ++captured)).run P w:=by
 simp only[resolve,a,AJR,b,A7,A9,Ax,invoke]
theorem AR.catN{a b c:AE AJ}{g h f:Aa AJ}(k:AR D ι a.toArray g)(l:AR D ι b.toArray h)(m:AR D ι c.toArray f):AR D ι (a++b++c).toArray (g++h++f):=by
 have p:a.length=g.size:=by simpa using k.1
 have q:b.length=h.size:=by simpa using l.1
 have r:c.length=f.size:=by simpa using m.1
 refine⟨by simp;omega,λi v v' e d=> ?_⟩;simp only[ANI]at e;by_cases n:i<(a++b).length
 ·rw[EE n]at e;obtain⟨u,o,j⟩:=AR.append k l f i v e;rw[o]at d;cases d;exact j
 ·rw[Fw (by omega)]at e;rw[Array.getElem?_append_right (by simp at n⊢;omega)]at d;refine m.2 _ v v' (by simpa using e) ?_;rw[<-d];congr 1;simp;omega
include hE
theorem uJ{o:Oper}{r:R}(h:gN P E s σ o=AC (.val r))(_hok:r.σ.Ok)(j:∀x,x∈o.op.operands->gO E.G D ι s ρ x):De P D ι σ w (ME ρ o) r:=by
 have pv:∀(x:Bp) (r:R),CF σ (av E.G s x)=AC (.val r)->gO E.G D ι s ρ x->De P D ι σ w (Ck (.value (ρ x))) r:=by
  intro x r h hr;obtain⟨u,p,rfl⟩:=B9 h;exact De.value rfl (hr u p)
 unfold gN at h;unfold ME
 split at h
 ·rename_i x k;simp only[k,D1]at j⊢;exact pv x r h (j x (by simp))
 ·rename_i x k;simp only[k,D1]at j⊢;exact pv x r h (j x (by simp))
 ·rename_i c a b k;simp only[k,D1]at j⊢
  split at h
  ·rename_i A;have e:=j c (by simp) _ A;obtain⟨u,p,rfl⟩:=B9 h;refine De.value (v':=ρ a) ?_ (j a (by simp) u p);generalize ρ c=rc at e;cases e;simp only[A7,asBool,A9,Ax,ANH]
  ·rename_i A;have e:=j c (by simp) _ A;obtain⟨u,p,rfl⟩:=B9 h;refine De.value (v':=ρ b) ?_ (j b (by simp) u p);generalize ρ c=rc at e;cases e;simp only[A7,asBool,A9,Ax,CI,BR]
  ·cases h
 ·rename_i H k;simp only[k];exact Ab.next (XP hE.T (Av h))
 ·rename_i H x k;simp only[k,D1]at j⊢
  split at h
  ·rename_i v q;cases N:RX v
   ·rw[N]at h;cases h
   ·rw[N,Ag]at h;exact Ab.next (cn hE.T (Av h) (j x (by simp) v q) N)
  ·cases h
 ·rename_i t ps k;simp only[k,D1]at j⊢
  split at h
  ·rename_i l B;obtain⟨u,p,rfl⟩:=B9 h;have C:=R9 _ _ B λx z=>j x (by simpa using z)
   exact Ab.next (XY hE.T p (by simpa using C))
  ·cases h
 ·rename_i t n ps k;simp only[k,D1]at j⊢
  split at h
  ·rename_i l B;have C:=R9 _ _ B λx z=>j x (by simpa using z)
   exact Ab.next (N5 hE.T (Av h) (by simpa using C))
  ·cases h
 ·rename_i t a k;simp only[k,D1]at j⊢
  split at h
  ·rename_i v q;exact Ab.next (ZD hE.T (Av h) (j a (by simp) v q))
  ·cases h
 ·rename_i t a x k;simp only[k,D1]at j⊢
  split at h
  ·rename_i v u q p;exact Ab.nextU (XR hE.T (Av h) (j a (by simp) v q) (j x (by simp) u p))
  ·cases h
 ·rename_i x k;simp only[k,D1]at j⊢
  split at h
  ·rename_i a q;have e:=j x (by simp) _ q;obtain⟨u,p,rfl⟩:=B9 h;cases p;obtain⟨I,J⟩:=e.ptr_shape;rw[J]at e;exact De.value (v':=.pointer (AC I)) (by rw[J];rfl) e
  ·rename_i t v q;have e:=j x (by simp) _ q;obtain⟨u,p,rfl⟩:=B9 h;cases p;generalize ρ x=rx at e;cases e with|iface _ _ v' h=>exact De.value (v':=.iface t v') rfl (.iface _ _ _ h)
  ·rename_i f a b q;have e:=j x (by simp) _ q;obtain⟨u,p,rfl⟩:=B9 h;cases p;generalize ρ x=rx at e;cases e with|func _ _ I _ O Q S U V=>exact De.value (v':=.func (.func f) I O) rfl (.func _ _ _ _ _ Q S U V)
  ·cases h
 ·rename_i op t x y ty k;simp only[k,D1]at j⊢
  split at h
  ·rename_i a b W K;obtain⟨u,p,rfl⟩:=B9 h;exact Ab.next (dq hE p (j x (by simp) a W) (j y (by simp) b K))
  ·cases h
 ·rename_i op t x k;simp only[k,D1]at j⊢
  split at h
  ·rename_i b q
   split at h
   ·have e:=j x (by simp) _ q;obtain⟨u,p,rfl⟩:=B9 h;cases p;generalize ρ x=rx at e;cases e;exact De.value (v':=.bool (!b)) rfl (.bool _)
   ·cases h
  ·rename_i v hno q;obtain⟨u,p,rfl⟩:=B9 h;cases C:Au 8 v
   ·rw[C]at p;cases p
   ·rw[C,Ag]at p;have e:=GT 8 _ _ C (j x (by simp) v q);rw[e];exact Ab.next (Lj p)
  ·cases h
 ·rename_i src dst x k;simp only[k,D1]at j⊢
  split at h
  ·rename_i v q;exact Ab.next (Zx hE (Av h) (j x (by simp) v q))
  ·cases h
 ·rename_i t x k;simp only[k,D1]at j⊢
  split at h
  ·rename_i v d q hd;have L:(∀m,d≠ .interface m)/\CF σ (AC (.iface t v))=AC (.val r):=by
    split at h
    ·cases h
    ·rename_i hn;exact⟨λm e=>hn m e,h⟩
   obtain⟨u,p,rfl⟩:=B9 L.2;cases p;refine Ab.next (Ab.pure (v':=.iface t (ρ x)) ?_ (.iface _ _ _ (j x (by simp) v q)));simp only[Instr.makeInterface,A7,Ah hE.T hd,Ax]
   split
   ·rename_i m;exact Aq rfl (L.1 m)
   ·rfl
  ·cases h
 ·rename_i fn first captured k
  simp only[k,D1]at j⊢
  split at h
  ·rename_i l m B X;obtain⟨u,p,rfl⟩:=B9 h;cases p;have Y:=KG (ρ:=ρ) _ _ B λx z=>j x (by simp at z⊢;exact .inl z)
   have Z:=KG (ρ:=ρ) _ _ X λx z=>j x (by simp at z⊢;exact .inr z)
   have q1:(first.toList.map ρ).toArray=first.map ρ:=by apply Gr;simp
   have q2:(captured.toList.map ρ).toArray=captured.map ρ:=by apply Gr;simp
   rw[q1]at Y;rw[q2]at Z;exact Ab.next (Ab.pure (v':=.func fn (first.map ρ) (captured.map ρ)) rfl (.func _ _ _ _ _ Y.1 Z.1 Y.2 Z.2))
  ·cases h
 ·rename_i t l c k;simp only[k,D1]at j⊢
  split at h
  ·rename_i a b W K;exact Ab.next (Pm hE.T (Av h) (j l (by simp) a W) (j c (by simp) b K))
  ·cases h
 ·rename_i t x lo hi mx k;simp only[k,D1]at j⊢
  split at h
  ·rename_i v l h' m q B hh X;exact Ab.next (XW hE.T (Av h) (j x (by simp) v q) (KH B λy e=>j y (by subst e;simp)) (KH hh λy e=>j y (by subst e;simp)) (KH X λy e=>j y (by subst e;simp)))
  ·cases h
 ·rename_i t x f k;simp only[k,D1]at j⊢
  split at h
  ·rename_i v q;exact Ab.next (Ph hE.T (Av h) (j x (by simp) v q))
  ·cases h
 ·rename_i t x f k;simp only[k,D1]at j⊢
  split at h
  ·rename_i v q;obtain⟨u,p,rfl⟩:=B9 h;exact Ab.next (XT hE.T p (j x (by simp) v q))
  ·cases h
 ·rename_i t x i k;simp only[k,D1]at j⊢
  split at h
  ·rename_i v u q p;exact Ab.next (JS hE.T (Av h) (j x (by simp) v q) (j i (by simp) u p))
  ·cases h
 ·rename_i t x i k;simp only[k,D1]at j⊢
  split at h
  ·rename_i v u q p;obtain⟨u',hu',rfl⟩:=B9 h;exact Ab.next (XV hE.T hu' (j x (by simp) v q) (j i (by simp) u p))
  ·cases h
 ·rename_i t x k;simp only[k,D1]at j⊢
  split at h
  ·rename_i v q;exact Ab.next (XZ hE.T (Av h) (j x (by simp) v q))
  ·cases h
 ·rename_i it isS k;simp only[k,D1]at j⊢
  split at h
  ·rename_i v q;exact Ab.next (ZI (Av h) (j it (by simp) v q))
  ·cases h
 ·rename_i x i k;simp only[k,D1]at j⊢
  split at h
  ·rename_i v q;obtain⟨u,p,rfl⟩:=B9 h;exact Ab.next (S4 p (j x (by simp) v q))
  ·cases h
 ·rename_i c k;simp only[k,D1,bj]at j⊢
  split at h
  ·rename_i args F;have ea:=KG (ρ:=ρ) _ _ F λx z=>j x (by simp at z⊢;exact .inr z)
   have q1:(c.args.toList.map ρ).toArray=c.args.map ρ:=by apply Gr;simp
   rw[q1]at ea
   split at h
   ·rename_i b A;have K:=Tq hE (w:=w) (Av h) ea;have e:(do let d<-resolve ρ c o.type;invoke d.target d.args:Sem Next)=Um b c.argTypes o.type (c.args.map λ| .const _=>AD|_=>AK) (c.args.map ρ):=by
     simp only[resolve,A];rfl
    rw[e];exact K
   ·rename_i f A
    split at h
    ·rename_i g first captured hf
     split at h
     ·cases h
     ·obtain⟨u,p,rfl⟩:=B9 h;have ef:=j f (by simp[A]) _ hf;generalize hrf:ρ f=rf at ef;cases ef with
      |func _ _ I _ O Q S U V=>
       have M:AR D ι (first.toList++args++captured.toList).toArray (I++c.args.map ρ++O):=AR.catN ⟨by simpa using Q,by simpa using U⟩ ea ⟨by simpa using S,by simpa using V⟩;obtain⟨u',x1,x2⟩:=hE.ext _ _ _ p D ι _ w M;refine De.value (v':=u') ?_ x1;rw[KK A hrf];exact x2
    ·cases h
   ·cases h
  ·cases h
 ·cases h
theorem kR{o:Oper}{f:BT}{args:AE AJ}(h:gN P E s σ o=AC (.enter f args))(e:∀x,x∈o.op.operands->gO E.G D ι s ρ x):
  ∃a fn,AR D ι args.toArray a/\E.fn f=AC fn/\(ME ρ o).run P w=.ok (.enter f a) w:=by
 unfold gN at h;unfold ME;simp only[Bool.cond_eq_ite]at h
 split at h
 case h_25 c ho=>
  simp only[ho,D1,bj]at e⊢
  split at h
  ·rename_i as b;have j:=KG (ρ:=ρ) _ _ b λx k=>e x (by simp at k⊢;exact .inr k)
   have q1:(c.args.toList.map ρ).toArray=c.args.map ρ:=by apply Gr;simp
   rw[q1]at j
   split at h
   ·exact Aq h KJ
   ·rename_i g l
    split at h
    ·rename_i z first captured n
     split at h
     ·rename_i fn d;cases h;have m:=e g (by simp[l]) _ n;generalize i:ρ g=A at m;cases m with
      |func _ _ B _ C p q r t=>
       refine⟨_,fn,AR.catN ⟨by simpa using p,by simpa using r⟩ j ⟨by simpa using q,by simpa using t⟩,d,?_⟩;rw[KK l i];obtain⟨u,F,v⟩:=hE.fn _ _ d;have y:fn.body.isNone=false:=by cases H:fn.body<;>simp_all
       simp only[FO,A7,run_program,Ax,u,v,CI,BR,y,A9]
     ·exact Aq h Qx
    ·cases h
   ·cases h
  ·cases h
 all_goals (repeat' split at h)<;>first|exact Aq h Qx|exact Aq h KJ|cases h
