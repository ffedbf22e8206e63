/-
  The engine, part 6: an abstract evaluator over the model's code, proved sound. No condition.
-/
import Derived.Test.YtkgejlchafionaaGreatDoorEng5
open Array renaming all_toList->ya,ext'->Gr,getD_eq_getD_getElem?->O9,getElem?_eq_getElem->CX,getElem?_eq_none->Jt,getElem?_setIfInBounds_ne->FG,getElem?_toList->Bf,length_toList->D0,replicate->PA
open Bool renaming and_eq_true->A0,false->AK,false_eq_true->CI,not_eq_true'->Hr,or_eq_true->ED,true->AD
open ByteArray renaming ext->Kp
open Classical renaming em->rI
open Go renaming Act->CP,Deferred->rJ,Oper->Az,Program->Ao,Value->AJ,World->AN,undef->Bi,yielded->bR
open Go.Act renaming put->Hs
open Go.Oper renaming apart_spec->rK,looksAt->yb,wp->bS
open Go.Region renaming binds->L6,ready->iM,wanted->Wb
open Go.World renaming cell?->C0
open List renaming all_cons->L7,all_eq_true->C8,append_assoc->C9,append_nil->Ce,drop_drop->En,getD_eq_getElem?_getD->Bg,getElem?_append_left->EE,getElem?_cons_zero->EM,getElem?_drop->CA,getElem?_eq_getElem->B4,getElem?_eq_none->DA,getElem?_take->CB,getElem?_toArray->ANI,length_append->BA,length_drop->CC,length_take->Bw,mem_append->CH,mem_append_left->Du,mem_append_right->C3,mem_cons->Dv,mem_cons_of_mem->GC,mem_cons_self->PB,mem_filter->Uf,mem_map_of_mem->Wd,mem_singleton->Cn,nodup_append->I0,nodup_cons->rL
open Nat renaming add_zero->FK,beq->Af,ble->B8,blt->Cq,eq_of_beq_eq_true->Br,le_refl->Ak,le_trans->Ea,lor->yc,lt_or_ge->Cf,lt_trichotomy->L9,not_lt_zero->Hi,testBit_or->yd,zero_le->Cx
open Option renaming getD_some->Ue,isSome_none->Df,map_some->Ib,none->AF,some->AC
open Option.some renaming inj->Dw,injEq->BJ
open Prod.mk renaming injEq->Ct
open _root_ renaming Array->Aa,Bool->AH,List->AE,Nat->AB,Option->AP,absurd->Aq,beq_iff_eq->Be,cond_false->BZ,cond_true->Ag,congrArg->BQ,if_false->BR,if_neg->AY,if_pos->Ae,if_true->ANH
section
noncomputable section
noncomputable section
namespace Go.Eng
open Go
def OT.dflt:(t:OT)->t.Den
 | .d t=>t.dflt
 | .vec t _=>([]:AE t.Den)
 | .unit=>()
 | .pair a b=>(a.dflt,b.dflt)
 | .ptr a _=>a.dflt
 | .con _=>()
def CQ:(t:OT)->t.Den->St->AE AJ×St
 | .d t,x,σ=>Gm (gM t x) σ
 | .vec t e,c,σ=>([dt σ.next],σ.new (.vec t c e))
 | .unit,_,σ=>([],σ)
 | .pair a b,x,σ=>match CQ a x.1 σ with
   |(vs,σ1)=>match CQ b x.2 σ1 with
    |(us,σ2)=>(vs++us,σ2)
 | .ptr a e,x,σ=>match CQ a x σ with
   |(vs,σ1)=>([.pointer (AC ⟨σ1.next,0,AF⟩)],σ1.new (.row vs e AK))
 | .con vs,_,σ=>(vs,σ)
def AFY:AE AJ->AJ
 |v::_=>v
 |[]=>Bi
def JC:(rs:AE OT)->DX rs->St->AE AJ×St
 |[],_,σ=>([],σ)
 |r::rs,y,σ=>match CQ r y.1 σ with
  |(vs,σ1)=>match JC rs y.2 σ1 with
   |(a,σ2)=>((bif r.agg then .agg vs.toArray else AFY vs)::a,σ2)
structure MatA(σ σ':St):Prop where
 le:σ.next<=σ'.next
 pc:σ'.pc=σ.pc
 old:∀id,¬σ.rng σ' id->σ'.heap.get id=σ.heap.get id
theorem MatA.refl(σ:St):MatA σ σ:=⟨Ak _,rfl,λ_ _=>rfl⟩
theorem MatA.trans{σ σ1 σ2:St}(a:MatA σ σ1)(b:MatA σ1 σ2):MatA σ σ2:=
 ⟨Ea a.le b.le,b.pc.trans a.pc,λid h=>by
  have h1:=a.le;have d:=b.le;rw[b.old id λc=>h ⟨by have:=c.1;omega,c.2⟩,a.old id λc=>h ⟨c.1,by have:=c.2;omega⟩]⟩
theorem MatA.new(σ:St)(o:AO):MatA σ (σ.new o):=
 ⟨by simp[St.new],rfl,λid h=>by
  have:id≠σ.next:=λe=>h (by subst e;simp[St.rng,St.new])
  simp only[St.new,Tr.set_get,AY this]⟩
theorem MatA.wf{σ σ':St}(a:MatA σ σ')(h:σ.wf):σ'.wf:=λid hid=>by
 have:=a.le;rw[a.old id λb=>by have:=b.2;omega];exact h id (by omega)
theorem Sa:∀(l:AE DC) (σ:St),MatA σ (Gm l σ).2
 |[],σ=>.refl σ
 | .v x::r,σ=>by simp only[Gm];exact Sa r σ
 | .s t a::r,σ=>by simp only[Gm];exact(MatA.new σ _).trans (Sa r _)
 | .e b::r,σ=>by simp only[Gm];exact Sa r σ
 | .k x::r,σ=>by simp only[Gm];exact Sa r σ
 | .j::r,σ=>by simp only[Gm];exact Sa r σ
theorem PV:∀(t:OT) (x:t.Den) (σ:St),MatA σ (CQ t x σ).2:=by
 intro t
 induction t with
 |d t=>intro x σ;exact Sa _ _
 |vec t e=>intro x σ;exact .new _ _
 |unit=>intro x σ;exact .refl _
 |pair a b c f=>intro x σ;exact(c x.1 σ).trans (f x.2 _)
 |ptr a e g=>intro x σ;exact(g x σ).trans (.new _ _)
 |con vs=>intro x σ;exact .refl _
theorem Sb:∀(rs:AE OT) (y:DX rs) (σ:St),MatA σ (JC rs y σ).2
 |[],_,_=>.refl _
 |r::rs,y,σ=>(PV r y.1 σ).trans (Sb rs y.2 _)
section
variable {P:Ao} {w:AN} {fz:AB->AP (Aa AJ)}
structure MatP(P:Ao)(w:AN)(fz:AB->AP (Aa AJ))(own:AE AB)(D:AB->Prop)(ι:AB->Reg)(σ σ':St)(ι':AB->Reg):Prop where
 a:MatA σ σ'
 io:∀id,¬σ.rng σ' id->ι' id=ι id
 new:∀id,σ.rng σ' id->∃o,σ'.heap.get id=AC o/\BI P ι' id w o.hd/\∀k v,Fs (AC o) k=AC v->Cl (λi=>D i\/σ.rng σ' i) ι' id w k v
 own:∀id,σ.rng σ' id->∀b,(ι' id).Own b->b∈own
 dist:∀i j,σ.rng σ' i->σ.rng σ' j->i≠j->∀b,(ι' i).Own b->¬(ι' j).Own b
 fz:∀id,σ.rng σ' id->∀b c,(ι' id).fz b=AC c->fz b=AC c
theorem BI.as{ι ι0:AB->Reg}{k c:AB}{x:Hd}(h:BI P ι k w x)(e:ι0 c=ι k):BI P ι0 c w x:=by
 cases x<;>simp only[BI,e]at h⊢ <;>exact h
theorem Cl.into{D D':AB->Prop}{ι ι':AB->Reg}{id k:AB}{v:AJ}(h:Cl D ι id w k v)(b:ι' id=ι id)(c:∀i,D i->D' i)(a:∀i,D i->ι' i=ι i):Cl D' ι' id w k v:=by
 obtain⟨h1,v',d,e⟩:=h;exact⟨by rw[b];exact h1,v',by rw[b];exact d,e.mono c a⟩
theorem MatP.refl{D:AB->Prop}{ι:AB->Reg}{σ:St}:MatP P w fz [] D ι σ σ ι:=
 ⟨.refl σ,λ_ _=>rfl,λid h=>Aq h (St.rng_self σ id),λid h=>Aq h (St.rng_self σ id),λi _ h=>Aq h (St.rng_self σ i),λid h=>Aq h (St.rng_self σ id)⟩
theorem MatP.trans{D:AB->Prop}{ι ι1 ι2:AB->Reg}{σ σ1 σ2:St}{r s:AE AB}(C:∀id,σ.rng σ2 id->¬D id)(p:MatP P w fz r D ι σ σ1 ι1)(q:MatP P w fz s (λi=>D i\/σ.rng σ1 i) ι1 σ1 σ2 ι2)(z:∀b,b∈r->b∉s):
  MatP P w fz (r++s) D ι σ σ2 ι2:=by
 have h1:=p.a.le;have F:=q.a.le;have split:∀id,σ.rng σ2 id->(σ.rng σ1 id/\¬σ1.rng σ2 id)\/σ1.rng σ2 id:=λid e=>by
  simp only[St.rng]at e⊢;omega
 have m:∀i,(D i\/σ.rng σ1 i)\/σ1.rng σ2 i->D i\/σ.rng σ2 i:=λi hi=>by
  simp only[St.rng]at hi⊢;rcases hi with(hi|hi)|hi
  ·exact .inl hi
  ·exact .inr (by omega)
  ·exact .inr (by omega)
 refine⟨p.a.trans q.a,λid e=> ?_,λid e=> ?_,λid e b d=> ?_,λi j hi E n b d f=> ?_,λid e b c d=> ?_⟩
 ·rw[q.io id λh=>e (by simp only[St.rng]at h⊢;omega),p.io id λh=>e (by simp only[St.rng]at h⊢;omega)]
 ·rcases split id e with⟨g1,l⟩|g
  ·obtain⟨o,t,u,x⟩:=p.new id g1;refine⟨o,by rw[q.a.old id l];exact t,u.as (q.io id l),λk v y=>(x k v y).into (q.io id l) (λi hi=>m i (.inl hi)) λi hi=>q.io i λe=> ?_⟩;rcases hi with hi|hi
   ·exact C i (by simp only[St.rng]at e⊢;omega) hi
   ·simp only[St.rng]at e hi;omega
  ·obtain⟨o,t,u,x⟩:=q.new id g;exact⟨o,t,u,λk v y=>(x k v y).into rfl (λi hi=>m i hi) λ_ _=>rfl⟩
 ·rcases split id e with⟨g1,l⟩|g
  ·rw[q.io id l]at d;exact Du _ (p.own id g1 b d)
  ·exact C3 _ (q.own id g b d)
 ·rcases split i hi with⟨g1,l⟩|g<;>rcases split j E with⟨A,B⟩|k
  ·rw[q.io i l]at d;rw[q.io j B]at f;exact p.dist i j g1 A n b d f
  ·rw[q.io i l]at d;exact z b (p.own i g1 b d) (q.own j k b f)
  ·rw[q.io j B]at f;exact z b (p.own j A b f) (q.own i g b d)
  ·exact q.dist i j g k n b d f
 ·rcases split id e with⟨g1,l⟩|g
  ·rw[q.io id l]at d;exact p.fz id g1 b c d
  ·exact q.fz id g b c d
theorem MatP.of_mat{D:AB->Prop}{ι ι':AB->Reg}{σ σ':St}(h:DK fz w)(l:MatA σ σ')(m:MatOK fz ι σ σ' ι'):MatP P w fz [] D ι σ σ' ι':=by
 refine⟨l,m.io,λid d=> ?_,λid d b a=> ?_,λi j d _ _ b a=> ?_,λid d b c a=> ?_⟩
 ·obtain⟨f,g,u,g1,e,g3⟩:=m.new id d;exact⟨_,g1,⟨by rw[g3];exact e,by rw[g3];rfl,by rw[g3];rfl,by rw[g3];exact h⟩,λk v n=>by cases n⟩
 ·obtain⟨f,g,u,g1,e,g3⟩:=m.new id d;rw[g3]at a;cases a.1
 ·obtain⟨f,g,u,g1,e,g3⟩:=m.new i d;rw[g3]at a;cases a.1
 ·obtain⟨f,g,u,g1,e,g3⟩:=m.new id d;rw[g3]at a;exact a
theorem MatP.one{D:AB->Prop}{ι:AB->Reg}{σ:St}{o:AO}{r:Reg}(h:BI P (λ_=>r) 0 w o.hd)(l:∀k v,Fs (AC o) k=AC v->Cl D (FR ι σ.next r) σ.next w k v)(m:∀b c,r.fz b=AC c->fz b=AC c):MatP P w fz (bif r.own then [r.blk]else []) D ι σ (σ.new o) (FR ι σ.next r):=by
 have a:∀id,σ.rng (σ.new o) id↔id=σ.next:=λid=>by simp only[St.rng,St.new];omega
 refine⟨.new σ o,λid d=>FS _ _ λe=>d ((a id).2 e),λid d=> ?_,λid d b f=> ?_,λi j n p g=> ?_,λid d b c f=> ?_⟩
 ·obtain rfl:=(a id).1 d;exact⟨o,by simp[St.new,Tr.set_get],h.as (by rw[Am]),λk v q=>(l k v q).into rfl (λ_=>.inl) λ_ _=>rfl⟩
 ·obtain rfl:=(a id).1 d;rw[Am]at f;rw[f.1,Ag,f.2];exact Cn.2 rfl
 ·exact Aq (((a i).1 n).trans ((a j).1 p).symm) g
 ·obtain rfl:=(a id).1 d;rw[Am]at f;exact m b c f
theorem XC(Q:DK fz w):∀(t:OT) (x:t.Den) (us:AE AJ) (own:AE AB) (D:AB->Prop) (ι:AB->Reg) (σ:St),b9 P w fz t x us own->own.Nodup->(∀id,σ.rng (CQ t x σ).2 id->¬D id)->
  ∃ι',MatP P w fz own D ι σ (CQ t x σ).2 ι'/\(CQ t x σ).1.length=us.length/\∀(k:AB) v u,(CQ t x σ).1[k]?=AC v->us[k]?=AC u->VR (λi=>D i\/σ.rng (CQ t x σ).2 i) ι' v u:=by
 intro t
 induction t with
 |d t=>
  intro x us own D ι σ f _ _;obtain⟨rfl,f⟩:=f;obtain⟨R,S,T⟩:=Lh t x us f;obtain⟨ι',A,C,G⟩:=GQ (gM t x) us D ι σ (Gm (gM t x) σ).2 (Gm (gM t x) σ).1 rfl (S.trans R.symm) T;exact⟨ι',.of_mat Q (Sa _ _) A,C,G⟩
 |vec t e=>
  intro x us own D ι σ f _ _;obtain⟨r,rfl,rfl,E,U⟩:=f;refine⟨_,.one E (λk v y=>by cases y) U,rfl,λk v u g j=> ?_⟩;have n:∃q l c,r.sv=.slice q l c:=by
   obtain⟨_,_,h⟩:=E;rcases h with⟨_,_,q,h⟩|⟨_,_,cap,c,fr,h,_⟩
   ·exact⟨_,_,_,h⟩
   ·exact⟨_,_,_,h⟩
  obtain⟨q,l,c,n⟩:=n;rcases k with _|k
  ·simp only[CQ,EM,BJ]at g j;subst g j;rw[n];exact .dat _ _ _ _ (.inr (by simp[St.rng,St.new,CQ])) (by rw[Am];exact n)
  ·simp at j
 |unit=>
  intro x us own D ι σ f _ _;obtain⟨rfl,rfl⟩:=f;exact⟨ι,.refl,rfl,λk v u g=>by simp[CQ]at g⟩
 |pair a b J K=>
  intro x us own D ι σ f F m;obtain⟨c1,c2,L,V,rfl,rfl,h1,O⟩:=f;rw[I0]at F;obtain⟨W,X,Y⟩:=F;have Z:=(PV a x.1 σ).le;have l2:=(PV b x.2 (CQ a x.1 σ).2).le;have m:∀id,σ.rng (CQ b x.2 (CQ a x.1 σ).2).2 id->¬D id:=m;obtain⟨ι1,A,C,G⟩:=J x.1 c1 L D ι σ h1 W λid f=>m id (by simp only[St.rng]at f⊢;omega)
  have o:∀id,(CQ a x.1 σ).2.rng (CQ b x.2 (CQ a x.1 σ).2).2 id->¬(D id\/σ.rng (CQ a x.1 σ).2 id):=λid f hid=>by
   rcases hid with hid|hid
   ·exact m id (by simp only[St.rng]at f⊢;omega) hid
   ·simp only[St.rng]at f hid;omega
  obtain⟨ι2,M,k2,k3⟩:=K x.2 c2 V _ ι1 (CQ a x.1 σ).2 O X o;refine⟨ι2,A.trans m M λb H p=>Y b H b p rfl,by simp only[CQ,BA,C,k2],λk v u g j=> ?_⟩;have up:∀i,(D i\/σ.rng (CQ a x.1 σ).2 i)\/(CQ a x.1 σ).2.rng (CQ b x.2 (CQ a x.1 σ).2).2 i->D i\/σ.rng (CQ (.pair a b) x σ).2 i:=λi hi=>by
   have h1:=A.a.le;have O:=M.a.le;show D i\/σ.rng (CQ b x.2 (CQ a x.1 σ).2).2 i;simp only[St.rng]at hi⊢;rcases hi with(hi|hi)|hi
   ·exact .inl hi
   ·exact .inr (by omega)
   ·exact .inr (by omega)
  simp only[CQ]at g;by_cases y:k<c1.length
  ·rw[EE (by omega)]at g j;exact(G k v u g j).mono (λi hi=>up i (.inl hi)) λi hi=>M.io i λf=>o i f hi
  ·rw[List.getElem?_append_right (by omega)]at g j;rw[C]at g;exact(k3 _ v u g j).mono (λi hi=>up i hi) λ_ _=>rfl
 |ptr a e ih=>
  intro x us own D ι σ f F m;obtain⟨r,s,L,rfl,rfl,E,B,f⟩:=f;rw[rL]at F;have Z:=(PV a x σ).le;have m:∀id,σ.rng ((CQ a x σ).2.new (.row (CQ a x σ).1 e AK)) id->¬D id:=m;obtain⟨ι1,A,C,G⟩:=ih x s L D ι σ f F.2 λid f=>m id (by simp only[St.rng,St.new]at f⊢;omega)
  have o:∀id,D id\/σ.rng (CQ a x σ).2 id->id≠(CQ a x σ).2.next:=λid hid e=>by
   rcases hid with hid|hid
   ·exact m id (by simp only[St.rng,St.new];omega) hid
   ·simp only[St.rng]at hid;omega
  have z:r.own=true:=by obtain⟨_,_,_,_,_,_,⟨h,_⟩,_⟩:=E;exact h
  have N:∀b c,r.fz b=AC c->fz b=AC c:=λb c h=>by
   obtain⟨_,_,_,_,_,_,⟨_,h'⟩,_⟩:=E;exact Aq ⟨c,h⟩ (h' b)
  have one:MatP P w fz (bif r.own then [r.blk]else []) (λi=>D i\/σ.rng (CQ a x σ).2 i) ι1 (CQ a x σ).2 ((CQ a x σ).2.new (.row (CQ a x σ).1 e AK)) (FR ι1 (CQ a x σ).2.next r):=by
   refine .one (by simpa only[AO.hd,C]using E) (λk v y=> ?_) N;have y:(CQ a x σ).1[k]?=AC v:=y;have I:k<s.length:=by
    rcases Cf k s.length with h|h
    ·exact h
    ·rw[DA (by omega)]at y;cases y
   refine⟨by rw[Am];exact z,s[k],by rw[Am];exact B k _ (B4 I),?_⟩;exact(G k v _ y (B4 I)).mono (λ_ h=>h) λi hi=>FS _ _ (o i hi)
  rw[z,Ag]at one;have all:=A.trans m one λb H p=>F.1 (by rw[Cn]at p;subst p;exact H)
  refine⟨_,⟨all.a,all.io,all.new,λid f b H=> ?_,all.dist,all.fz⟩,rfl,λk v u g j=> ?_⟩
  ·have:=all.own id f b H;rcases CH.1 this with h|h
   ·exact GC _ h
   ·rw[Cn]at h;subst h;exact PB ..
  ·rcases k with _|k
   ·simp only[CQ,EM,BJ]at g j;subst g j;have:=VR.ptr (D:=λi=>D i\/σ.rng ((CQ a x σ).2.new (.row (CQ a x σ).1 e AK)) i) (ι:=FR ι1 (CQ a x σ).2.next r) (CQ a x σ).2.next 0 (.inr (by have:=A.a.le;simp only[St.rng,St.new];omega));rw[Am,FK]at this
    exact this
   ·simp at j
 |con vs=>
  intro x us own D ι σ f _ _;obtain⟨rfl,rfl,hp⟩:=f;refine⟨ι,.refl,rfl,λk v u g j=> ?_⟩;have g:us[k]?=AC v:=g;rw[g]at j;cases j;exact Bk 2 v (C8.1 hp v (List.mem_of_getElem? g))
theorem b9.len:∀(t:OT) (x:t.Den) (us:AE AJ) (own:AE AB),b9 P w fz t x us own->us.length=t.sz:=by
 intro t
 induction t with
 |d t=>intro x us own ⟨_,g⟩;exact(Lh t x us g).1
 |vec t e=>intro x us own ⟨r,h,_⟩;rw[h];rfl
 |unit=>intro x us own ⟨h,_⟩;rw[h];rfl
 |pair a b c f=>intro x us own ⟨c1,c2,i,l,e,_,h1,j⟩;rw[e,BA,c _ _ _ h1,f _ _ _ j];rfl
 |ptr a e m=>intro x us own ⟨r,k,i,h,_⟩;rw[h];rfl
 |con vs=>intro x us own ⟨_,h,_⟩;rw[h];rfl
theorem XD(A:DK fz w):∀(rs:AE OT) (y:DX rs) (us:AE AJ) (own:AE AB) (D:AB->Prop) (ι:AB->Reg) (σ:St),UC P w fz rs y us own->own.Nodup->(∀id,σ.rng (JC rs y σ).2 id->¬D id)->
  ∃ι',MatP P w fz own D ι σ (JC rs y σ).2 ι'/\LR (λi=>D i\/σ.rng (JC rs y σ).2 i) ι' (JC rs y σ).1 us
 |[],y,us,own,D,ι,σ,d,_,_=>by
  obtain⟨rfl,rfl⟩:=d;exact⟨ι,.refl,.nil⟩
 |r::rs,y,us,own,D,ι,σ,d,B,j=>by
  obtain⟨v,f,C,G,rfl,rfl,h1,n⟩:=d;rw[I0]at B;obtain⟨H,I,J⟩:=B;obtain⟨c,K,o⟩:∃c:AE AJ,((r.agg=AD/\v=.agg c.toArray)\/(r.agg=AK/\c=[v]))/\b9 P w fz r y.1 c C:=by
   rcases h1 with⟨e,L,rfl,g⟩|⟨e,g⟩
   ·exact⟨L.toList,.inl ⟨e,rfl⟩,g⟩
   ·exact⟨[v],.inr ⟨e,rfl⟩,g⟩
  have Q:=(PV r y.1 σ).le;have R:=(Sb rs y.2 (CQ r y.1 σ).2).le;have j:∀id,σ.rng (JC rs y.2 (CQ r y.1 σ).2).2 id->¬D id:=j;obtain⟨ι1,E,p,M⟩:=XC A r y.1 c C D ι σ o H λid d=>j id (by simp only[St.rng]at d⊢;omega)
  have m:∀id,(CQ r y.1 σ).2.rng (JC rs y.2 (CQ r y.1 σ).2).2 id->¬(D id\/σ.rng (CQ r y.1 σ).2 id):=λid d hid=>by
   rcases hid with hid|hid
   ·exact j id (by simp only[St.rng]at d⊢;omega) hid
   ·simp only[St.rng]at d hid;omega
  obtain⟨ι2,q,F⟩:=XD A rs y.2 f G _ ι1 (CQ r y.1 σ).2 n I m;have up:∀i,(D i\/σ.rng (CQ r y.1 σ).2 i)\/(CQ r y.1 σ).2.rng (JC rs y.2 (CQ r y.1 σ).2).2 i->D i\/σ.rng (JC (r::rs) y σ).2 i:=λi hi=>by
   have h1:=E.a.le;have n:=q.a.le;show D i\/σ.rng (JC rs y.2 (CQ r y.1 σ).2).2 i;simp only[St.rng]at hi⊢;rcases hi with(hi|hi)|hi
   ·exact .inl hi
   ·exact .inr (by omega)
   ·exact .inr (by omega)
  refine⟨ι2,E.trans j q λb N s=>J b N b s rfl,.cons ?_ ?_⟩
  ·have t:∀(k:AB) a u,(CQ r y.1 σ).1[k]?=AC a->c[k]?=AC u->VR (λi=>D i\/σ.rng (JC (r::rs) y σ).2 i) ι2 a u:=λk a u x z=>
    (M k a u x z).mono (λi hi=>up i (.inl hi)) λi hi=>q.io i λd=>m i d hi
   rcases K with⟨e,rfl⟩|⟨e,rfl⟩
   ·rw[e,Ag];refine .agg _ _ (by simpa using p) λi a u x z=>t i a u (by simpa using x) (by simpa using z)
   ·rw[e,BZ];generalize (CQ r y.1 σ).1=l at p t;cases l with
    |nil=>simp at p
    |cons a l=>exact t 0 a v rfl rfl
  ·show LR _ _ (JC rs y.2 (CQ r y.1 σ).2).1 f;clear n;generalize (JC rs y.2 (CQ r y.1 σ).2).1=l at F
   induction F with
   |nil=>exact .nil
   |cons h _ O=>exact .cons (h.mono (λi hi=>up i hi) λ_ _=>rfl) O
end
end Go.Eng
end
end
end
section
noncomputable section
noncomputable section
namespace Go.Eng
open Go
structure CO(α:Type) where
 x:α
 r:AE AJ
 i:AE AB
 g:AE AB
 f:AE AB
 p:AE AH
def jM:AJ->AJ->AH
 | .bool a,.bool b=>a==b
 | .int k n,.int c d=>(k==c)&&(n==d)
 |_,_=>AK
def cN:AE AJ->AE AJ->AH
 |[],[]=>AD
 |a::as,b::bs=>bif jM a b then cN as bs else AK
 |_,_=>AK
theorem tD{a b:AJ}(h:jM a b=AD):a=b:=by
 cases a<;>cases b<;>first|(simp only[jM]at h;cases h;done)|skip
 ·simp only[jM,Be]at h;rw[h]
 ·simp only[jM,A0,Be]at h;rw[h.1,h.2]
theorem fR:∀{a b:AE AJ},cN a b=AD->a=b
 |[],[],_=>rfl
 |a::as,b::bs,h=>by
  simp only[cN]at h;cases c:jM a b
  ·rw[c]at h;cases h
  ·rw[c,Ag]at h;rw[tD c,fR h]
 |[],_::_,h=>by cases h
 |_::_,[],h=>by cases h
def LL(σ:St):(t:OT)->AE AJ->AP (CO t.Den)
 | .d t,c=>match Bq σ t c with
   |some ⟨x,r,i,f,p⟩=>AC ⟨x,r,i,[],f,p⟩
   |none=>AF
 | .vec t e,c=>match c with
   |v::r=>match fq σ t e v with
    |some (l,gs)=>AC ⟨l,r,[],gs,[],[]⟩
    |none=>AF
   |[]=>AF
 | .unit,c=>AC ⟨(),c,[],[],[],[]⟩
 | .pair a b,c=>match LL σ a c with
   |some ⟨x,r,i,g,f,p⟩=>match LL σ b r with
    |some ⟨y,m,j,h,k,q⟩=>AC ⟨(x,y),m,i++j,g++h,f++k,p++q⟩
    |none=>AF
   |none=>AF
 | .ptr a e,c=>match c with
   |v::r=>match v with
    | .pointer (AC ⟨id,0,AF⟩)=>match σ.heap.get id with
      |some (.row us n AK)=>bif Af n e then match LL σ a us with
       |some ⟨x,[],i,g,f,p⟩=>AC ⟨x,r,i,id::g,f,p⟩
       |_=>AF
       else AF
      |_=>AF
    |_=>AF
   |[]=>AF
 | .con vs,c=>bif cN vs (c.take vs.length)&&vs.all (Au 2)then AC ⟨(),c.drop vs.length,[],[],[],[]⟩else AF
def Yv(σ:St):(rs:AE OT)->AE AJ->AP (CO (DX rs))
 |[],[]=>AC ⟨(),[],[],[],[],[]⟩
 |t::ts,v::vs=>match(bif t.agg then(match v with| .agg a=>AC a.toList|_=>AF)else AC [v])with
  |some a=>match LL σ t a with
   |some ⟨x,[],i,g,f,p⟩=>match Yv σ ts vs with
    |some ⟨y,_,j,h,k,q⟩=>AC ⟨(x,y),[],i++j,g++h,f++k,p++q⟩
    |none=>AF
   |_=>AF
  |none=>AF
 |_,_=>AF
def Ca(ι:AB->Reg)(l:AE AB):AE AB:=l.flatMap λid=>bif (ι id).own then [(ι id).blk]else []
theorem GL{ι:AB->Reg}{l:AE AB}{b:AB}:b∈Ca ι l↔∃id,id∈l/\(ι id).Own b:=by
 simp only[Ca,List.mem_flatMap];constructor
 ·rintro⟨id,h1,a⟩;cases c:(ι id).own
  ·rw[c]at a;cases a
  ·rw[c,Ag,Cn]at a;exact⟨id,h1,c,a.symm⟩
 ·rintro⟨id,h1,c,a⟩;exact⟨id,h1,by rw[c,Ag,Cn];exact a.symm⟩
theorem DQ{ι:AB->Reg}(l m:AE AB):Ca ι (l++m)=Ca ι l++Ca ι m:=by simp[Ca]
theorem LM{ι:AB->Reg}(id:AB):Ca ι [id]=bif (ι id).own then [(ι id).blk]else []:=by simp[Ca]
theorem NB{ι:AB->Reg}:∀{l:AE AB},l.Nodup->(∀i j,i∈l->j∈l->i≠j->∀b,(ι i).Own b->¬(ι j).Own b)->(Ca ι l).Nodup
 |[],_,_=>by simp[Ca]
 |a::l,f,hd=>by
  rw[rL]at f;have g:=NB f.2 λi j c d=>hd i j (GC _ c) (GC _ d)
  have:Ca ι (a::l)=Ca ι [a]++Ca ι l:=DQ [a] l;rw[this,I0];refine⟨?_,g,λx h y k e=> ?_⟩
  ·rw[LM];cases(ι a).own<;>simp
  ·subst e;obtain⟨i,c,h1⟩:=GL.1 h;obtain⟨j,d,m⟩:=GL.1 k;rw[Cn]at c;subst c;exact hd i j (PB ..) (GC _ d) (λe=>f.1 (e▸d)) x h1 m
section
variable {P:Ao} {D:AB->Prop} {ι:AB->Reg} {σ:St} {w:AN} {fzX:AB->AP (Aa AJ)} {is gs fs:AE AB}
theorem Yw:∀{vs us:AE AJ},vs.all (Au 2)=AD->LR D ι vs us->us=vs
 |_,_,_,.nil=>rfl
 |_,_,h,.cons a b=>by
  rw[L7,A0]at h;rw[GT 2 _ _ h.1 a,Yw h.2 b]
theorem XE(T:∀b c,JT ι is fs w b=AC c->fzX b=AC c)(U:∀id,id∈gs->DK (ι id).fz w->∀b c,(ι id).fz b=AC c->fzX b=AC c)(hd:∀id,id∈is\/id∈gs\/id∈fs->∀x,σ.H.hdr id=AC x->BI P ι id w x)(L:∀id,id∈gs\/id∈fs->∀k v,Lv σ.H id->σ.H.cell id k=AC v->Cl D ι id w k v):
  ∀(t:OT) (o us:AE AJ) (c:CO t.Den),LL σ t o=AC c->(∀id,id∈c.i->id∈is)->(∀id,id∈c.g->id∈gs)->(∀id,id∈c.f->id∈fs)->FZ c.p->LR D ι o us->
   ∃y E,us=y++E/\b9 P w fzX t c.x y (Ca ι c.g)/\LR D ι c.r E:=by
 intro t
 induction t with
 |d t=>
  intro o us c h z A F K n;simp only[LL]at h
  split at h
  ·rename_i x r i f p h1;cases h;obtain⟨y,E,rfl,M,N⟩:=G0 (is:=is) (gs:=fs) (λid hid=>hd id (hid.imp_right .inr)) (λid hid=>L id (.inr hid)) t o us ⟨x,r,i,f,p⟩ h1 z F K n;exact⟨y,E,rfl,⟨rfl,Cw.mono T _ _ _ M⟩,N⟩
  ·cases h
 |vec t e=>
  intro o us c h z A F K n;cases n with
  |nil=>simp[LL]at h
  |cons V S=>
   simp only[LL]at h
   split at h
   ·rename_i xs gs' h1;cases h;rcases Vq h1 V with⟨rfl,rfl,rfl⟩|⟨id,q,l,cp,rfl,W,rfl,X⟩
    ·exact⟨[_],_,rfl,⟨⟨0,0,0,t.sz,AK,λ_=>AF,.slice AF 0 0⟩,rfl,rfl,⟨rfl,λb c h=>(by cases h),.inl ⟨rfl,rfl,AF,rfl⟩⟩,λb c h=>(by cases h)⟩,S⟩
    ·have O:=A id (by simp);have Q:=hd id (.inr (.inl O)) _ (St.hdr_of W);exact⟨[_],_,rfl,⟨ι id,by rw[X],LM id,BI.as (ι0:=λ_=>ι id) Q rfl,U id O Q.2.1⟩,S⟩
   ·cases h
 |unit=>
  intro o us c h _ _ _ _ n;simp only[LL,BJ]at h;subst h;exact⟨[],us,rfl,⟨rfl,rfl⟩,n⟩
 |pair a b Y Z=>
  intro o us c h z A F K n;simp only[LL]at h
  split at h
  ·rename_i x1 r1 i1 g1 f1 p1 h1
   split at h
   ·rename_i x2 r2 i2 g2 f2 p2 W;cases h;obtain⟨q1,q2⟩:=Ci K;obtain⟨y,E,rfl,M,N⟩:=Y o us ⟨x1,r1,i1,g1,f1,p1⟩ h1 (λid h=>z id (Du _ h)) (λid h=>A id (Du _ h)) (λid h=>F id (Du _ h)) q1 n;obtain⟨v1,v2,rfl,k3,k4⟩:=Z r1 E ⟨x2,r2,i2,g2,f2,p2⟩ W (λid h=>z id (C3 _ h)) (λid h=>A id (C3 _ h)) (λid h=>F id (C3 _ h)) q2 N
    exact⟨y++v1,v2,by simp,⟨y,v1,_,_,rfl,DQ _ _,M,k3⟩,k4⟩
   ·cases h
  ·cases h
 |ptr a e ih=>
  intro o us c h z A F K n;cases n with
  |nil=>simp[LL]at h
  |cons V S=>
   simp only[LL]at h
   split at h
   ·rename_i id;obtain⟨rfl,hD⟩:=V.ptr_inv
    split at h
    ·rename_i j e' H3;cases m:Af e' e
     ·rw[m]at h;cases h
     rw[m,Ag]at h;have m:=Br m;subst m
     split at h
     ·rename_i x i g f p h1;cases h;have O:id∈gs:=A id (by simp);have Q:=hd id (.inr (.inl O)) _ (St.hdr_of H3);have hh2:=Q;obtain⟨G,el,fr,e1,e2,e3,⟨e4,e5⟩,e6⟩:=hh2;have e3:j.length<=(ι id).room:=e3;have B:((G.toList.drop (ι id).base).take j.length).length=j.length:=by
       simp only[Bw,CC,D0];omega
      have I:∀k,k<j.length->∃u,G.toList[(ι id).base+k]?=AC u/\∃v,j[k]?=AC v/\VR D ι v u:=by
       intro k C;obtain⟨_,u,s,J⟩:=L id (.inl O) k j[k] (St.lv_of H3) (by rw[St.cell_of H3];exact B4 C);simp only[C0,e1,Df,CI,BR]at s;exact⟨u,by rw[Bf];exact s,j[k],B4 C,J⟩
      have hlr:LR D ι j ((G.toList.drop (ι id).base).take j.length):=by
       refine LR.of_AR ⟨by simpa using B.symm,λi a b ha m=> ?_⟩;simp only[ANI]at ha m;rw[CB]at m
       split at m
       ·rename_i z;obtain⟨u,s,v,hv',J⟩:=I i z;rw[CA,s]at m;rw[hv']at ha;cases ha;cases m;exact J
       ·cases m
      obtain⟨y,E,s,M,N⟩:=ih j _ ⟨x,[],i,g,f,p⟩ h1 z (λid h=>A id (GC _ h)) F K hlr;cases N;rw[Ce]at s;refine⟨[_],_,rfl,⟨ι id,y,Ca ι g,by rw[FK],?_,?_,λk u C=> ?_,M⟩,S⟩
      ·show Ca ι (id::g)=_;rw[show Ca ι (id::g)=Ca ι [id]++Ca ι g from DQ [id] g,LM,e4];rfl
      ·rw[<-s,B];exact BI.as (ι0:=λ_=>ι id) Q rfl
      ·rw[<-s,CB]at C
       split at C
       ·rw[CA,Bf]at C;simp only[C0,e1,Df,CI,BR];exact C
       ·cases C
     ·cases h
    ·cases h
   ·cases h
 |con vs=>
  intro o us c h _ _ _ _ n;simp only[LL]at h;cases m:(cN vs (o.take vs.length)&&vs.all (Au 2))
  ·rw[m]at h;cases h
  rw[m,Ag]at h;rw[A0]at m;cases h;have he:=fR m.1;have R:=LR.take vs.length n;rw[<-he]at R;have s:us.take vs.length=vs:=Yw m.2 R;exact⟨vs,us.drop vs.length,(List.take_append_drop vs.length us).symm.trans (by rw[s]),⟨rfl,rfl,m.2⟩,LR.drop _ n⟩
theorem XF(e:∀b c,JT ι is fs w b=AC c->fzX b=AC c)(l:∀id,id∈gs->DK (ι id).fz w->∀b c,(ι id).fz b=AC c->fzX b=AC c)(hd:∀id,id∈is\/id∈gs\/id∈fs->∀x,σ.H.hdr id=AC x->BI P ι id w x)(m:∀id,id∈gs\/id∈fs->∀k v,Lv σ.H id->σ.H.cell id k=AC v->Cl D ι id w k v):
  ∀(rs:AE OT) (vs us:AE AJ) (c:CO (DX rs)),Yv σ rs vs=AC c->(∀id,id∈c.i->id∈is)->(∀id,id∈c.g->id∈gs)->(∀id,id∈c.f->id∈fs)->FZ c.p->LR D ι vs us->UC P w fzX rs c.x us (Ca ι c.g)
 |[],vs,us,c,h,_,_,_,_,z=>by
  cases z with
  |nil=>simp only[Yv,BJ]at h;subst h;exact⟨rfl,rfl⟩
  |cons _ _=>simp[Yv]at h
 |t::ts,vs,us,c,h,A,B,C,L,z=>by
  cases z with
  |nil=>simp[Yv]at h
  |cons F M=>
   rename_i v u vs us;simp only[Yv]at h
   split at h
   ·rename_i V a
    split at h
    ·rename_i G I g1 f1 J h1
     split at h
     ·rename_i y r j N f2 q O;cases h;obtain⟨q1,Q⟩:=Ci L;have n:=XF e l hd m ts vs us ⟨y,r,j,N,f2,q⟩ O (λid h=>A id (C3 _ h)) (λid h=>B id (C3 _ h)) (λid h=>C id (C3 _ h)) Q M;have K:=XE e l hd m t
      refine⟨u,us,_,_,rfl,DQ _ _,?_,n⟩;cases d:t.agg
      ·rw[d]at a;cases a;obtain⟨R,S,o,s,E⟩:=K [v] [u] ⟨G,[],I,g1,f1,J⟩ h1 (λid h=>A id (Du _ h)) (λid h=>B id (Du _ h)) (λid h=>C id (Du _ h)) q1 (.cons F .nil);cases E;rw[Ce]at o;rw[<-o]at s;exact .inr ⟨rfl,s⟩
      ·rw[d,Ag]at a
       split at a
       ·rename_i as;cases a;cases F with
        |agg _ bs T U=>
         obtain⟨R,S,o,s,E⟩:=K as.toList bs.toList ⟨G,[],I,g1,f1,J⟩ h1 (λid h=>A id (Du _ h)) (λid h=>B id (Du _ h)) (λid h=>C id (Du _ h)) q1 (LR.of_AR ⟨by simpa using T,by simpa using U⟩);cases E;rw[Ce]at o;rw[<-o]at s
         exact .inl ⟨rfl,bs,rfl,s⟩
       ·cases a
     ·cases h
    ·cases h
   ·cases h
end
section
variable {P:Ao} {w:AN} {fz:AB->AP (Aa AJ)}
theorem b9.lt:∀(t:OT) (x:t.Den) (us:AE AJ) (own:AE AB),b9 P w fz t x us own->∀b,b∈own->b<w.heap.size:=by
 intro t
 induction t with
 |d t=>intro x us own ⟨h,_⟩ b c;rw[h]at c;cases c
 |vec t e=>
  intro x us own ⟨r,_,h,f,_⟩ b c;rw[h]at c;cases g:r.own
  ·rw[g]at c;cases c
  ·rw[g,Ag,Cn]at c;subst c;exact f.lt (.inl ⟨g,rfl⟩)
 |unit=>intro x us own ⟨_,h⟩ b c;rw[h]at c;cases c
 |pair a b i j=>
  intro x us own ⟨c1,c2,k,o,_,e,h1,l⟩ b c;rw[e]at c;exact(CH.1 c).elim (i _ _ _ h1 b) (j _ _ _ l b)
 |ptr a e m=>
  intro x us own ⟨r,n,k,_,h,f,_,h1⟩ b c;rw[h]at c;rcases Dv.1 c with rfl|c
  ·exact f.lt (.inl f.own_row)
  ·exact m _ _ _ h1 b c
 |con vs=>intro x us own ⟨h,_⟩ b c;rw[h]at c;cases c
theorem UC.lt:∀(rs:AE OT) (y:DX rs) (us:AE AJ) (own:AE AB),UC P w fz rs y us own->∀b,b∈own->b<w.heap.size
 |[],y,us,own,⟨_,h⟩,b,a=>by rw[h]at a;cases a
 |r::rs,y,us,own,⟨v,c,f,g,_,e,h1,d⟩,b,a=>by
  rw[e]at a;rcases CH.1 a with a|a
  ·rcases h1 with⟨_,i,_,h⟩|⟨_,h⟩
   ·exact b9.lt _ _ _ _ h b a
   ·exact b9.lt _ _ _ _ h b a
  ·exact UC.lt rs _ _ _ d b a
end
def XG(rb:AH)(t:OT)(x:t.Den)(σ:St):AE AJ×St:=bif rb then CQ t x σ else([],σ)
def GM(σ:St)(rid:AE AB)(vs:AE AJ)(e:TypeId):St:=match rid with
 |[k]=>σ.put k (AC (.row vs e AK))
 |_=>σ
section
variable {P:Ao} {D:AB->Prop} {ι ι':AB->Reg} {σ σ2:St} {w w':AN} {rid gs rh:AE AB} {vs:AE AJ} {e:TypeId}
theorem H4:(GM σ2 rid vs e).next=σ2.next:=by unfold GM;split<;>rfl
theorem tE:(GM σ2 rid vs e).pc=σ2.pc:=by unfold GM;split<;>rfl
theorem fS(h:∃k,rid=[k]){id:AB}(hid:id∈rid):(GM σ2 rid vs e).heap.get id=AC (.row vs e AK):=by
 obtain⟨k,rfl⟩:=h;rw[Cn]at hid;subst hid;simp only[GM,St.put,Tr.set_get,ANH]
theorem JN{id:AB}(hid:id∉rid):(GM σ2 rid vs e).heap.get id=σ2.heap.get id:=by
 unfold GM
 split
 ·simp only[St.put,Tr.set_get];rw[AY (by simpa using hid)]
 ·rfl
theorem mF(g:σ.wf)(c:MatA (σ.puts gs) σ2)(_:rid=[]\/∃k,rid=[k])(d:∀id,id∈rid->Lv σ.H id){φ:Foot}(h1:∀id,id∈rid++gs->id∈φ.wh):(GM σ2 rid vs e).wf/\AFr σ (GM σ2 rid vs e) φ:=by
 have i:σ.next<=σ2.next:=by have:=c.le;rwa[St.puts_next]at this
 have b:∀id,¬σ.rng (GM σ2 rid vs e) id->id∉rid->id∉gs->(GM σ2 rid vs e).heap.get id=σ.heap.get id:=λid h j l=>by
  rw[JN j,c.old id λm=>h (by simpa only[St.rng,H4,St.puts_next]using m),St.puts_get,AY l]
 refine⟨λid hid=> ?_,λid f a=> ?_,λid k f a=> ?_,λh=> ?_⟩
 ·rw[H4]at hid;have:id∉rid:=λh=>by have:=St.lv_lt g (d id h);omega
  rw[JN this];exact c.wf (St.puts_wf g gs) id hid
 ·have a:id∉φ.wh:=a;simp only[St.H];rw[b id f (λh=>a (h1 id (Du _ h))) λh=>a (h1 id (C3 _ h))]
 ·have a:id∉φ.wh:=λh=>a (.inr h)
  simp only[St.H];rw[b id f (λh=>a (h1 id (Du _ h))) λh=>a (h1 id (C3 _ h))]
 ·unfold St.Ok at h⊢;rwa[tE,c.pc,St.puts_pc]at h
theorem tF{rc:AE (AB×AB)}{A:AB->AP (Aa AJ)}{q:AE AB}(K:σ.wf)(m:MatP P w' A q D ι (σ.puts gs) σ2 ι')(B:rid=[]\/∃k,rid=[k])(l:∀k,k∈rid->(∃F T,σ.heap.get k=AC (.row F T AK))/\k∉gs/\BI P ι' k w' (.row vs.length e AK)/\∀(j:AB) v,vs[j]?=AC v->Cl (λi=>D i\/(σ.puts gs).rng σ2 i) ι' k w' j v)(L:∀id,id∈gs->Wr σ.H id)(hs:w.heap.size<=w'.heap.size)(M:w'.os=w.os)(G:w'.output=w.output)(hc:∀b,b<w.heap.size->(∀id,id∈rid++gs->Wr σ.H id->¬(ι id).Own b)->w'.heap[b]?=w.heap[b]?)(ho:∀b,b∈q->(w.heap.size<=b/\b<w'.heap.size)\/∃k,k∈gs/\Wr σ.H k/\(ι k).Own b)(hf:∀b c,A b=AC c->(w.heap.size<=b/\b<w'.heap.size)\/(∃k,k∈gs/\Wr σ.H k/\(ι k).Own b)\/∃k,(k∈rh\/k∈gs)/\Lv σ.H k/\(ι k).Fz b)(hd:∀b,b∈q->A b=AF):Post P D (σ.rng (GM σ2 rid vs e)) ι σ.H w ⟨rc,rh,[],rid++gs⟩ ι' (GM σ2 rid vs e).H w':=by
 have hle:σ.next<=σ2.next:=by have:=m.a.le;rwa[St.puts_next]at this
 have d:∀id,σ.rng (GM σ2 rid vs e) id↔(σ.puts gs).rng σ2 id:=λid=>by simp only[St.rng,H4,St.puts_next]
 have C:∀id,id∈rid++gs->Wr σ.H id:=λid h=>(CH.1 h).elim (λh=>by
  obtain⟨⟨F,T,h1⟩,_⟩:=l id h;exact⟨_,St.hdr_of h1,rfl⟩) (L id)
 have n:∀id,id∈rid++gs->¬σ.rng (GM σ2 rid vs e) id:=λid h B=>by
  have:=St.lv_lt K (C id h).lv;have:=B.1;omega
 have N:∀id,σ.rng (GM σ2 rid vs e) id->id∉rid:=λid h I=>n id (Du _ I) h
 have r:∀id,¬σ.rng (GM σ2 rid vs e) id->id∉rid->id∉gs->(GM σ2 rid vs e).heap.get id=σ.heap.get id:=λid h I h3=>by
  rw[JN I,m.a.old id λB=>h ((d id).2 B),St.puts_get,AY h3]
 have f:∀id,id∈gs->id∉rid->(GM σ2 rid vs e).heap.get id=none:=λid h I=>by
  rw[JN I,m.a.old id λB=>n id (C3 _ h) ((d id).2 B),St.puts_get,Ae h]
 have u:∀id,id∈rid->∃k,rid=[k]:=λid h=>B.elim (λe=>by rw[e]at h;cases h) λh=>h
 have O:(λi=>D i\/σ.rng (GM σ2 rid vs e) i)=λi=>D i\/(σ.puts gs).rng σ2 i:=by
  funext i;exact propext (or_congr_right (d i))
 have s:∀k,k∈gs->¬Lv (GM σ2 rid vs e).H k:=λk U ⟨y,V⟩=>by
  have:k∉rid:=λh=>(l k h).2.1 U
  simp only[St.H,f k U this]at V;cases V
 exact {
  io:=λid g=>m.io id λh=>g ((d id).2 h)
  size:=hs
  os:=M
  out:=G
  hdr:=λid x hx p=>by
   by_cases h1:id∈rid
   ·simp only[St.H,fS (u id h1) h1,Ib,BJ]at p;subst p;exact(l id h1).2.2.1
   ·rcases hx with hx|hx
    ·have hx:id∈gs:=(CH.1 (show id∈rid++gs from hx)).resolve_left h1;simp only[St.H,f id hx h1]at p;cases p
    ·obtain⟨o,Q,W,X⟩:=m.new id ((d id).1 hx);simp only[St.H,JN h1,Q,Ib,BJ]at p;subst p;exact W
  cel:=λid k v hx _ p=>by
   rw[O];by_cases h1:id∈rid
   ·simp only[St.H,fS (u id h1) h1,Fs]at p;exact(l id h1).2.2.2 k v p
   ·rcases hx with(hx|hx)|hx
    ·cases hx
    ·have hx:id∈gs:=(CH.1 (show id∈rid++gs from hx)).resolve_left h1;simp only[St.H,f id hx h1,Fs]at p;cases p
    ·obtain⟨o,Q,W,X⟩:=m.new id ((d id).1 hx);simp only[St.H,JN h1,Q]at p;exact X k v p
  ahdr:=λid g hx=>by
   have hx:id∉rid++gs:=hx;simp only[CH,not_or]at hx;simp only[St.H,r id g hx.1 hx.2]
  acel:=λid k g hx=>by
   have hx:id∉rid++gs:=λh=>hx (.inr h)
   simp only[CH,not_or]at hx;simp only[St.H,r id g hx.1 hx.2]
  cfr:=λb z hx=>by rw[hc b z λid h=>hx id h];exact CR.refl _ _
  fresh:=λid g _ b z=>by
   rcases ho b (m.own id ((d id).1 g) b z)with h|⟨k,t,E,J⟩
   ·exact .inl h
   ·exact .inr ⟨k,C3 _ t,n k (C3 _ t),E,s k t,J⟩
  freshF:=λid g _ b ⟨c,z⟩=>by
   rcases hf b c (m.fz id ((d id).1 g) b c z)with h|⟨k,t,E,J⟩|⟨k,t,E,J⟩
   ·exact .inl h
   ·exact .inr (.inl ⟨k,C3 _ t,n k (C3 _ t),E,s k t,J⟩)
   ·refine .inr (.inr ⟨k,?_,λh=> ?_,E,J⟩)
    ·exact t.elim (λh=>.inr (.inl h)) λh=>.inr (.inr (.inr (C3 _ h)))
    ·have:=St.lv_lt K E;have:=h.1;omega
  dist:=λi j Y Z _ _ R b z=>⟨m.dist i j ((d i).1 Y) ((d j).1 Z) R b z,λ⟨c,S⟩=>by
   have h1:=hd b (m.own i ((d i).1 Y) b z);rw[m.fz j ((d j).1 Z) b c S]at h1;cases h1⟩
  nl:=λid g=>St.hdr_none K id g.1
  wl:=λid k hx _=>by
   rcases hx with hx|hx
   ·cases hx
   ·exact(C id hx).lv
  wrm:=λid g hx=>by
   by_cases h1:id∈rid++gs
   ·exact C id h1
   ·simp only[CH,not_or]at h1;exact hx.of_hdr (by simp only[St.H,r id g h1.1 h1.2])
  wrow:=λid k hx g=>by
   rcases hx with hx|hx
   ·cases hx
   ·exact Aq hx g}
end
def sY:AJ->AJ->AH
 | .int k n,.int c d=>(k==c)&&(n==d)
 | .string a,.string b=>ZJ a.data.toList b.data.toList
 | .tuple a,.tuple b=>match a.toList,b.toList with
   |[.chan (AC 3),.bool x],[.chan (AC 3),.bool y]=>x==y
   |[.chan (AC 4),.int k n],[.chan (AC 4),.int c d]=>(k==c)&&(n==d)
   |_,_=>AK
 |_,_=>AK
theorem AA3{a b:AJ}(h:sY a b=AD):a=b:=by
 cases a<;>cases b<;>first|(simp only[sY]at h;cases h;done)|skip
 ·simp only[sY,A0,Be]at h;rw[h.1,h.2]
 ·simp only[sY,Xa,Be]at h;congr 1;apply Kp;exact Gr h
 ·rename_i a b;simp only[sY]at h
  split at h
  ·rename_i x y h1 c;rw[Be]at h;subst h;congr 1;exact Gr (h1.trans c.symm)
  ·rename_i k n d e h1 c;simp only[A0,Be]at h;obtain⟨rfl,rfl⟩:=h;congr 1;exact Gr (h1.trans c.symm)
  ·cases h
def cO:AE AJ->AE AJ->AH
 |[],[]=>AD
 |a::as,b::bs=>bif sY a b then cO as bs else AK
 |_,_=>AK
theorem XH:∀{a b:AE AJ},cO a b=AD->a=b
 |[],[],_=>rfl
 |a::as,b::bs,h=>by
  simp only[cO]at h;cases c:sY a b
  ·rw[c]at h;cases h
  ·rw[c,Ag]at h;rw[AA3 c,XH h]
 |[],_::_,h=>by cases h
 |_::_,[],h=>by cases h
def NC(σ:St):AE (AB×AE AJ)->AH
 |[]=>AD
 |p::a=>match σ.heap.get p.1 with
  |some (.row b _ _)=>bif cO b p.2 then NC σ a else AK
  |_=>AK
theorem JO{σ:St}:∀{gl:AE (AB×AE AJ)},NC σ gl=AD->∀p,p∈gl->∃e b,σ.heap.get p.1=AC (.row p.2 e b)
 |[],_,p,a=>by cases a
 |q::g,h,p,a=>by
  simp only[NC]at h
  split at h
  ·rename_i d e b f;cases c:cO d q.2
   ·rw[c]at h;cases h
   ·rw[c,Ag]at h;rcases Dv.1 a with rfl|a
    ·exact⟨e,b,by rw[f,XH c]⟩
    ·exact JO h p a
  ·cases h
def ND:AE AB->AH
 |[]=>AD
 |a::l=>bif ZQ a l then AK else ND l
theorem LN:∀{l:AE AB},ND l=AD->l.Nodup
 |[],_=>.nil
 |a::l,h=>by
  simp only[ND]at h;cases b:ZQ a l
  ·rw[b,BZ]at h;exact rL.2 ⟨MV b,LN h⟩
  ·rw[b]at h;cases h
def fT(σ:St)(S:OSpec)(v:AJ):AP (CO S.root.Den×AB):=
 match v with
 | .pointer (AC ⟨id,0,AF⟩)=>match σ.heap.get id with
   |some (.row a e AK)=>bif Af e S.re then match LL σ S.root a with
    |some ⟨x,[],i,g,f,p⟩=>AC (⟨x,[],i,g,f,p⟩,id)
    |_=>AF
    else AF
   |_=>AF
 |_=>AF
def mG(σ:St)(S:OSpec)(args:AE AJ):AP (CO S.root.Den×AE AB×AE AJ):=
 bif S.rb then match YC S.ri args with
  |some (v,a)=>match fT σ S v with
   |some (c,id)=>AC (c,[id],a)
   |none=>AF
  |none=>AF
 else AC (⟨S.root.dflt,[],[],[],[],[]⟩,[],args)
def Rl(E:Env)(S:OSpec)(args:AE AJ)(σ:St):AP (AJ×St×Foot):=
 match mG σ S args with
 |some (c,rid,a)=>match Yv σ S.ts a with
  |some d=>bif NC σ E.gl&&ND (rid++((c.g++d.g)++(c.f++d.f)))&&Me σ ((c.g++d.g)++(c.f++d.f))&&Fp σ (c.i++d.i)&& !HA (E.gl.map (·.1)) (rid++((c.g++d.g)++(c.f++d.f)))then
    match XG S.rb S.root (S.g c.x d.x).1 (σ.puts ((c.g++d.g)++(c.f++d.f)))with
    |(vs,σ1)=>match JC S.rs (S.g c.x d.x).2 σ1 with
     |(b,σ2)=>AC (Er b,(GM σ2 rid vs S.re).assumes (S.pre c.x d.x::(c.p++d.p)),⟨[],(c.i++d.i)++E.gl.map (·.1),[],rid++((c.g++d.g)++(c.f++d.f))⟩)
   else AF
  |none=>AF
 |none=>AF
section
variable {P:Ao} {E:Env} (hE:E.OK P)
theorem Sc{σ:St}{S:OSpec}{v:AJ}{c:CO S.root.Den}{id:AB}(h:fT σ S v=AC (c,id)):
  ∃b,v=.pointer (AC ⟨id,0,AF⟩)/\σ.heap.get id=AC (.row b S.re AK)/\LL σ S.root b=AC c/\c.r=[]:=by
 unfold fT at h
 split at h
 ·rename_i d
  split at h
  ·rename_i b e j;cases a:Af e S.re
   ·rw[a]at h;cases h
   rw[a,Ag]at h;have a:=Br a;subst a
   split at h
   ·rename_i x i g f p k;simp only[BJ,Ct]at h;obtain⟨rfl,rfl⟩:=h;exact⟨b,rfl,j,k,rfl⟩
   ·cases h
  ·cases h
 ·cases h
theorem cP{σ:St}{S:OSpec}{args a:AE AJ}{c:CO S.root.Den}{rid:AE AB}(h:mG σ S args=AC (c,rid,a)):
  (S.rb=AD/\∃id b,YC S.ri args=AC (.pointer (AC ⟨id,0,AF⟩),a)/\rid=[id]/\σ.heap.get id=AC (.row b S.re AK)/\LL σ S.root b=AC c/\c.r=[])\/(S.rb=AK/\args=a/\rid=[]/\c=⟨S.root.dflt,[],[],[],[],[]⟩):=by
 unfold mG at h;cases e:S.rb
 ·rw[e,BZ]at h;simp only[BJ,Ct]at h;obtain⟨rfl,rfl,rfl⟩:=h;exact .inr ⟨rfl,rfl,rfl,rfl⟩
 ·rw[e,Ag]at h
  split at h
  ·rename_i v d f
   split at h
   ·rename_i l id g;simp only[BJ,Ct]at h;obtain⟨rfl,rfl,rfl⟩:=h;obtain⟨b,rfl,i,j,k⟩:=Sc g;exact .inl ⟨rfl,id,b,f,rfl,i,j,k⟩
   ·cases h
  ·cases h
theorem XI{D:AB->Prop}{ι:AB->Reg}:∀{k:AB} {args us a:AE AJ} {v:AJ},YC k args=AC (v,a)->LR D ι args us->∃u b,us=EI k [u] b/\VR D ι v u/\LR D ι a b
 |0,_,_,a,v,h,c=>by
  cases c with
  |nil=>simp[YC]at h
  |cons d e=>
   simp only[YC,BJ,Ct]at h;obtain⟨rfl,rfl⟩:=h;exact⟨_,_,rfl,d,e⟩
 |k+1,_,_,a,v,h,c=>by
  cases c with
  |nil=>simp[YC]at h
  |cons d e=>
   simp only[YC]at h
   split at h
   ·rename_i u j f;simp only[BJ,Ct]at h;obtain⟨rfl,rfl⟩:=h;obtain⟨g,b,rfl,h1,i⟩:=XI f e;exact⟨g,_,(kr k _ _ _).symm,h1,.cons d i⟩
   ·cases h
theorem tG{ι:AB->Reg}{w:AN}{is gs a d:AE AB}(h1:∀id,id∈is->id∈a)(j:∀id,id∈gs->id∈d)(b:AB)(c:Aa AJ)(h:JT ι is gs w b=AC c):JT ι a d w b=AC c:=by
 have f:=JG h;obtain⟨e,fr,k⟩:=ANK b c h;unfold JT;rw[Ae,k];exact f.imp (λ⟨id,g,i⟩=>⟨id,h1 id g,i⟩) λ⟨id,g,i⟩=>⟨id,j id g,i⟩
theorem Sd{D:AB->Prop}{ι:AB->Reg}{a us:AE AJ}(h:LR D ι a us):VR D ι (Er a) (Er us):=by
 cases h with
 |nil=>exact .tuple _ _ rfl (by simp)
 |cons h t=>
  cases t with
  |nil=>exact h
  |cons b t=>
   obtain⟨c,a2⟩:=LR.AR (.cons h (.cons b t));exact .tuple _ _ c a2
theorem Jz{σ:St}:∀(a:AE AH),(σ.assumes a).next=σ.next/\(σ.assumes a).H=σ.H
 |[]=>⟨rfl,rfl⟩
 |_::a=>Jz a
include hE
theorem U2(hgl:∀{σ:St},NC σ E.gl=AD->∀{D:AB->Prop} {ι:AB->Reg} {w:AN} {φ:Foot},GI E D ι->(∀p,p∈E.gl->p.1∈φ.rh)->HOn P D ι σ.H φ w->NP E.gl w){S:OSpec}{f:FuncId}(hS:E.osp f=AC S){args:AE AJ}{σ σ':St}{v:AJ}{φ:Foot}(h:Rl E S args σ=AC (v,σ',φ)):
  σ.next<=σ'.next/\(σ.wf->σ'.wf/\AFr σ σ' φ)/\
  (σ'.Ok->∀(D:AB->Prop) (ι:AB->Reg) (w:AN) (n:Aa AJ),σ.wf->GI E D ι->(∀id,σ.rng σ' id->¬D id)->AR D ι args.toArray n->HOn P D ι σ.H φ w->
   Calls P f n w λe w'=>∃v' ι',e=.returned v'/\VR (λi=>D i\/σ.rng σ' i) ι' v v'/\Post P D (σ.rng σ') ι σ.H w φ ι' σ'.H w'):=by
 unfold Rl at h
 split at h
 ·rename_i c rid rest hroot
  split at h
  ·rename_i d hres;cases l:(NC σ E.gl&&ND (rid++((c.g++d.g)++(c.f++d.f)))&&Me σ ((c.g++d.g)++(c.f++d.f))&&Fp σ (c.i++d.i)&& !HA (E.gl.map (·.1)) (rid++((c.g++d.g)++(c.f++d.f))))
   ·rw[l]at h;cases h
   rw[l,Ag]at h;simp only[A0,Hr]at l;obtain⟨⟨⟨⟨b1,b2⟩,L⟩,b4⟩,b5⟩:=l;have b5:=F4 b5;have b2:=LN b2;have L:=F3 L;have b4:=Ey b4;obtain⟨rfl,rfl,rfl⟩:v=Er (JC S.rs (S.g c.x d.x).2 (XG S.rb S.root (S.g c.x d.x).1 (σ.puts ((c.g++d.g)++(c.f++d.f)))).2).1/\
     σ'=(GM (JC S.rs (S.g c.x d.x).2 (XG S.rb S.root (S.g c.x d.x).1 (σ.puts ((c.g++d.g)++(c.f++d.f)))).2).2 rid (XG S.rb S.root (S.g c.x d.x).1 (σ.puts ((c.g++d.g)++(c.f++d.f)))).1 S.re).assumes (S.pre c.x d.x::(c.p++d.p))/\
     φ=⟨[],(c.i++d.i)++E.gl.map (·.1),[],rid++((c.g++d.g)++(c.f++d.f))⟩:=by
    simp only[BJ,Ct]at h;exact⟨h.1.symm,h.2.1.symm,h.2.2.symm⟩
   clear h;have B:=cP hroot;have hr:rid=[]\/∃k,rid=[k]:=by
    rcases B with⟨_,id,M,_,h,_⟩|⟨_,_,h,_⟩
    ·exact .inr ⟨id,h⟩
    ·exact .inl h
   have hrw:∀id,id∈rid->∃cs0 e0,σ.heap.get id=AC (.row cs0 e0 AK):=λid hid=>by
    rcases B with⟨_,id',M,_,rfl,h,_⟩|⟨_,_,rfl,_⟩
    ·rw[Cn]at hid;subst hid;exact⟨_,_,h⟩
    ·cases hid
   have C:∀id,id∈rid->Wr σ.H id:=λid hid=>by
    obtain⟨M,e,h⟩:=hrw id hid;exact⟨_,St.hdr_of h,rfl⟩
   generalize hG:(c.g++d.g)++(c.f++d.f)=G at b2 L b5⊢;have hA1:MatA (σ.puts G) (XG S.rb S.root (S.g c.x d.x).1 (σ.puts G)).2:=by
    unfold XG;cases S.rb
    ·exact .refl _
    ·exact PV _ _ _
   have hA:=hA1.trans (Sb S.rs (S.g c.x d.x).2 _);generalize hm1:XG S.rb S.root (S.g c.x d.x).1 (σ.puts G)=s at hA1 hA⊢;generalize X:JC S.rs (S.g c.x d.x).2 s.2=O at hA⊢;obtain⟨q1,q2⟩:=Jz (σ:=GM O.2 rid s.1 S.re) (S.pre c.x d.x::(c.p++d.p));have hle:σ.next<=O.2.next:=by have:=hA.le;rwa[St.puts_next]at this
   have habs:B6 σ ⟨Er O.1,GM O.2 rid s.1 S.re,⟨[],(c.i++d.i)++E.gl.map (·.1),[],rid++G⟩⟩:=⟨by rw[H4];exact hle,λhw=>mF hw hA hr (λid h=>(C id h).lv) λid h=>h⟩
   refine⟨(B6.assumes _ habs).1,(B6.assumes _ habs).2,?_⟩;intro hok D ι w n hwf hGI Q ha Y;obtain⟨⟨hpre,hps⟩, -⟩:=(Cs _ _).1 hok;obtain⟨hp1,hp2⟩:=Ci hps;have Q:∀id,σ.rng O.2 id->¬D id:=λid F=>Q id (by simp only[St.rng,q1,H4]at F⊢;exact F)
   have hgW:NP E.gl w:=hgl b1 hGI (λp hp=>C3 _ (Wd hp)) Y;have hlr:LR D ι args n.toList:=LR.of_AR (by simpa using ha);have N:∀id,id∈c.i++d.i\/id∈rid++G->(⟨[],(c.i++d.i)++E.gl.map (·.1),[],rid++G⟩:Foot).Fi id:=λid h=>h.elim (λh=>.inr (.inl (Du _ h))) λh=>.inr (.inr (.inr h))
   have hFc:∀id k,id∈rid++G->(⟨[],(c.i++d.i)++E.gl.map (·.1),[],rid++G⟩:Foot).Fc id k:=λid k h=>.inr (.inr (.inr h))
   have z:∀id,id∈c.g++d.g->id∈G:=λid h=>by rw[<-hG];exact Du _ h
   have A:∀id,id∈c.f++d.f->id∈G:=λid h=>by rw[<-hG];exact C3 _ h
   have hX1:∀b R,JT ι (c.i++d.i) (c.f++d.f) w b=AC R->JT ι ((c.i++d.i)++(c.g++d.g)) (c.f++d.f) w b=AC R:=tG (λid h=>Du _ h) λ_ h=>h
   have hX2:∀id,id∈c.g++d.g->DK (ι id).fz w->∀b R,(ι id).fz b=AC R->JT ι ((c.i++d.i)++(c.g++d.g)) (c.f++d.f) w b=AC R:=λid hid hz b R l=>dB (.inl (C3 _ hid)) hz b R l
   have hd':∀id,id∈c.i++d.i\/id∈c.g++d.g\/id∈c.f++d.f->∀x,σ.H.hdr id=AC x->BI P ι id w x:=λid hid x hx=>
    Y.hd id x (N id (hid.imp_right λh=>C3 _ (h.elim (z id) (A id)))) hx
   have hce':∀id,id∈c.g++d.g\/id∈c.f++d.f->∀k v,Lv σ.H id->σ.H.cell id k=AC v->Cl D ι id w k v:=λid hid k v hl Z=>
    Y.ce id k v (hFc id k (C3 _ (hid.elim (z id) (A id)))) hl Z
   have T:∀i j,i∈rid++G->(j∈c.i++d.i\/j∈rid++G)->i≠j->∀b,(ι i).Own b->¬(ι j).Own b/\¬(ι j).Fz b:=λi j hi hj hij b l=>
    Y.inj i j (N i (.inr hi)) (N j hj) ((CH.1 hi).elim (C i) (L i)) (hj.elim (λh=>b4 j h) λh=>((CH.1 h).elim (C j) (L j)).lv) hij b l
   have hself:∀i,i∈rid++G->∀b,(ι i).Own b->¬(ι i).Fz b:=λi hi b l=>by
    obtain⟨y,hy,_⟩:=(CH.1 hi).elim (C i) (L i);exact(Y.hd i y (N i (.inr hi)) hy).self l
   obtain⟨r,o,hargs,hroV,hroB,hRt,hLr2,hRid⟩:∃(r:Reg) (o:AE AJ),n=(EI S.ri (kq S.rb r) o).toArray/\(∀id,id∈rid->ι id=r)/\Iw S.rb r=Ca ι rid/\
     (S.rb=AD->UB P w (JT ι ((c.i++d.i)++(c.g++d.g)) (c.f++d.f) w) r S.root S.re c.x (Ca ι c.g))/\LR D ι rest o/\(S.rb=AK->c.g=[]/\rid=[]):=by
    rcases B with⟨l,id,M,hob0,rfl,hg,hob,hcr⟩|⟨l,rfl,rfl,rfl⟩
    ·generalize hus:n.toList=us0 at hlr;obtain⟨u,us,rfl,Z,ht⟩:=XI hob0 hlr;obtain⟨rfl,hDi⟩:=Z.ptr_inv
     ·have htrivial:=trivial;have hh:=Y.hd id _ (N id (.inr (Du _ (by simp)))) (St.hdr_of hg);have hh2:=hh;obtain⟨arr,el,fr,e1,e2,e3,⟨e4,e5⟩,e6⟩:=hh2;have e3:M.length<=(ι id).room:=e3;have hlen:((arr.toList.drop (ι id).base).take M.length).length=M.length:=by
       simp only[Bw,CC,D0];omega
      have hcell:∀k,k<M.length->∃u,arr.toList[(ι id).base+k]?=AC u/\∃v,M[k]?=AC v/\VR D ι v u:=by
       intro k I;obtain⟨_,u,hu,hvu⟩:=Y.ce id k M[k] (hFc id k (Du _ (by simp))) (St.lv_of hg) (by rw[St.cell_of hg];exact B4 I);simp only[C0,e1,Df,CI,BR]at hu;exact⟨u,by rw[Bf];exact hu,M[k],B4 I,hvu⟩
      have hlr0:LR D ι M ((arr.toList.drop (ι id).base).take M.length):=by
       refine LR.of_AR ⟨by simpa using hlen.symm,λi a b ha l=> ?_⟩;simp only[ANI]at ha l;rw[CB]at l
       split at l
       ·rename_i hi;obtain⟨u,hu,v,hv',hvu⟩:=hcell i hi;rw[CA,hu]at l;rw[hv']at ha;cases ha;cases l;exact hvu
       ·cases l
      obtain⟨u1,u2,hu,t,J⟩:=XE hX1 hX2 hd' hce' S.root M _ c hob (λ_ h=>Du _ h) (λ_ h=>Du _ h) (λ_ h=>Du _ h) hp1 hlr0;rw[hcr]at J;cases J;rw[Ce]at hu;refine⟨ι id,us,?_,λj hj=>by rw[Cn]at hj;rw[hj],?_,λ_=>⟨u1,?_,λk u I=> ?_,t⟩,ht,λh=>by rw[l]at h;cases h⟩
      ·apply Gr;rw[hus,FK];simp only[kq,l,Ag]
      ·simp only[Iw,l,Ag,LM,e4]
      ·rw[<-hu,hlen];exact BI.as (ι0:=λ_=>ι id) hh rfl
      ·rw[<-hu,CB]at I
       split at I
       ·rw[CA,Bf]at I;simp only[C0,e1,Df,CI,BR];exact I
       ·cases I
    ·refine⟨rg 0 0 0 0,n.toList,?_,λid h=>(by cases h),?_,λh=>(by rw[l]at h;cases h),hlr,λ_=>⟨rfl,rfl⟩⟩
     ·apply Gr;simp[kq,l,pU]
     ·simp[Iw,l,Ca]
   have hRA:=XF hX1 hX2 hd' hce' S.ts rest o d hres (λ_ h=>C3 _ h) (λ_ h=>C3 _ h) (λ_ h=>C3 _ h) hp2 hLr2;have hall:Iw S.rb r++(Ca ι c.g++Ca ι d.g)=Ca ι (rid++(c.g++d.g)):=by rw[hroB,DQ,DQ]
   have m:∀id,id∈rid++(c.g++d.g)->id∈rid++G:=λid h=>(CH.1 h).elim (λh=>Du _ h) λh=>C3 _ (z id h)
   have hnd:(rid++(c.g++d.g)).Nodup:=by
    rw[<-hG,<-C9]at b2;exact(I0.1 b2).1
   have hdis:∀id,id∈rid++(c.g++d.g)->id∉c.f++d.f:=by
    rw[<-hG,<-C9]at b2;exact λid h h'=>(I0.1 b2).2.2 id h id h' rfl
   have hN:(Iw S.rb r++(Ca ι c.g++Ca ι d.g)).Nodup:=by
    rw[hall];exact NB hnd λi j hi hj hij b l=>(T i j (m i hi) (.inr (m j hj)) hij b l).1
   have hF0:∀b,b∈Iw S.rb r++(Ca ι c.g++Ca ι d.g)->JT ι ((c.i++d.i)++(c.g++d.g)) (c.f++d.f) w b=none:=λb l=>by
    rw[hall]at l;obtain⟨id,h1,U⟩:=GL.1 l;cases hf:JT ι ((c.i++d.i)++(c.g++d.g)) (c.f++d.f) w b with
    |none=>rfl
    |some R=>
     exfalso;have noFz:∀j,(j∈c.i++d.i\/j∈rid++G)->¬(ι j).Fz b:=λj hj hz=>by
      by_cases e:id=j
      ·subst e;exact hself id (m id h1) b U hz
      ·exact(T id j (m id h1) hj e b U).2 hz
     rcases JG hf with⟨j,j1,j2⟩|⟨j,j1,j2|j2⟩
     ·exact noFz j ((CH.1 j1).imp_right λh=>C3 _ (z j h)) j2
     ·exact(T id j (m id h1) (.inr (C3 _ (A j j1))) (λe=>hdis id h1 (e▸j1)) b U).1 j2
     ·exact noFz j (.inr (C3 _ (A j j1))) j2
   have hGo:∀p,p∈E.gl->p.1∉Iw S.rb r++(Ca ι c.g++Ca ι d.g):=λp hp l=>by
    rw[hall]at l;obtain⟨id,h1,U⟩:=GL.1 l;obtain⟨e,ro,hrow⟩:=JO b1 p hp;have hfp:(⟨[],(c.i++d.i)++E.gl.map (·.1),[],rid++G⟩:Foot).Fi p.1:=.inr (.inl (C3 _ (Wd hp)));have q:=(Y.hd p.1 _ hfp (St.hdr_of hrow)).own_row;rw[(hGI p.1 (hE.gl p hp).1).2.1]at q
    have hwid:=(CH.1 (m id h1)).elim (C id) (L id);by_cases e:id=p.1
    ·exact b5 p.1 (Wd hp) (e▸m id h1)
    ·exact(Y.inj id p.1 (N id (.inr (m id h1))) hfp hwid (St.lv_of hrow) e p.1 U).1 q
   rw[hargs];refine(hE.osp f S hS _ w r (Ca ι c.g) (Ca ι d.g) o c.x d.x ANK hgW hN hF0 hGo hRt (λh=>by rw[(hRid h).1];rfl) hRA hpre).mono ?_;rintro en w' ⟨ws,fz',K,own2,rfl,g1,g2,g3,g4,g5,g6,g7,g8,g9,s1,s2,s3,s4⟩;have hn2:(K++own2).Nodup:=(I0.1 g4).2.1;have hn3:=I0.1 hn2
   obtain⟨ι1,t,J,k3⟩:∃ι1,MatP P w' fz' K D ι (σ.puts G) s.2 ι1/\(S.rb=AD->BI P (λ_=>r) 0 w' (.row s.1.length S.re AK))/\
     (S.rb=AD->∀(k:AB) v,s.1[k]?=AC v->r.own=AD/\∃u,w'.cell? ⟨r.blk,r.base+k,AF⟩=AC u/\VR (λi=>D i\/(σ.puts G).rng s.2 i) ι1 v u):=by
    cases l:S.rb
    ·have e:K=[]:=g8 l;subst e;have:s=([],σ.puts G):=by rw[<-hm1];unfold XG;rw[l];rfl
     rw[this];exact⟨ι,.refl,λh=>(by cases h),λh=>(by cases h)⟩
    ·obtain⟨us,r1,r2,r3⟩:=g7 l;have e:s=CQ S.root (S.g c.x d.x).1 (σ.puts G):=by rw[<-hm1];unfold XG;rw[l];rfl
     have l2:=(Sb S.rs (S.g c.x d.x).2 s.2).le;rw[X]at l2;obtain⟨ι1,t,J,k3⟩:=XC g2 S.root (S.g c.x d.x).1 us K D ι (σ.puts G) r3 hn3.1 (by rw[<-e];exact λid F=>Q id (by simp only[St.rng,St.puts_next]at F⊢;omega));rw[<-e]at t J k3;have q:r.own=true:=by obtain⟨_,_,_,_,_,_,⟨h,_⟩,_⟩:=r1;exact h
     refine⟨ι1,t,λ_=>by rw[J];exact r1,λ_ k v Z=>⟨q,?_⟩⟩;have hlt:k<us.length:=by
      rcases Cf k us.length with h|h
      ·exact h
      ·rw[DA (by omega)]at Z;cases Z
     exact⟨us[k],r2 k _ (B4 hlt),k3 k v _ Z (B4 hlt)⟩
   have l1:=hA1.le;have l2:=(Sb S.rs (S.g c.x d.x).2 s.2).le;rw[X]at l2;rw[St.puts_next]at l1;have hD2:∀id,s.2.rng O.2 id->¬(D id\/(σ.puts G).rng s.2 id):=λid F hid=>by
    rcases hid with hid|hid
    ·exact Q id (by simp only[St.rng]at F⊢;omega) hid
    ·simp only[St.rng,St.puts_next]at F hid;omega
   obtain⟨ι2,p1,p2⟩:=XD g2 S.rs (S.g c.x d.x).2 ws own2 _ ι1 s.2 g9 hn3.2.1 (by rw[X];exact hD2);rw[X]at p1 p2;have V:=t.trans (by rw[show(σ.puts G).rng O.2=σ.rng O.2 by funext i;simp only[St.rng,St.puts_next]];exact Q) p1 λb l hb'=>hn3.2.2 b l b hb' rfl
   have hup:∀i,(D i\/(σ.puts G).rng s.2 i)\/s.2.rng O.2 i->D i\/σ.rng ((GM O.2 rid s.1 S.re).assumes (S.pre c.x d.x::(c.p++d.p))) i:=λi hi=>by
    simp only[St.rng,q1,H4,St.puts_next]at hi⊢;rcases hi with(hi|hi)|hi
    ·exact .inl hi
    ·exact .inr (by omega)
    ·exact .inr (by omega)
   refine⟨Er ws,ι2,rfl,?_,?_⟩
   ·refine(Sd p2).mono hup λ_ _=>rfl
   ·have hrng:σ.rng ((GM O.2 rid s.1 S.re).assumes (S.pre c.x d.x::(c.p++d.p)))=σ.rng (GM O.2 rid s.1 S.re):=by funext i;simp only[St.rng,q1]
    rw[q2,hrng];have htot:∀b,b∈Iw S.rb r++(Ca ι c.g++Ca ι d.g)->∃k,k∈rid++G/\Wr σ.H k/\(ι k).Own b:=λb l=>by
     rw[hall]at l;obtain⟨id,h1,U⟩:=GL.1 l;exact⟨id,m id h1,(CH.1 (m id h1)).elim (C id) (L id),U⟩
    have q:∀b,b∈Ca ι c.g++Ca ι d.g->∃k,k∈G/\Wr σ.H k/\(ι k).Own b:=λb l=>by
     rw[<-DQ]at l;obtain⟨id,h1,U⟩:=GL.1 l;exact⟨id,z id h1,L id (z id h1),U⟩
    refine tF hwf V hr (λk I=> ?_) L s1 s2 s3 (λb l hx=>s4 b l λhbm=> ?_) (λb l=> ?_) (λb R l=> ?_) λb l=>g5 b (C3 _ l)
    ·have W:S.rb=true:=by
      cases l:S.rb
      ·rw[(hRid l).2]at I;cases I
      ·rfl
     have hkl:=St.lv_lt hwf (C k I).lv;have hio:ι2 k=r:=by
      rw[V.io k λh=>by simp only[St.rng,St.puts_next]at h;omega];exact hroV k I
     refine⟨hrw k I,λh=> ?_,(J W).as hio,λj v Z=> ?_⟩
     ·exact(I0.1 b2).2.2 k I k h rfl
     ·obtain⟨o1,u,o2,o3⟩:=k3 W j v Z;refine⟨by rw[hio];exact o1,u,by rw[hio];exact o2,o3.mono (λi hi=> ?_) λi hi=>p1.io i λh=>hD2 i h hi⟩;simp only[St.rng,St.puts_next]at hi⊢;rcases hi with hi|hi
      ·exact .inl hi
      ·exact .inr (by omega)
    ·obtain⟨k,h1,U,h3⟩:=htot b hbm;exact hx k h1 U h3
    ·rcases g6 b l with h|h
     ·exact .inr (q b h)
     ·refine .inl ⟨h,?_⟩;rcases CH.1 l with l|l
      ·cases W:S.rb
       ·rw[g8 W]at l;cases l
       ·obtain⟨us,_,_,r3⟩:=g7 W;exact r3.lt _ _ _ _ b l
      ·exact g9.lt _ _ _ _ b l
    ·rcases g3 b R l with h|h|h
     ·rcases JG h with⟨k,t,J⟩|⟨k,t,J|J⟩
      ·rcases CH.1 t with t|t
       ·exact .inr (.inr ⟨k,.inl (Du _ t),b4 k t,J⟩)
       ·exact .inr (.inr ⟨k,.inr (z k t),(L k (z k t)).lv,J⟩)
      ·exact .inr (.inl ⟨k,A k t,L k (A k t),J⟩)
      ·exact .inr (.inr ⟨k,.inr (A k t),(L k (A k t)).lv,J⟩)
     ·obtain⟨ee,fr,hh⟩:=g2 b R l;exact .inl ⟨h,BX hh⟩
     ·exact .inr (.inl (q b h))
  ·cases h
 ·cases h
end
open Go
def Ty.flat:Ty->AH
 | .slice _=>AK
 | .ref _=>AK
 | .clo _ _=>AK
 | .pair a b=>a.flat&&b.flat
 |_=>AD
def QO(σ:St):(ts:AE Ty)->AE AJ->AP (CD (AM ts))
 |[],[]=>AC ⟨(),[],[],[],[]⟩
 |t::ts,v::vs=>match(bif t.agg then(match v with| .agg a=>AC a.toList|_=>AF)else AC [v])with
  |some a=>match Bq σ t a with
   |some ⟨x,[],i,g,p⟩=>match QO σ ts vs with
    |some ⟨y,_,j,h,q⟩=>AC ⟨(x,y),[],i++j,g++h,p++q⟩
    |none=>AF
   |_=>AF
  |none=>AF
 |_,_=>AF
section
variable {P:Ao} {D:AB->Prop} {ι:AB->Reg} {σ:St} {w:AN} {is gs:AE AB}
theorem Np(hd:∀id,id∈is\/id∈gs->∀x,σ.H.hdr id=AC x->BI P ι id w x)(d:∀id,id∈gs->∀k v,Lv σ.H id->σ.H.cell id k=AC v->Cl D ι id w k v):
  ∀(ts:AE Ty) (vs us:AE AJ) (c:CD (AM ts)),QO σ ts vs=AC c->(∀id,id∈c.i->id∈is)->(∀id,id∈c.g->id∈gs)->FZ c.p->LR D ι vs us->CN (JT ι is gs w) ts c.x us
 |[],vs,us,c,h,_,_,_,l=>by
  cases l with
  |nil=>rfl
  |cons _ _=>simp[QO]at h
 |t::ts,vs,us,c,h,m,n,E,l=>by
  cases l with
  |nil=>simp[QO]at h
  |cons s F=>
   rename_i v u vs us;simp only[QO]at h
   split at h
   ·rename_i O b
    split at h
    ·rename_i z A g1 B h1
     split at h
     ·rename_i y r j G q I;cases h;obtain⟨q1,J⟩:=Ci E;refine⟨u,us,rfl,?_,Np hd d ts vs us ⟨y,r,j,G,q⟩ I (λid h=>m id (C3 _ h)) (λid h=>n id (C3 _ h)) J F⟩;have C:=G0 hd d t;cases a:t.agg
      ·rw[a]at b;cases b;obtain⟨K,L,e,f,o⟩:=C [v] [u] ⟨z,[],A,g1,B⟩ h1 (λid h=>m id (Du _ h)) (λid h=>n id (Du _ h)) q1 (.cons s .nil);cases o;rw[Ce]at e;rw[<-e]at f;exact .inr ⟨a,f⟩
      ·rw[a,Ag]at b
       split at b
       ·rename_i as;cases b;cases s with
        |agg _ bs M N=>
         obtain⟨K,L,e,f,o⟩:=C as.toList bs.toList ⟨z,[],A,g1,B⟩ h1 (λid h=>m id (Du _ h)) (λid h=>n id (Du _ h)) q1 (LR.of_AR ⟨by simpa using M,by simpa using N⟩);cases o;rw[Ce]at e;rw[<-e]at f;exact .inl ⟨a,bs,rfl,f⟩
       ·cases b
     ·cases h
    ·cases h
   ·cases h
theorem Cw.flat{fz g:AB->AP (Aa AJ)}:∀(t:Ty) (x:t.Den) (d:AE AJ),t.flat=AD->Cw fz t x d->Cw g t x d:=by
 intro t
 induction t with
 |pair a b h i=>
  intro x d c e;simp only[Ty.flat,A0]at c;simp only[Cw]at e⊢;obtain⟨c1,c2,rfl,h1,k⟩:=e;exact⟨c1,c2,rfl,h _ _ c.1 h1,i _ _ c.2 k⟩
 |slice a j=>intro x d c;cases c
 |ref a j=>intro x d c;cases c
 |clo f a j=>intro x d c;cases c
 |_=>intro x d _ e;exact e
theorem CN.flat{fz c:AB->AP (Aa AJ)}:∀{ts:AE Ty} {x:AM ts} {vs:AE AJ},ts.all Ty.flat=AD->CN fz ts x vs->CN c ts x vs
 |[],_,_,_,d=>d
 |t::ts,_,_,b,⟨v,r,e,h1,f⟩=>by
  simp only[L7,A0]at b;exact⟨v,r,e,h1.imp (λ⟨a,g,e,r⟩=>⟨a,g,e,r.flat _ _ _ b.1⟩) λ⟨a,r⟩=>⟨a,r.flat _ _ _ b.1⟩,CN.flat b.2 f⟩
end
end Go.Eng
end
end
end
section
noncomputable section
noncomputable section
namespace Go.Eng
open Go
def Eh:Type:=FuncId->AE AJ->St->AP (AJ×St×Foot)
def Nq(nt:AB)(s:Tr AJ)(dst:AP Tmp)(v:AJ):AP (Tr AJ):=
 match dst with
 |none=>AC s
 |some d=>bif Cq d nt then AC (s.set d (AC v))else AF
def cQ:AE Az->AB->AP Az
 |[],_=>AF
 |x::_,0=>AC x
 |_::a,n+1=>cQ a n
theorem fU:∀(l:AE Az) (k:AB),cQ l k=l[k]?
 |[],k=>by simp[cQ]
 |x::a,0=>by simp[cQ]
 |x::a,k+1=>by simp[cQ,fU a k]
def AA4:AJ->AH
 | .chan (AC _)=>AK
 | .tuple a=> !WQ a.toList
 |_=>AD
def Ik(ops:AE Az)(s:Tr AJ)(o:Az):AP AH:=
 match o.guard with
 |none=>AC AD
 |some (j,a)=>match cQ ops j with
  |some g=>match g.dst with
   |some d=>match s.get d with
    |some (.bool b)=>AC (b==a)
    |some v=>bif AA4 v then AC AK else AF
    |none=>AF
   |none=>AC AK
  |none=>AC AK
def resolve(v:AJ)(σ:St):AP (AJ×St):=
 match v with
 | .tuple a=>match a.toList with
   |[.chan (AC 1),.bool b]=>AC (.bool b,σ)
   |_=>AC (v,σ)
 |_=>AC (v,σ)
theorem Nr{v u:AJ}{σ σ':St}(h:resolve v σ=AC (u,σ')):(u=v\/∃b,v=sy (.bool b)/\u=.bool b)/\σ'=σ:=by
 unfold resolve at h
 split at h
 ·rename_i a
  split at h
  ·rename_i b c;cases h;refine⟨.inr ⟨b,?_,rfl⟩,rfl⟩;obtain⟨l⟩:=a;simp only at c;rw[c]
  ·cases h;exact⟨.inl rfl,rfl⟩
 ·cases h;exact⟨.inl rfl,rfl⟩
theorem QQ{v u:AJ}{σ σ1 σ':St}{φ:Foot}(h:resolve v σ1=AC (u,σ'))(a:σ.next<=σ1.next/\(σ.wf->σ1.wf/\AFr σ σ1 φ)):σ.next<=σ'.next/\(σ.wf->σ'.wf/\AFr σ σ' φ):=by
 obtain⟨-,rfl⟩:=Nr h;exact a
theorem Se{v u:AJ}{σ σ':St}(h:resolve v σ=AC (u,σ'))(c:σ'.Ok):σ.Ok/\(∀D ι v',VR D ι v v'->VR D ι u v')/\σ'.H=σ.H/\σ'.next=σ.next:=by
 obtain⟨d,rfl⟩:=Nr h;refine⟨c,λD ι v' a=> ?_,rfl,rfl⟩;rcases d with rfl|⟨b,rfl,rfl⟩
 ·exact a
 ·cases a with
  |sym _ _=>exact .bool b
  |tuple as bs e f=>
   have g:bs[0]?=AC (bs[0]'(by rw[<-e];exact Nat.succ_pos _)):=CX _;exact(f 0 _ _ rfl g).no_chan.elim
def HR(P:Ao)(E:Env)(call:Eh)(nt:AB)(ops:AE Az)(o:Az)(s:Tr AJ)(σ:St):AP (Tr AJ×St×Foot):=
 match Ik ops s o with
 |some AD=>match K3 P E s σ o with
  |some (.val r)=>match resolve r.v r.σ with
   |some (v,σ')=>match Nq nt s o.dst v with
    |some a=>AC (a,σ',r.φ)
    |none=>AF
   |none=>AF
  |some (.enter f args)=>match call f args σ with
   |some (v,σ1,φ)=>match resolve v σ1 with
    |some (v,σ')=>match Nq nt s o.dst v with
     |some a=>AC (a,σ',φ)
     |none=>AF
    |none=>AF
   |none=>AF
  |none=>AF
 |some AK=>match Nq nt s o.dst Bi with
  |some a=>AC (a,σ,.nil)
  |none=>AF
 |none=>AF
def LO(P:Ao)(E:Env)(call:Eh)(nt:AB)(all:AE Az):AE Az->Tr AJ->St->AP (Tr AJ×St×Foot)
 |[],s,σ=>AC (s,σ,.nil)
 |o::os,s,σ=>match HR P E call nt all o s σ with
  |some (s1,σ1,φ1)=>match LO P E call nt all os s1 σ1 with
   |some (a,σ2,φ2)=>AC (a,σ2,φ1.add φ2)
   |none=>AF
  |none=>AF
def JD(nt:AB)(D:AB->Prop)(ι:AB->Reg)(s:Tr AJ)(a:CP):Prop:=
 a.tmps.size=nt/\∀t v,s.get t=AC v->t<nt/\VR D ι v (a.tmps.getD t Bi)
structure CallSound(P:Ao)(E:Env)(call:Eh):Prop where
 ok:∀f args σ v σ' φ,call f args σ=AC (v,σ',φ)->σ.next<=σ'.next/\(σ.wf->σ'.wf/\AFr σ σ' φ)/\
  (σ'.Ok->∀(D:AB->Prop) (ι:AB->Reg) (w:AN) (args':Aa AJ),σ.wf->GI E D ι->(∀id,σ.rng σ' id->¬D id)->AR D ι args.toArray args'->HOn P D ι σ.H φ w->
   Calls P f args' w λe w'=>∃v' ι',e=.returned v'/\VR (λi=>D i\/σ.rng σ' i) ι' v v'/\Post P D (σ.rng σ') ι σ.H w φ ι' σ'.H w')
section
variable {P:Ao} {E:Env} (hE:E.OK P) {call:Eh} (hC:CallSound P E call) {D:AB->Prop} {ι:AB->Reg} {σ σ1:St} {w:AN} {s s1:Tr AJ} {a:CP} {nt:AB} {ops:Aa Az} {φ:Foot}
theorem cR{G:AB}{x:Operand}(i:∀g,g<G->D g/\(ι g).blk=g/\(ι g).base=0)(j:∀t,x=.tmp t->∀v,s.get t=AC v->VR D ι v (a.tmps.getD t Bi)):gO G D ι s a.eval x:=by
 intro v h;cases x with
 |tmp t=>exact j t rfl v h
 |const c=>
  simp only[av]at h;cases b:Au 8 c
  ·rw[b]at h;cases h
  ·rw[b,Ag]at h;simp only[BJ]at h;subst h;exact Bk 8 c b
 |global g=>
  simp only[av]at h;cases d:Cq g G
  ·rw[d]at h;cases h
  ·rw[d]at h;cases h;have e:g<G:=by simpa using d
   obtain⟨h1,k,l⟩:=i g e;have:=VR.ptr (D:=D) (ι:=ι) g 0 h1;rw[k,l]at this;exact this
 |func f=>
  simp only[av]at h;cases h;exact Bk 2 _ rfl
def XJ(nt:AB)(s s1:Tr AJ)(dst:AP Tmp)(v:AJ):Prop:=
 (dst=AF->s1=s)/\∀d,dst=AC d->d<nt/\∀t,s1.get t=if t=d then AC v else s.get t
theorem PW{dst:AP Tmp}{v:AJ}(h:Nq nt s dst v=AC s1):XJ nt s s1 dst v:=by
 unfold Nq at h
 split at h
 ·cases h;exact⟨λ_=>rfl,λd e=>by cases e⟩
 ·rename_i d;cases a:Cq d nt
  ·rw[a]at h;cases h
  ·rw[a]at h;cases h;refine⟨λe=>(by cases e),λb e=> ?_⟩;cases e;exact⟨by simpa using a,λt=>Tr.set_get _ _ _ _⟩
theorem LP{o:Az}{b:AH}(h:Ik ops.toList s o=AC b)(p:a.tmps.size=nt)(q:∀t,t∈o.looksAt ops->∀v,s.get t=AC v->t<nt/\VR D ι v (a.tmps.getD t Bi)):
  Wb o (bR ops a.tmps)=b:=by
 unfold Ik at h;unfold Wb
 split at h
 ·rename_i l;cases h;rw[l]
 ·rename_i j n l;rw[l];simp only;rw[fU,Bf]at h
  split at h
  ·rename_i g f
   split at h
   ·rename_i d hd;have r:bR ops a.tmps j=match a.tmps[d]? with|some (.bool b)=>AC b|_=>none:=by
     unfold bR;rw[f];simp only[Option.bind_some,hd];rfl
    have w:d∈o.looksAt ops:=by
     unfold yb;rw[l];simp only[CH];right;rw[f];simp[hd]
    rw[r];have c:∀v,s.get d=AC v->VR D ι v (a.tmps.getD d Bi)/\a.tmps[d]?=AC (a.tmps.getD d Bi):=λv i=>by
     obtain⟨h1,k⟩:=q d w v i;refine⟨k,?_⟩;have:d<a.tmps.size:=p▸h1;rw[CX this,O9,CX this];rfl
    split at h
    ·rename_i x i;cases h;obtain⟨h1,k⟩:=c _ i;rw[k];generalize a.tmps.getD d Bi=u at h1;cases h1;simp
    ·rename_i v m i;cases f:AA4 v
     ·rw[f]at h;cases h
     rw[f,Ag]at h;cases h;obtain⟨h1,k⟩:=c _ i;rw[k];have:∀b,a.tmps.getD d Bi≠ .bool b:=by
      intro b e;rw[e]at h1;cases h1 with
      |junk _=>cases f
      |sym _ _=>cases f
      |err _ _ h=>cases h
      |bool _=>exact m b rfl
     split
     ·rename_i b e;simp only[BJ]at e;exact Aq e (this b)
     ·simp
    ·cases h
   ·rename_i hd;cases h;unfold bR;rw[f];simp[hd]
  ·rename_i f;cases h;unfold bR;rw[f];simp
theorem U3{o:Az}{t:Tmp}(h:Operand.tmp t∈o.op.operands):t∈o.looksAt ops:=by
 unfold yb;simp only[CH,List.mem_filterMap];exact .inl ⟨.tmp t,by simpa using h,rfl⟩
include hE hC in
theorem EO{o:Az}(h:HR P E call nt ops.toList o s σ=AC (s1,σ1,φ)):
  σ.next<=σ1.next/\(σ.wf->σ1.wf/\AFr σ σ1 φ)/\∃v,XJ nt s s1 o.dst v/\(σ1.Ok->
  ∀(D:AB->Prop) (ι:AB->Reg) (w:AN) (a:CP) (i:AB) (K:CP->AN->Prop) (Q:Exit->CP->AN->Prop),ops[i]?=AC o->σ.wf->GI E D ι->(∀id,σ.rng σ1 id->¬D id)->a.tmps.size=nt->
   (∀t,t∈o.looksAt ops->∀v,s.get t=AC v->t<nt/\VR D ι v (a.tmps.getD t Bi))->HOn P D ι σ.H φ w->
   (∀v' ι' w',VR (λi=>D i\/σ.rng σ1 i) ι' v v'->Post P D (σ.rng σ1) ι σ.H w φ ι' σ1.H w'->K (a.put o.dst v') w')->wpOp P ops Q i K a w):=by
 have z:∀(D:AB->Prop) (ι:AB->Reg) (a:CP),GI E D ι->(∀t,t∈o.looksAt ops->∀v,s.get t=AC v->t<nt/\VR D ι v (a.tmps.getD t Bi))->∀x,x∈o.op.operands->gO E.G D ι s a.eval x:=
  λD ι a m u x S=>cR m.b λt e v T=>(u t (U3 (e▸S)) v T).2
 have c:∀{σ2:St},σ1.next=σ2.next->σ.rng σ1=σ.rng σ2:=λe=>by funext id;simp only[St.rng,e]
 unfold HR at h
 split at h
 ·rename_i y
  split at h
  ·rename_i r u
   split at h
   ·rename_i v σ' d
    split at h
    ·rename_i N A;cases h;have g:=QQ d (mz u);refine⟨g.1,g.2,v,PW A,?_⟩;intro n D ι w a i K Q B k m hd C p I l;obtain⟨L,J,M,F⟩:=Se d n;rw[M,c F]at l;rw[c F]at hd;have j:=LP y C p;unfold wpOp;rw[B];simp only[j,ANH]
     left;obtain⟨_,_,U⟩:=AOB hE (w:=w) u L (z D ι a m p);obtain⟨nx,v',ι',w',V,W,O,R⟩:=U k hd I;unfold bS;rw[V];rcases W with rfl|⟨rfl,rfl⟩
     ·exact l v' ι' w' (J _ _ _ O) R
     ·exact l Bi ι' w' (J _ _ _ O) R
    ·cases h
   ·cases h
  ·rename_i f args u
   split at h
   ·rename_i v0 σ0 φ' X
    split at h
    ·rename_i v σ' d
     split at h
     ·rename_i N A;cases h;obtain⟨c1,c2,c3⟩:=hC.ok _ _ _ _ _ _ X;have g:=QQ d ⟨c1,c2⟩;refine⟨g.1,g.2,v,PW A,?_⟩;intro n D ι w a i K Q B k m hd C p I l;obtain⟨L,J,M,F⟩:=Se d n;rw[M,c F]at l;rw[c F]at hd;have j:=LP y C p;unfold wpOp
      rw[B];simp only[j,ANH];left;obtain⟨q,fn,g1,Z,g3⟩:=dO hE (w:=w) u (z D ι a m p);unfold bS;rw[g3,Oper.upon_enter];refine(c3 L D ι w q k m hd g1 I).mono ?_;rintro e w' ⟨v',ι',rfl,q1,Y⟩;exact l v' ι' w' (J _ _ _ q1) Y
     ·cases h
    ·cases h
   ·cases h
  ·cases h
 ·rename_i y
  split at h
  ·rename_i N A;cases h;refine⟨Ak _,λy=>⟨y,AFr.refl _ _⟩,Bi,PW A,?_⟩;intro _ D ι w a i K Q B k m hd C p I l;have j:=LP y C p;unfold wpOp;rw[B];simp only[j,CI,BR];exact l Bi ι w (Bk 2 _ rfl) (Post.same (St.rng_self σ) rfl rfl rfl rfl rfl)
  ·cases h
 ·cases h
end
end Go.Eng
end
end
end
section
noncomputable section
noncomputable section
namespace Go.Eng
open Go
section
variable {P:Ao} {E:Env} (hE:E.OK P) {call:Eh} (hC:CallSound P E call) {D:AB->Prop} {ι:AB->Reg} {σ σ1 σ2:St} {w:AN} {s s1:Tr AJ} {a:CP} {nt:AB} {ops:Aa Az} {φ:Foot}
theorem PX(h1:σ.next<=σ1.next)(a:σ1.next<=σ2.next):(λi=>σ.rng σ1 i\/σ1.rng σ2 i)=σ.rng σ2:=by
 funext i;apply propext;simp only[St.rng];omega
theorem fV(D:AB->Prop)(h1:σ.next<=σ1.next)(a:σ1.next<=σ2.next):(λi=>(D i\/σ.rng σ1 i)\/σ1.rng σ2 i)=λi=>D i\/σ.rng σ2 i:=by
 funext i;have:σ.rng σ2 i=(σ.rng σ1 i\/σ1.rng σ2 i):=congrFun (PX h1 a).symm i;rw[this];apply propext;exact or_assoc
theorem GI.next{ι':AB->Reg}{N:AB->Prop}(h:GI E D ι)(hd:∀id,N id->¬D id)(a:∀id,¬N id->ι' id=ι id):GI E (λi=>D i\/N i) ι':=by
 intro g b;obtain⟨h1,c,d,f⟩:=h g b;have:ι' g=ι g:=a g λj=>hd g j h1
 exact⟨.inl h1,by rw[this];exact c,by rw[this];exact d,λp k e=>by rw[this];exact f p k e⟩
theorem JD.mono{D':AB->Prop}{ι':AB->Reg}(h:JD nt D ι s a)(b:∀i,D i->D' i)(c:∀i,D i->ι' i=ι i):JD nt D' ι' s a:=
 ⟨h.1,λt v e=>⟨(h.2 t v e).1,(h.2 t v e).2.mono b c⟩⟩
theorem Yx(a:CP)(dst:AP Tmp)(v:AJ):(a.put dst v).tmps.size=a.tmps.size:=by
 cases dst<;>simp[Hs]
theorem Sf(a:CP)(dst:AP Tmp)(v:AJ):(a.put dst v).defers=a.defers:=by
 cases dst<;>rfl
theorem Sg(a:CP)(dst:AP Tmp)(v:AJ)(t:AB)(h:dst≠AC t):(a.put dst v).tmps.getD t Bi=a.tmps.getD t Bi:=by
 cases dst with
 |none=>rfl
 |some d=>
  have:d≠t:=λe=>h (by rw[e])
  simp only[Hs,O9,FG this]
theorem Si(a:CP)(d:AB)(v:AJ)(h:d<a.tmps.size):(a.put (AC d) v).tmps.getD d Bi=v:=by
 simp[Hs,h]
theorem JD.put{dst:AP Tmp}{v v':AJ}(h:JD nt D ι s a)(c:XJ nt s s1 dst v)(g:VR D ι v v'):JD nt D ι s1 (a.put dst v'):=by
 refine⟨(Yx a dst v').trans h.1,λt u e=> ?_⟩;cases dst with
 |none=>rw[c.1 rfl]at e;exact h.2 t u e
 |some d=>
  obtain⟨f,i⟩:=c.2 d rfl;rw[i t]at e
  split at e
  ·rename_i b;subst b;simp only[BJ]at e;subst e;exact⟨f,by rw[Si a t v' (by rw[h.1];exact f)];exact g⟩
  ·rename_i b;rw[Sg a (AC d) v' t λe=>b (Dw e).symm];exact h.2 t u e
include hE hC in
theorem LQ:∀(os:AE Az) (k:AB) (s p:Tr AJ) (σ σ':St) (φ:Foot),LO P E call nt ops.toList os s σ=AC (p,σ',φ)->(∀j,j<os.length->os[j]?=ops[k+j]?)->
  σ.next<=σ'.next/\(σ.wf->σ'.wf/\AFr σ σ' φ)/\
  (σ.wf->σ'.Ok->∀(D:AB->Prop) (ι:AB->Reg) (w:AN) (a:CP) (Q:Exit->CP->AN->Prop),σ.wf->GI E D ι->(∀id,σ.rng σ' id->¬D id)->JD nt D ι s a->HOn P D ι σ.H φ w->
   (∀ι' w' z,JD nt (λi=>D i\/σ.rng σ' i) ι' p z->z.defers=a.defers->Post P D (σ.rng σ') ι σ.H w φ ι' σ'.H w'->Q .normal z w')->wpOps P ops Q (List.range' k os.length) a w)
 |[],k,s,p,σ,σ',φ,h,_=>by
  simp only[LO,BJ,Ct]at h;obtain⟨rfl,rfl,rfl⟩:=h;refine⟨Ak _,λA=>⟨A,AFr.refl _ _⟩,λ_ _ D ι w a Q _ _ _ e q B=> ?_⟩;simp only[List.length_nil,List.range'_zero,wpOps];exact B ι w a (e.mono (λ_=>.inl) λ_ _=>rfl) rfl (Post.refl _ _ _ _ _ _ (St.rng_self σ))
 |o::os,k,s,p,σ,σ',φ,h,N=>by
  simp only[LO]at h
  split at h
  ·rename_i s1 σ1 φ1 h1
   split at h
   ·rename_i T σ2 φ2 U;simp only[BJ,Ct]at h;obtain⟨rfl,rfl,rfl⟩:=h;obtain⟨r,a2,v,a3,a4⟩:=EO hE hC h1;obtain⟨u,O,V⟩:=LQ os (k+1) s1 T σ1 σ2 φ2 U λj Y=>by
     have:=N (j+1) (by simp;omega);simp only[List.getElem?_cons_succ]at this;rw[this];congr 1;omega
    refine⟨Ea r u,λA=> ?_,?_⟩
    ·obtain⟨W,f1⟩:=a2 A;obtain⟨C,f2⟩:=O W;exact⟨C,f1.trans f2 r u⟩
    ·intro f g D ι w a Q b R hd e q B;have l:σ1.Ok:=(O (a2 f).1).2.ok g;have F:ops[k]?=AC o:=by
      have:=N 0 (by simp);simpa using this.symm
     have c:∀id,σ.rng σ1 id->¬D id:=λid d=>hd id (by simp only[St.rng]at d⊢;omega)
     rw[List.length_cons,List.range'_succ,wpOps_cons];refine a4 l D ι w a k _ Q F b R c e.1 (λt _ v G=>e.2 t v G) (q.sub (λid x=>Foot.add_Fi.2 (.inl x)) λid k x=>Foot.add_Fc.2 (.inl x)) ?_;intro v' ι' w' G y;have I:JD nt (λi=>D i\/σ.rng σ1 i) ι' s1 (a.put o.dst v'):=
      (e.mono (λ_=>.inl) λi F=>y.io i λX=>c i X F).put a3 G
     have J:=y.hon q c;have m:∀id,σ1.rng σ2 id->¬(D id\/σ.rng σ1 id):=λid d hx=>by
      rcases hx with hx|hx
      ·exact hd id (by simp only[St.rng]at d⊢;omega) hx
      ·simp only[St.rng]at d hx;omega
     refine V (a2 b).1 g _ ι' w' (a.put o.dst v') Q (a2 b).1 (R.next c y.io) m I J ?_;intro ι2 C K n L M;have S:=Post.trans q y M m λid d=>by
      have:σ.next<=id:=by simp only[St.rng]at d;omega
      simp only[St.H,b id this,Option.map_none]
     rw[PX r u]at S;rw[fV D r u]at n;exact B ι2 C K n (L.trans (Sf _ _ _)) S
   ·cases h
  ·cases h
end
end Go.Eng
end
end
end
section
noncomputable section
noncomputable section
namespace Go.Eng
open Go
open Classical in
def Sj(g:H)(φ:Foot)(N:AB->Prop)(h:H):H:=
 ⟨λid=>if φ.Wi id\/N id then h.hdr id else g.hdr id,λid k=>if φ.Wc id k\/N id then h.cell id k else g.cell id k⟩
section
variable {P:Ao} {D N:AB->Prop} {ι ι':AB->Reg} {h h1 g:H} {w w':AN} {φ:Foot}
theorem FV{id:AB}(a:φ.Wi id\/N id):(Sj g φ N h1).hdr id=h1.hdr id:=by simp only[Sj];rw[Ae a]
theorem MO{id:AB}(a:¬(φ.Wi id\/N id)):(Sj g φ N h1).hdr id=g.hdr id:=by simp only[Sj];rw[AY a]
theorem VY{id k:AB}(a:φ.Wc id k\/N id):(Sj g φ N h1).cell id k=h1.cell id k:=by simp only[Sj];rw[Ae a]
theorem Sk{id k:AB}(a:¬(φ.Wc id k\/N id)):(Sj g φ N h1).cell id k=g.cell id k:=by simp only[Sj];rw[AY a]
theorem Wr.of_eq{h g:H}{id:AB}(e:g.hdr id=h.hdr id):Wr g id↔Wr h id:=by unfold Wr;rw[e]
theorem Lv.of_eq{h g:H}{id:AB}(e:g.hdr id=h.hdr id):Lv g id↔Lv h id:=by unfold Lv;rw[e]
theorem Post.move(p:Post P D N ι h w φ ι' h1 w')(a:∀id,φ.Fi id->g.hdr id=h.hdr id)(nl:∀id,N id->g.hdr id=AF):
  Post P D N ι g w φ ι' (Sj g φ N h1) w' where
 io:=p.io
 size:=p.size
 os:=p.os
 out:=p.out
 hdr:=λid x f e=>p.hdr id x f (by rwa[FV f]at e)
 cel:=λid k v f lv e=>by
  rw[VY f]at e;refine p.cel id k v f ?_ e;by_cases d:φ.Wi id\/N id
  ·exact(Lv.of_eq (FV d)).1 lv
  ·have c:¬N id:=λx=>d (.inr x)
   have m:¬φ.Wi id:=λx=>d (.inl x)
   have t:φ.Wc id k:=f.resolve_right c;have u:(Sj g φ N h1).hdr id=h1.hdr id:=by rw[MO d,a id t.fi,p.ahdr id c m]
   exact(Lv.of_eq u).1 lv
 ahdr:=λid c d=>MO λx=>x.elim d c
 acel:=λid k c d=>Sk λx=>x.elim d c
 cfr:=λb r y=>by
  refine(p.cfr b r λid wi wr=>y id wi ((Wr.of_eq (a id wi.fi)).2 wr)).mono ?_;rintro o ⟨id,k,wc,wr,u,C⟩;exact⟨id,k,wc,(Wr.of_eq (a id wc.fi)).2 wr,u,C⟩
 fresh:=λid c lv b r=>by
  rcases p.fresh id c ((Lv.of_eq (FV (.inr c))).1 lv) b r with f|⟨k,n,s,q,dk,e⟩
  ·exact .inl f
  ·exact .inr ⟨k,n,s,(Wr.of_eq (a k n.fi)).2 q,λl=>dk ((Lv.of_eq (FV (.inl n))).1 l),e⟩
 freshF:=λid c lv b r=>by
  rcases p.freshF id c ((Lv.of_eq (FV (.inr c))).1 lv) b r with f|⟨k,n,s,q,dk,e⟩|⟨k,z,s,E,e⟩
  ·exact .inl f
  ·exact .inr (.inl ⟨k,n,s,(Wr.of_eq (a k n.fi)).2 q,λl=>dk ((Lv.of_eq (FV (.inl n))).1 l),e⟩)
  ·exact .inr (.inr ⟨k,z,s,(Lv.of_eq (a k z)).2 E,e⟩)
 dist:=λi j A B F G=>p.dist i j A B ((Wr.of_eq (FV (.inr A))).1 F) ((Lv.of_eq (FV (.inr B))).1 G)
 nl:=nl
 wl:=λid k wc c=>(Lv.of_eq (a id wc.fi)).2 (p.wl id k wc c)
 wrm:=λid c wr=>by
  by_cases d:φ.Wi id\/N id
  ·have m:=d.resolve_right c;exact(Wr.of_eq (a id m.fi)).2 (p.wrm id c ((Wr.of_eq (FV d)).1 wr))
  ·exact(Wr.of_eq (MO d)).1 wr
 wrow:=λid k wc H I=>by
  obtain⟨l,e,J,h⟩:=p.wrow id k wc H I;exact⟨l,e,J,by rw[a id wc.fi];exact h⟩
theorem HOn.congr(b:HOn P D ι h φ w)(a:∀id,φ.Fi id->g.hdr id=h.hdr id)(c:∀id k,φ.Fc id k->g.cell id k=h.cell id k):HOn P D ι g φ w where
 hd:=λid x f e=>b.hd id x f (by rw[<-a id f];exact e)
 ce:=λid k v f l e=>b.ce id k v f ((Lv.of_eq (a id f.fi)).1 l) (by rw[<-c id k f];exact e)
 inj:=λi j fi d m n=>b.inj i j fi d ((Wr.of_eq (a i fi)).1 m) ((Lv.of_eq (a j d)).1 n)
theorem Post.same_foot{ψ:Foot}(p:Post P D N ι h w φ ι' h1 w')(c:∀id,ψ.Wi id↔φ.Wi id)(d:∀id k,ψ.Wc id k↔φ.Wc id k)(l:∀id,φ.Fi id->ψ.Fi id):Post P D N ι h w ψ ι' h1 w' where
 io:=p.io
 size:=p.size
 os:=p.os
 out:=p.out
 hdr:=λid x f=>p.hdr id x (f.imp_left (c id).1)
 cel:=λid k v f=>p.cel id k v (f.imp_left (d id k).1)
 ahdr:=λid a g=>p.ahdr id a λx=>g ((c id).2 x)
 acel:=λid k a g=>p.acel id k a λx=>g ((d id k).2 x)
 cfr:=λb e i=>(p.cfr b e λid wi=>i id ((c id).2 wi)).mono λ_ ⟨id,k,wc,r⟩=>⟨id,k,(d id k).2 wc,r⟩
 fresh:=λid a lv b e=>(p.fresh id a lv b e).imp_right λ⟨k,j,r⟩=>⟨k,(c k).2 j,r⟩
 freshF:=λid a lv b e=>(p.freshF id a lv b e).imp_right λx=>x.imp (λ⟨k,j,r⟩=>⟨k,(c k).2 j,r⟩) λ⟨k,m,r⟩=>⟨k,l k m,r⟩
 dist:=p.dist
 nl:=p.nl
 wl:=λid k wc=>p.wl id k ((d id k).1 wc)
 wrm:=p.wrm
 wrow:=λid k wc n=>p.wrow id k ((d id k).1 wc) λx=>n ((c id).2 x)
theorem Post.same_heap{a:H}(p:Post P D N ι h w φ ι' h1 w')(b:∀id,a.hdr id=h1.hdr id)(c:∀id k,a.cell id k=h1.cell id k):Post P D N ι h w φ ι' a w':=by
 have:a=h1:=by
  cases a;cases h1;congr
  ·funext id;exact b id
  ·funext id k;exact c id k
 rw[this];exact p
end
def Foot.trim(φ:Foot)(n:AB):Foot:=
 ⟨φ.rc.filter λp=>Cq p.1 n,φ.rh.filter λi=>Cq i n,φ.wc.filter λp=>Cq p.1 n,φ.wh.filter λi=>Cq i n⟩
theorem Rm{a b:AB}:Cq a b=AD↔a<b:=by simp
theorem J0{φ:Foot}{n id:AB}:(φ.trim n).Wi id↔φ.Wi id/\id<n:=by simp[Foot.trim,Foot.Wi]
theorem J1{φ:Foot}{n id k:AB}:(φ.trim n).Wc id k↔φ.Wc id k/\id<n:=by
 simp only[Foot.trim,Foot.Wc,Uf,Rm];constructor
 ·rintro(⟨h,a⟩|⟨h,a⟩)
  ·exact⟨.inl h,a⟩
  ·exact⟨.inr h,a⟩
 ·rintro⟨h|h,a⟩
  ·exact .inl ⟨h,a⟩
  ·exact .inr ⟨h,a⟩
theorem tI{φ:Foot}{n id k:AB}:(φ.trim n).Fc id k↔φ.Fc id k/\id<n:=by
 simp only[Foot.trim,Foot.Fc,Uf,Rm];constructor
 ·rintro(⟨h,a⟩|⟨h,a⟩|⟨h,a⟩|⟨h,a⟩)
  ·exact⟨.inl h,a⟩
  ·exact⟨.inr (.inl h),a⟩
  ·exact⟨.inr (.inr (.inl h)),a⟩
  ·exact⟨.inr (.inr (.inr h)),a⟩
 ·rintro⟨h|h|h|h,a⟩
  ·exact .inl ⟨h,a⟩
  ·exact .inr (.inl ⟨h,a⟩)
  ·exact .inr (.inr (.inl ⟨h,a⟩))
  ·exact .inr (.inr (.inr ⟨h,a⟩))
theorem Ns{φ:Foot}{n id:AB}:(φ.trim n).Fi id↔φ.Fi id/\id<n:=by
 simp only[Foot.trim,Foot.Fi,Uf,Rm];constructor
 ·rintro(⟨k,h,a⟩|⟨h,a⟩|⟨k,h,a⟩|⟨h,a⟩)
  ·exact⟨.inl ⟨k,h⟩,a⟩
  ·exact⟨.inr (.inl h),a⟩
  ·exact⟨.inr (.inr (.inl ⟨k,h⟩)),a⟩
  ·exact⟨.inr (.inr (.inr h)),a⟩
 ·rintro⟨⟨k,h⟩|h|⟨k,h⟩|h,a⟩
  ·exact .inl ⟨k,h,a⟩
  ·exact .inr (.inl ⟨h,a⟩)
  ·exact .inr (.inr (.inl ⟨k,h,a⟩))
  ·exact .inr (.inr (.inr ⟨h,a⟩))
section
variable {P:Ao} {D N:AB->Prop} {ι ι':AB->Reg} {h h1:H} {w w':AN} {φ:Foot} {n:AB}
theorem FW(a:∀id,n<=id->h.hdr id=AF){id:AB}(l:Lv h id):id<n:=by
 rcases Cf id n with b|c
 ·exact b
 ·obtain⟨x,e⟩:=l;rw[a id c]at e;cases e
theorem HOn.untrim(a:∀id,n<=id->h.hdr id=AF)(b:HOn P D ι h (φ.trim n) w):HOn P D ι h φ w where
 hd:=λid x f e=>b.hd id x (Ns.2 ⟨f,FW a ⟨x,e⟩⟩) e
 ce:=λid k v f l e=>b.ce id k v (tI.2 ⟨f,FW a l⟩) l e
 inj:=λi j fi g c d=>b.inj i j (Ns.2 ⟨fi,FW a c.lv⟩) (Ns.2 ⟨g,FW a d⟩) c d
theorem Post.trim(d:∀id,n<=id->h.hdr id=AF)(p:Post P D N ι h w φ ι' h1 w'):Post P D N ι h w (φ.trim n) ι' h1 w':=by
 have e:∀id k,φ.Wc id k->¬N id->id<n:=λid k wc a=>FW d (p.wl id k wc a)
 exact {
  io:=p.io
  size:=p.size
  os:=p.os
  out:=p.out
  hdr:=λid x c=>p.hdr id x (c.imp_left λy=>(J0.1 y).1)
  cel:=λid k v c=>p.cel id k v (c.imp_left λy=>(J1.1 y).1)
  ahdr:=λid a i=>p.ahdr id a λx=>i (J0.2 ⟨x,e id 0 (x.wc 0) a⟩)
  acel:=λid k a i=>p.acel id k a λx=>i (J1.2 ⟨x,e id k x a⟩)
  cfr:=λb f j=>(p.cfr b f λid wi wr=>j id (J0.2 ⟨wi,FW d wr.lv⟩) wr).mono λ_ ⟨id,k,wc,wr,r⟩=>⟨id,k,J1.2 ⟨wc,FW d wr.lv⟩,wr,r⟩
  fresh:=λid c lv b f=>(p.fresh id c lv b f).imp_right λ⟨k,l,g,wr,r⟩=>⟨k,J0.2 ⟨l,FW d wr.lv⟩,g,wr,r⟩
  freshF:=λid c lv b f=>(p.freshF id c lv b f).imp_right λx=>x.imp (λ⟨k,l,g,wr,r⟩=>⟨k,J0.2 ⟨l,FW d wr.lv⟩,g,wr,r⟩) λ⟨k,o,g,m,r⟩=>⟨k,Ns.2 ⟨o,FW d m⟩,g,m,r⟩
  dist:=p.dist
  nl:=p.nl
  wl:=λid k wc=>p.wl id k (J1.1 wc).1
  wrm:=p.wrm
  wrow:=λid k wc q=>p.wrow id k (J1.1 wc).1 λx=>q (J0.2 ⟨x,(J1.1 wc).2⟩)}
theorem AFr.trim{σ σ':St}(l:σ.wf)(f:σ'.wf)(a:AFr σ σ' φ):AFr σ σ' (φ.trim σ.next):=by
 have b:∀id,σ.next<=id->¬σ.rng σ' id->σ'.heap.get id=AF/\σ.heap.get id=none:=λid e d=>by
  refine⟨f id ?_,l id e⟩;simp only[St.rng]at d;omega
 refine⟨λid d g=> ?_,λid k d g=> ?_,a.ok⟩
 ·by_cases e:id<σ.next
  ·exact a.h id d λy=>g (J0.2 ⟨y,e⟩)
  ·obtain⟨i,j⟩:=b id (by omega) d;simp only[St.H,i,j]
 ·by_cases e:id<σ.next
  ·exact a.c id k d λy=>g (J1.2 ⟨y,e⟩)
  ·obtain⟨i,j⟩:=b id (by omega) d;simp only[St.H,i,j]
end
structure Rec where
 φ:Foot
 lo:AB
 hi:AB
def Ff(P:Ao)(E:Env)(call:Eh)(nt:AB)(all:AE Az):AE Az->Tr AJ->St->AP (Tr AJ×St×AE Rec)
 |[],s,σ=>AC (s,σ,[])
 |o::os,s,σ=>match HR P E call nt all o s σ with
  |some (s1,σ1,φ1)=>match Ff P E call nt all os s1 σ1 with
   |some (a,σ2,φs)=>AC (a,σ2,⟨φ1.trim σ.next,σ.next,σ1.next⟩::φs)
   |none=>AF
  |none=>AF
def cS:AB->AE AB->AH
 |_,[]=>AK
 |n,x::a=>bif Af n x then AD else cS n a
def mH:AB->AB->AE (AB×AB)->AH
 |_,_,[]=>AK
 |i,k,(j,l)::a=>bif Af i j&&Af k l then AD else mH i k a
def mI:AB->AE (AB×AB)->AH
 |_,[]=>AK
 |i,(j,_)::a=>bif Af i j then AD else mI i a
theorem JP{n:AB}:∀{l:AE AB},n∈l->cS n l=AD
 |x::b,h=>by
  simp only[cS];cases a:Af n x
  ·rcases Dv.1 h with e|e
   ·subst e;rw[Ei rfl]at a;cases a
   ·exact JP e
  ·rfl
theorem PY{i k:AB}:∀{l:AE (AB×AB)},(i,k)∈l->mH i k l=AD
 |(j,m)::b,h=>by
  simp only[mH];cases a:(Af i j&&Af k m)
  ·rcases Dv.1 h with e|e
   ·cases e;simp at a
   ·exact PY e
  ·rfl
theorem PZ{i k:AB}:∀{l:AE (AB×AB)},(i,k)∈l->mI i l=AD
 |(j,m)::b,h=>by
  simp only[mI];cases a:Af i j
  ·rcases Dv.1 h with e|e
   ·cases e;rw[Ei rfl]at a;cases a
   ·exact PZ e
  ·rfl
def XK(a b:Foot):AH:=
 a.wc.all (λp=> !(mH p.1 p.2 b.rc||cS p.1 b.rh||mH p.1 p.2 b.wc||cS p.1 b.wh))&&
 a.wh.all (λi=> !(mI i b.rc||cS i b.rh||mI i b.wc||cS i b.wh))
theorem Il{a b:Foot}(h:XK a b=AD):(∀id k,a.Wc id k->¬b.Fc id k)/\∀id,a.Wi id->¬b.Fi id:=by
 simp only[XK,A0,C8,Hr,Bool.or_eq_false_iff]at h;obtain⟨h1,f⟩:=h;have d:∀id,a.Wi id->¬b.Fi id:=by
  intro id hw c;obtain⟨⟨⟨g1,e⟩,g3⟩,g4⟩:=f id hw;rcases c with⟨k,c⟩|c|⟨k,c⟩|c
  ·rw[PZ c]at g1;cases g1
  ·rw[JP c]at e;cases e
  ·rw[PZ c]at g3;cases g3
  ·rw[JP c]at g4;cases g4
 refine⟨λid k hw c=> ?_,d⟩;rcases hw with hw|hw
 ·obtain⟨⟨⟨g1,e⟩,g3⟩,g4⟩:=h1 (id,k) hw;rcases c with c|c|c|c
  ·rw[PY c]at g1;cases g1
  ·rw[JP c]at e;cases e
  ·rw[PY c]at g3;cases g3
  ·rw[JP c]at g4;cases g4
 ·exact d id hw c.fi
def mJ(lo a:AB)(b:Foot):AH:=
 b.rc.all (λp=> !(B8 lo p.1&&Cq p.1 a))&&b.rh.all (λi=> !(B8 lo i&&Cq i a))&&b.wc.all (λp=> !(B8 lo p.1&&Cq p.1 a))&&b.wh.all (λi=> !(B8 lo i&&Cq i a))
theorem cT{lo c:AB}{b:Foot}(h:mJ lo c b=AD):∀id,lo<=id->id<c->¬b.Fi id:=by
 simp only[mJ,A0,C8,Hr]at h;obtain⟨⟨⟨h1,d⟩,e⟩,f⟩:=h;intro id g a2 a;have key:(B8 lo id&&Cq id c)=true:=by
  rw[A0];exact⟨Nat.ble_eq_true_of_le g,Rm.2 a2⟩
 rcases a with⟨k,a⟩|a|⟨k,a⟩|a
 ·have:=h1 _ a;rw[key]at this;cases this
 ·have:=d _ a;rw[key]at this;cases this
 ·have:=e _ a;rw[key]at this;cases this
 ·have:=f _ a;rw[key]at this;cases this
def LS(ops:Aa Az)(x y:Az)(a b:Rec):AH:=x.apart ops y&&XK a.φ b.φ&&XK b.φ a.φ&&mJ a.lo a.hi b.φ
def IA(a:AE AB):AE Edge->AB
 |[]=>0
 |e::b=>bif L6 .any e then yc (yc (Nat.shiftLeft 1 e.on) (a.getD e.on 0)) (IA a b)else IA a b
def fX(ops:Aa Az)(y:Az)(b:Rec)(c:AB):AB->AE Az->AE Rec->AH
 |_,[],_=>AD
 |_,_,[]=>AD
 |i,x::d,a::as=>(Nat.testBit c i||LS ops x y a b)&&fX ops y b c (i+1) d as
def ANO(ops:Aa Az)(all:AE Az)(recs:AE Rec):AE AB->AE Az->AE Rec->AH
 |_,[],_=>AD
 |_,_::_,[]=>AK
 |acc,y::a,b::bs=>
  y.after.toList.all (λe=> !(L6 .any e)||Nat.blt e.on acc.length)&&
  fX ops y b (IA acc y.after.toList) 0 (all.take acc.length) recs&&ANO ops all recs (acc++[IA acc y.after.toList]) a bs
end Go.Eng
end
end
end
section
noncomputable section
noncomputable section
namespace Go.Eng
open Go
section
variable {P:Ao} {E:Env} {call:Eh} {nt:AB}
theorem Nt(all:AE Az):∀(os:AE Az) (s b:Tr AJ) (σ σ':St) (recs:AE Rec),Ff P E call nt all os s σ=AC (b,σ',recs)->
  ∃(S:AB->Tr AJ) (Z:AB->St) (F:AB->Foot),S 0=s/\Z 0=σ/\S os.length=b/\Z os.length=σ'/\recs.length=os.length/\
   (∀i o,os[i]?=AC o->HR P E call nt all o (S i) (Z i)=AC (S (i+1),Z (i+1),F i))/\
   ∀i,i<os.length->recs[i]?=AC ⟨(F i).trim (Z i).next,(Z i).next,(Z (i+1)).next⟩
 |[],s,b,σ,σ',recs,h=>by
  simp only[Ff,BJ,Ct]at h;obtain⟨rfl,rfl,rfl⟩:=h;exact⟨λ_=>s,λ_=>σ,λ_=>.nil,rfl,rfl,rfl,rfl,rfl,by simp,by simp⟩
 |o::os,s,b,σ,σ',recs,h=>by
  simp only[Ff]at h
  split at h
  ·rename_i s1 σ1 φ1 h1
   split at h
   ·rename_i d σ2 φs e;simp only[BJ,Ct]at h;obtain⟨rfl,rfl,rfl⟩:=h;obtain⟨S,Z,F,f,c,g,j,k,l,m⟩:=Nt all os s1 d σ1 σ2 φs e;refine⟨λi=>match i with|0=>s|i+1=>S i,λi=>match i with|0=>σ|i+1=>Z i,λi=>match i with|0=>φ1|i+1=>F i,rfl,rfl,by simpa using g,by simpa using j,by simp[k],?_,?_⟩
    ·intro i n a;rcases i with _|i
     ·simp only[EM,BJ]at a;subst a;simp only[f,c];exact h1
     ·exact l i n (by simpa using a)
    ·intro i a;rcases i with _|i
     ·simp only[c,EM]
     ·simpa using m i (by simpa using a)
   ·cases h
  ·cases h
def Nu(ops:Aa Az)(S:AB->Prop):Prop:=∀(j:AB) o e,ops[j]?=AC o->S j->e∈o.after.toList->L6 .any e=AD->S e.on
def Yy(ops:Aa Az)(i j:AB):Prop:=∀S,Nu ops S->S j->S i
theorem LU{ops:Aa Az}{acc:AE AB}(a:∀j,j<acc.length->∀i,(acc.getD j 0).testBit i=AD->Yy ops i j):
  ∀(b:AE Edge) (S:AB->Prop),Nu ops S->(∀e∈b,L6 .any e=AD->e.on<acc.length/\S e.on)->∀i,(IA acc b).testBit i=AD->S i
 |[],S,_,_,i,h=>by simp[IA]at h
 |e::b,S,c,d,i,h=>by
  simp only[IA]at h;cases f:L6 .any e
  ·rw[f]at h;exact LU a b S c (λg k=>d g (by simp[k])) i h
  ·rw[f,Ag]at h;obtain⟨l,m⟩:=d e (by simp) f;change ((1<<<e.on|||acc.getD e.on 0)|||IA acc b).testBit i=AD at h;rw[yd,yd,ED,ED]at h;rcases h with(h|h)|h
   ·rw[Nat.testBit_shiftLeft]at h;simp only[A0,decide_eq_true_eq]at h;have:i=e.on:=by
     have n:=h.2;rw[show(1:AB)=2^0 from rfl,Nat.testBit_two_pow]at n;simp at n;omega
    rw[this];exact m
   ·exact a e.on l i h S c m
   ·exact LU a b S c (λg k=>d g (by simp[k])) i h
theorem Sl{ops:Aa Az}{y:Az}{b:Rec}{c:AB}:∀(d:AE Az) (recs:AE Rec) (k:AB),fX ops y b c k d recs=AD->
  ∀i x a,d[i]?=AC x->recs[i]?=AC a->c.testBit (k+i)=AD\/LS ops x y a b=AD
 |[],recs,k,_,i,x,a,e,_=>by simp at e
 |g::d,[],k,_,i,x,a,_,f=>by simp at f
 |g::d,a0::as,k,h,i,x,a,e,f=>by
  simp only[fX,A0,ED]at h;rcases i with _|i
  ·simp only[EM,BJ]at e f;subst e f;exact h.1
  ·have:=Sl d as (k+1) h.2 i x a (by simpa using e) (by simpa using f);rw[show k+(i+1)=k+1+i by omega];exact this
theorem Sm{ops:Aa Az}{recs:AE Rec}:∀(u:AE Az) (bs:AE Rec) (c:AE AB),ANO ops ops.toList recs c u bs=AD->u=ops.toList.drop c.length->bs=recs.drop c.length->
  (∀j,j<c.length->∀i,(c.getD j 0).testBit i=AD->Yy ops i j)->
  (∀(j:AB) o,c.length<=j->ops[j]?=AC o->∀e∈o.after.toList,L6 .any e=AD->e.on<j)/\
  ∀(i j:AB) x y a b,c.length<=j->i<j->ops[i]?=AC x->ops[j]?=AC y->recs[i]?=AC a->recs[j]?=AC b->Yy ops i j\/LS ops x y a b=AD
 |[],bs,c,_,A,_,_=>by
  have P:ops.size<=c.length:=by
   have:=BQ List.length A;simp at this;omega
  refine⟨λj o v r=> ?_,λi j x y a b v _ _ g=> ?_⟩
  ·rw[Jt (by omega)]at r;cases r
  ·rw[Jt (by omega)]at g;cases g
 |s::u,[],c,h,_,_,_=>by simp[ANO]at h
 |s::u,L::bs,c,h,A,E,m=>by
  simp only[ANO,A0]at h;obtain⟨⟨h1,M⟩,N⟩:=h;have n:ops[c.length]?=AC s:=by
   have:=BQ (λl=>l[0]?) A;simp at this;exact this.symm
  have B:recs[c.length]?=AC L:=by
   have:=BQ (λl=>l[0]?) E;simp at this;exact this.symm
  have k:∀e∈s.after.toList,L6 .any e=AD->e.on<c.length:=by
   intro e p d;have:=C8.1 h1 e p;rw[d]at this;simpa using this
  have F:∀i,(IA c s.after.toList).testBit i=AD->Yy ops i c.length:=by
   intro i t S G O;exact LU m _ S G (λe p d=>⟨k e p d,G _ _ _ n O p d⟩) i t
  have f:(c++[IA c s.after.toList]).length=c.length+1:=by simp
  obtain⟨H,I⟩:=Sm u bs (c++[IA c s.after.toList]) N (by
    rw[f,<-En,<-A];rfl) (by rw[f,<-En,<-E];rfl) (λj v i t=>by
    rw[f]at v;by_cases e:j=c.length
    ·subst e;simp[Bg]at t;exact F i t
    ·have w:j<c.length:=by omega
     refine m j w i ?_;rw[Bg,EE w]at t;rw[Bg];exact t)
  rw[f]at H I;refine⟨λj o v r e p d=> ?_,λi j x y a b v z J g K q=> ?_⟩
  ·by_cases C:j=c.length
   ·subst C;rw[n]at r;cases r;exact k e p d
   ·exact H j o (by omega) r e p d
  ·by_cases C:j=c.length
   ·subst C;rw[n]at g;cases g;rw[B]at q;cases q;have D:(ops.toList.take c.length)[i]?=AC x:=by
     rw[List.getElem?_take_of_lt z,Bf];exact J
    have:=Sl _ _ 0 M i x a D K;rw[Nat.zero_add]at this;exact this.imp_left (F i)
   ·exact I i j x y a b (by omega) z J g K q
def Pa(a dn:AB->Prop)(m:AB):Prop:=(m=0/\∀j,dn j->¬a j)\/∃j,m=j+1/\dn j/\a j/\∀b,dn b->a b->b<=j
theorem Gw{α:Type}(a:AB->Prop)(val:AB->α):∀(i:AB),(∀j,j<i->¬a j->val (j+1)=val j)->∃m,Pa a (· <i) m/\val i=val m
 |0,_=>⟨0,.inl ⟨rfl,λ_ f=>Aq f (Hi _)⟩,rfl⟩
 |i+1,h=>by
  by_cases d:a i
  ·exact⟨i+1,.inr ⟨i,rfl,Nat.lt_succ_self i,d,λg k _=>by omega⟩,rfl⟩
  ·obtain⟨m,h1,l⟩:=Gw a val i λj f n=>h j (by omega) n
   refine⟨m,?_,(h i (by omega) d).trans l⟩;rcases h1 with⟨e,h1⟩|⟨j,e,q,o,p⟩
   ·refine .inl ⟨e,λj f=> ?_⟩;by_cases b:j=i
    ·subst b;exact d
    ·exact h1 j (by omega)
   ·refine .inr ⟨j,e,by omega,o,λg k c=> ?_⟩;by_cases b:g=i
    ·subst b;exact Aq c d
    ·exact p g (by omega) c
theorem JQ{a dn b:AB->Prop}{m:AB}(h:Pa a b m)(e:∀j,a j->(dn j↔b j)):Pa a dn m:=by
 rcases h with⟨d,h1⟩|⟨j,d,l,g,n⟩
 ·exact .inl ⟨d,λ_ o i=>h1 _ ((e _ i).1 o) i⟩
 ·exact .inr ⟨j,d,(e j g).2 l,g,λk f c=>n k ((e k c).1 f) c⟩
theorem Sn{a dn:AB->Prop}{m i:AB}(h:Pa a (λj=>dn j\/j=i) m)(c:a i)(d:∀j,dn j->a j->j<i):m=i+1:=by
 rcases h with⟨_,h1⟩|⟨j,g,b,e,f⟩
 ·exact Aq c (h1 i (.inr rfl))
 ·have:=f i (.inr rfl) c;rcases b with b|b
  ·have:=d j b e;omega
  ·omega
theorem Pb{a dn:AB->Prop}{m i:AB}(h:Pa a (λj=>dn j\/j=i) m)(b:¬a i):Pa a dn m:=
 JQ h λ_ c=>⟨.inl,λx=>x.resolve_right λe=>b (e▸c)⟩
end
end Go.Eng
end
end
end
section
noncomputable section
noncomputable section
namespace Go.Eng
open Go
def Dh(Z:AB->St)(F:AB->Foot)(i:AB):Rec:=⟨(F i).trim (Z i).next,(Z i).next,(Z (i+1)).next⟩
structure Run(P:Ao)(E:Env)(call:Eh)(nt:AB)(ops:Aa Az)(S:AB->Tr AJ)(Z:AB->St)(F:AB->Foot):Prop where
 step:∀(i:AB) o,ops[i]?=AC o->HR P E call nt ops.toList o (S i) (Z i)=AC (S (i+1),Z (i+1),F i)
 back:∀(j:AB) o,ops[j]?=AC o->∀e∈o.after.toList,L6 .any e=AD->e.on<j
 pair:∀(i j:AB) x y,i<j->ops[i]?=AC x->ops[j]?=AC y->Yy ops i j\/LS ops x y (Dh Z F i) (Dh Z F j)=AD
 wf0:(Z 0).wf
section
variable {P:Ao} {E:Env} (hE:E.OK P) {call:Eh} (hC:CallSound P E call) {nt:AB} {ops:Aa Az} {S:AB->Tr AJ} {Z:AB->St} {F:AB->Foot} (hR:Run P E call nt ops S Z F)
theorem DR{i:AB}(h:i<ops.size):∃o,ops[i]?=AC o:=⟨ops[i],CX h⟩
theorem cU{i:AB}{o:Az}(h:ops[i]?=AC o):i<ops.size:=by
 rcases Cf i ops.size with a|b
 ·exact a
 ·rw[Jt b]at h;cases h
include hE hC hR
theorem Run.next{i:AB}(h:i<ops.size):(Z i).next<=(Z (i+1)).next:=by
 obtain⟨o,a⟩:=DR h;exact(EO hE hC (hR.step i o a)).1
theorem Run.le{i:AB}:∀{j:AB},i<=j->j<=ops.size->(Z i).next<=(Z j).next:=by
 intro j
 induction j with
 |zero=>intro h _;have:i=0:=by omega
        subst this;exact Ak _
 |succ j a=>
  intro h1 b;by_cases e:i=j+1
  ·subst e;exact Ak _
  ·exact Ea (a (by omega) (by omega)) (hR.next hE hC (by omega))
theorem Run.wf:∀{i:AB},i<=ops.size->(Z i).wf
 |0,_=>hR.wf0
 |i+1,h=>by
  obtain⟨o,a⟩:=DR (ops:=ops) (i:=i) (by omega);exact((EO hE hC (hR.step i o a)).2.1 (Run.wf (by omega))).1
theorem Run.afr{i:AB}(h:i<ops.size):AFr (Z i) (Z (i+1)) (Dh Z F i).φ:=by
 obtain⟨o,c⟩:=DR h;have b:=hR.wf hE hC (i:=i) (by omega);have a:=hR.wf hE hC (i:=i+1) (by omega);exact(((EO hE hC (hR.step i o c)).2.1 b).2).trim b a
theorem Run.ok(a:(Z ops.size).Ok):∀(n i:AB),i+n=ops.size->(Z i).Ok
 |0,i,h=>by rw[show i=ops.size by omega];exact a
 |n+1,i,h=>(hR.afr hE hC (i:=i) (by omega)).ok (Run.ok a n (i+1) (by omega))
omit hE hC hR
def tH(Z:AB->St)(F:AB->Foot)(id j:AB):Prop:=(Dh Z F j).φ.Wi id\/(Z j).rng (Z (j+1)) id
def tC(Z:AB->St)(F:AB->Foot)(id k j:AB):Prop:=(Dh Z F j).φ.Wc id k\/(Z j).rng (Z (j+1)) id
def tS(ops:Aa Az)(t j:AB):Prop:=∃o,ops[j]?=AC o/\o.dst=AC t
structure DInv(P:Ao)(nt:AB)(ops:Aa Az)(S:AB->Tr AJ)(Z:AB->St)(F:AB->Foot)(D:AB->Prop)(ι0:AB->Reg)(w0:AN)(ds:AE rJ)(dn:AB->Prop)(ι:AB->Reg)(g:H)(N:AB->Prop)(φ:Foot)(a:CP)(w:AN):Prop where
 lt:∀j,dn j->j<ops.size
 hN:∀id,N id↔∃j,dn j/\(Z j).rng (Z (j+1)) id
 post:Post P D N ι0 (Z 0).H w0 φ ι g w
 wi:∀id,φ.Wi id↔∃j,dn j/\(Dh Z F j).φ.Wi id
 wc:∀id k,φ.Wc id k↔∃j,dn j/\(Dh Z F j).φ.Wc id k
 fi:∀id,φ.Fi id->∃j,dn j/\(Dh Z F j).φ.Fi id
 fc:∀id k,φ.Fc id k->∃j,dn j/\(Dh Z F j).φ.Fc id k
 vh:∀id m,Pa (tH Z F id) dn m->g.hdr id=(Z m).H.hdr id
 vc:∀id k m,Pa (tC Z F id k) dn m->g.cell id k=(Z m).H.cell id k
 vs:∀t m,Pa (tS ops t) dn m->∀v,(S m).get t=AC v->t<nt/\VR (λi=>D i\/N i) ι v (a.tmps.getD t Bi)
 sz:a.tmps.size=nt
 df:a.defers=ds
include hE hC hR
theorem Run.stepAny{D:AB->Prop}{ι0:AB->Reg}{w0:AN}{ds:AE rJ}{dn:AB->Prop}{ι:AB->Reg}{g:H}{N:AB->Prop}{φ:Foot}{a:CP}{w:AN}{i:AB}{o:Az}{T:Foot}(hok:(Z ops.size).Ok)(n:DInv P nt ops S Z F D ι0 w0 ds dn ι g N φ a w)(R:ops[i]?=AC o)(B:¬dn i)(hcl:Nu ops dn)(hcl':∀e∈o.after.toList,L6 .any e=AD->dn e.on)(hT1:∀j id,j<ops.size->(Dh Z F j).φ.Fi id->T.Fi id)(hT2:∀j id k,j<ops.size->(Dh Z F j).φ.Fc id k->T.Fc id k)(h0:HOn P D ι0 (Z 0).H T w0)(hG:GI E D ι0)(hD:∀j id,j<ops.size->(Z j).rng (Z (j+1)) id->¬D id){K:CP->AN->Prop}{Q:Exit->CP->AN->Prop}(hK:∀ι' g' N' φ' a' w',DInv P nt ops S Z F D ι0 w0 ds (λj=>dn j\/j=i) ι' g' N' φ' a' w'->K a' w'):wpOp P ops Q i K a w:=by
 have U:=cU R;have hcl2:Nu ops λj=>dn j\/j=i:=by
  intro j o' e c hd he hb;rcases hd with hd|rfl
  ·exact .inl (hcl j o' e c hd he hb)
  ·rw[R]at c;cases c;exact .inl (hcl' e he hb)
 have later:∀j y,dn j->ops[j]?=AC y->i<j->LS ops o y (Dh Z F i) (Dh Z F j)=true:=by
  intro j y c J q;rcases hR.pair i j o y q R J with h|h
  ·exact Aq (h dn hcl c) B
  ·exact h
 have r:∀j x,¬dn j->ops[j]?=AC x->j<i->LS ops x o (Dh Z F j) (Dh Z F i)=true:=by
  intro j x c L q;rcases hR.pair j i x o q L R with h|h
  ·rcases h _ hcl2 (.inr rfl)with h|h
   ·exact Aq h c
   ·omega
  ·exact h
 have z:∀x y a b,LS ops x y a b=AD->(x.apart ops y=AD/\(∀id k,a.φ.Wc id k->¬b.φ.Fc id k)/\(∀id,a.φ.Wi id->¬b.φ.Fi id))/\(∀id k,b.φ.Wc id k->¬a.φ.Fc id k)/\(∀id,b.φ.Wi id->¬a.φ.Fi id)/\
   ∀id,a.lo<=id->id<a.hi->¬b.φ.Fi id:=by
  intro x y a b h;simp only[LS,A0]at h;obtain⟨⟨⟨h1,G⟩,h3⟩,h4⟩:=h;exact⟨⟨h1,(Il G).1,(Il G).2⟩,(Il h3).1,(Il h3).2,cT h4⟩
 have C:∀j id,(Dh Z F j).φ.Fi id->id<(Z j).next:=λj id h=>(Ns.1 h).2
 have eqH:∀id,(Dh Z F i).φ.Fi id->∀j,tH Z F id j->(dn j↔j<i):=by
  intro id l j f;constructor
  ·intro c;rcases L9 j i with h|h|h
   ·exact h
   ·subst h;exact Aq c B
   ·obtain⟨y,J⟩:=DR (n.lt j c);have A:=z _ _ _ _ (later j y c J h);rcases f with f|f
    ·exact Aq l (A.2.2.1 id f)
    ·have h1:=C i id l;have G:=hR.le hE hC (i:=i) (j:=j) (by omega) (by have:=n.lt j c;omega);simp only[St.rng]at f;omega
  ·intro q;rcases rI (dn j)with c|c
   ·exact c
   ·obtain⟨x,L⟩:=DR (ops:=ops) (i:=j) (by omega);have A:=z _ _ _ _ (r j x c L q);rcases f with f|f
    ·exact Aq l (A.1.2.2 id f)
    ·exact Aq l (A.2.2.2 id f.1 f.2)
 have sY:∀id k,(Dh Z F i).φ.Fc id k->∀j,tC Z F id k j->(dn j↔j<i):=by
  intro id k l j f;constructor
  ·intro c;rcases L9 j i with h|h|h
   ·exact h
   ·subst h;exact Aq c B
   ·obtain⟨y,J⟩:=DR (n.lt j c);have A:=z _ _ _ _ (later j y c J h);rcases f with f|f
    ·exact Aq l (A.2.1 id k f)
    ·have h1:=C i id l.fi;have G:=hR.le hE hC (i:=i) (j:=j) (by omega) (by have:=n.lt j c;omega);simp only[St.rng]at f;omega
  ·intro q;rcases rI (dn j)with c|c
   ·exact c
   ·obtain⟨x,L⟩:=DR (ops:=ops) (i:=j) (by omega);have A:=z _ _ _ _ (r j x c L q);rcases f with f|f
    ·exact Aq l (A.1.2.1 id k f)
    ·exact Aq l.fi (A.2.2.2 id f.1 f.2)
 have eqS:∀t,t∈o.looksAt ops->∀j,tS ops t j->(dn j↔j<i):=by
  intro t hl j f;obtain⟨x,L,hxd⟩:=f;constructor
  ·intro c;rcases L9 j i with h|h|h
   ·exact h
   ·subst h;exact Aq c B
   ·have A:=(z _ _ _ _ (later j x c L h)).1.1;exact Aq hl ((rK A).2.2 t hxd)
  ·intro q;rcases rI (dn j)with c|c
   ·exact c
   ·have A:=(z _ _ _ _ (r j x c L q)).1.1;exact Aq hl ((rK A).1 t hxd)
 have ag1:∀id,(Dh Z F i).φ.Fi id->g.hdr id=(Z i).H.hdr id:=by
  intro id l;obtain⟨m,h1,G⟩:=Gw (tH Z F id) (λj=>(Z j).H.hdr id) i λj c M=>
   (hR.afr hE hC (i:=j) (by omega)).1 id (λx=>M (.inr x)) λx=>M (.inl x)
  rw[n.vh id m (JQ h1 λj c=>eqH id l j c),G]
 have ag2:∀id k,(Dh Z F i).φ.Fc id k->g.cell id k=(Z i).H.cell id k:=by
  intro id k l;obtain⟨m,h1,G⟩:=Gw (tC Z F id k) (λj=>(Z j).H.cell id k) i λj c M=>
   (hR.afr hE hC (i:=j) (by omega)).2 id k (λx=>M (.inr x)) λx=>M (.inl x)
  rw[n.vc id k m (JQ h1 λj c=>sY id k l j c),G]
 have slotStep:∀j,j<ops.size->∀t,¬tS ops t j->(S (j+1)).get t=(S j).get t:=by
  intro j c t M;obtain⟨x,L⟩:=DR c;obtain⟨_,_,v,A,_⟩:=EO hE hC (hR.step j x L);cases hd:x.dst with
  |none=>rw[A.1 hd]
  |some d=>
   rw[(A.2 d hd).2 t,AY];intro e;exact M ⟨x,L,by rw[hd,e]⟩
 have ag3:∀t,t∈o.looksAt ops->∀v,(S i).get t=AC v->t<nt/\VR (λi=>D i\/N i) ι v (a.tmps.getD t Bi):=by
  intro t hl v hv;obtain⟨m,h1,G⟩:=Gw (tS ops t) (λj=>(S j).get t) i λj c M=>slotStep j (by omega) t M
  have G:(S i).get t=(S m).get t:=G;rw[G]at hv;exact n.vs t m (JQ h1 λj c=>eqS t hl j c) v hv
 obtain⟨hnx,_,v,hps,hst⟩:=EO hE hC (hR.step i o R);have Y:=hR.wf hE hC (i:=i) (by omega);have V:∀id,(Z i).rng (Z (i+1)) id->¬N id:=by
  intro id s M;obtain⟨j,c,hr'⟩:=(n.hN id).1 M;have hjl:=n.lt j c;rcases L9 j i with h|h|h
  ·have:=hR.le hE hC (i:=j+1) (j:=i) (by omega) (by omega);simp only[St.rng]at s hr';omega
  ·subst h;exact B c
  ·have:=hR.le hE hC (i:=i+1) (j:=j) (by omega) (by omega);simp only[St.rng]at s hr';omega
 have hDN:∀id,N id->¬D id:=by
  intro id M;obtain⟨j,c,s⟩:=(n.hN id).1 M;exact hD j id (n.lt j c) s
 have hDi:∀id,(Z i).rng (Z (i+1)) id->¬(D id\/N id):=λid s L=>L.elim (hD i id U s) (V id s)
 have hT:HOn P D ι0 (Z 0).H (φ.add (Dh Z F i).φ) w0:=h0.sub
  (λid l=>by
   rcases Foot.add_Fi.1 l with l|l
   ·obtain⟨j,c,l⟩:=n.fi id l;exact hT1 j id (n.lt j c) l
   ·exact hT1 i id U l)
  (λid k l=>by
   rcases Foot.add_Fc.1 l with l|l
   ·obtain⟨j,c,l⟩:=n.fc id k l;exact hT2 j id k (n.lt j c) l
   ·exact hT2 i id k U l)
 have hon:HOn P (λi=>D i\/N i) ι g (Dh Z F i).φ w:=n.post.hon hT hDN;have hon2:HOn P (λi=>D i\/N i) ι (Z i).H (Dh Z F i).φ w:=hon.congr (λid l=>(ag1 id l).symm) λid k l=>(ag2 id k l).symm
 have hon3:HOn P (λi=>D i\/N i) ι (Z i).H (F i) w:=hon2.untrim λid hid=>St.hdr_none Y id hid
 refine hst (hR.ok hE hC hok (ops.size-(i+1)) (i+1) (by omega)) _ ι w a i K Q R Y (hG.next hDN n.post.io) hDi n.sz ag3 hon3 ?_;intro v' ι' w' hv A;have hp2:Post P (λi=>D i\/N i) ((Z i).rng (Z (i+1))) ι (Z i).H w (Dh Z F i).φ ι' (Z (i+1)).H w':=A.trim λid hid=>St.hdr_none Y id hid
 have I:∀id,(Z i).rng (Z (i+1)) id->(Z 0).H.hdr id=none:=λid s=>St.hdr_none hR.wf0 id (by
  have:=hR.le hE hC (i:=0) (j:=i) (by omega) (by omega);simp only[St.rng]at s;omega)
 have hnone:∀id,(Z i).rng (Z (i+1)) id->g.hdr id=none:=by
  intro id s;obtain⟨m,h1,G⟩:∃m,Pa (tH Z F id) dn m/\m=0:=by
   refine⟨0,.inl ⟨rfl,λj c f=> ?_⟩,rfl⟩;have hjl:=n.lt j c;rcases f with f|f
   ·
    have q:=C j id f.fi;rcases L9 j i with h|h|h
    ·have:=hR.le hE hC (i:=j) (j:=i) (by omega) (by omega);simp only[St.rng]at s;omega
    ·subst h;exact B c
    ·obtain⟨y,J⟩:=DR hjl;exact(z _ _ _ _ (later j y c J h)).2.2.2 id s.1 s.2 f.fi
   ·exact V id s ((n.hN id).2 ⟨j,c,f⟩)
  rw[n.vh id m h1,G];exact I id s
 have hmv:=hp2.move ag1 hnone;have htr:=Post.trans hT n.post hmv hDi I;refine hK ι' (Sj g (Dh Z F i).φ ((Z i).rng (Z (i+1))) (Z (i+1)).H) (λid=>N id\/(Z i).rng (Z (i+1)) id) (φ.add (Dh Z F i).φ) (a.put o.dst v') w' ?_;refine { lt:= ?_,hN:= ?_,post:=htr,wi:= ?_,wc:= ?_,fi:= ?_,fc:= ?_,vh:= ?_,vc:= ?_,vs:= ?_,sz:=(Yx _ _ _).trans n.sz,df:=(Sf _ _ _).trans n.df}
 ·rintro j (c|rfl)
  ·exact n.lt j c
  ·exact U
 ·intro id;constructor
  ·rintro(h|h)
   ·obtain⟨j,c,s⟩:=(n.hN id).1 h;exact⟨j,.inl c,s⟩
   ·exact⟨i,.inr rfl,h⟩
  ·rintro⟨j,c|rfl,s⟩
   ·exact .inl ((n.hN id).2 ⟨j,c,s⟩)
   ·exact .inr s
 ·intro id;rw[Foot.add_Wi,n.wi];constructor
  ·rintro(⟨j,c,h⟩|h)
   ·exact⟨j,.inl c,h⟩
   ·exact⟨i,.inr rfl,h⟩
  ·rintro⟨j,c|rfl,h⟩
   ·exact .inl ⟨j,c,h⟩
   ·exact .inr h
 ·intro id k;rw[Foot.add_Wc,n.wc];constructor
  ·rintro(⟨j,c,h⟩|h)
   ·exact⟨j,.inl c,h⟩
   ·exact⟨i,.inr rfl,h⟩
  ·rintro⟨j,c|rfl,h⟩
   ·exact .inl ⟨j,c,h⟩
   ·exact .inr h
 ·intro id l;rcases Foot.add_Fi.1 l with l|l
  ·obtain⟨j,c,h⟩:=n.fi id l;exact⟨j,.inl c,h⟩
  ·exact⟨i,.inr rfl,l⟩
 ·intro id k l;rcases Foot.add_Fc.1 l with l|l
  ·obtain⟨j,c,h⟩:=n.fc id k l;exact⟨j,.inl c,h⟩
  ·exact⟨i,.inr rfl,l⟩
 ·intro id m W;by_cases f:tH Z F id i
  ·have:m=i+1:=Sn W f λj c p=>by
    rcases f with f|f
    ·exact(eqH id f.fi j p).1 c
    ·
     exfalso;rcases p with p|p
     ·have q:=C j id p.fi;rcases L9 j i with h|h|h
      ·have:=hR.le hE hC (i:=j) (j:=i) (by omega) (by omega);simp only[St.rng]at f;omega
      ·subst h;exact B c
      ·obtain⟨y,J⟩:=DR (n.lt j c);exact(z _ _ _ _ (later j y c J h)).2.2.2 id f.1 f.2 p.fi
     ·exact V id f ((n.hN id).2 ⟨j,c,p⟩)
   rw[this];exact FV f
  ·have O:=Pb W f;rw[MO f];exact n.vh id m O
 ·intro id k m W;by_cases f:tC Z F id k i
  ·have:m=i+1:=Sn W f λj c p=>by
    rcases f with f|f
    ·exact(sY id k f.fc j p).1 c
    ·exfalso;rcases p with p|p
     ·have q:=C j id p.fi;rcases L9 j i with h|h|h
      ·have:=hR.le hE hC (i:=j) (j:=i) (by omega) (by omega);simp only[St.rng]at f;omega
      ·subst h;exact B c
      ·obtain⟨y,J⟩:=DR (n.lt j c);exact(z _ _ _ _ (later j y c J h)).2.2.2 id f.1 f.2 p.fi
     ·exact V id f ((n.hN id).2 ⟨j,c,p⟩)
   rw[this];exact VY f
  ·have O:=Pb W f;rw[Sk f];exact n.vc id k m O
 ·intro t m W u hu;have X:∀j,(D j\/N j)\/(Z i).rng (Z (i+1)) j->D j\/(N j\/(Z i).rng (Z (i+1)) j):=λj h=>or_assoc.1 h
  by_cases f:tS ops t i
  ·obtain⟨o',ho',hd⟩:=f;rw[R]at ho';cases ho';have:m=i+1:=Sn W ⟨o,R,hd⟩ λj c p=>by
    obtain⟨y,J,hyd⟩:=p;rcases L9 j i with h|h|h
    ·exact h
    ·subst h;exact Aq c B
    ·have A:=(z _ _ _ _ (later j y c J h)).1.1;exact Aq hyd ((rK A).2.1 t hd)
   subst this;obtain⟨p1,p2⟩:=hps.2 t hd;rw[p2 t,Ae rfl]at hu;cases hu;refine⟨p1,?_⟩;rw[hd,Si a t v' (by rw[n.sz];exact p1)];exact hv.mono X λ_ _=>rfl
  ·have O:=Pb W f;obtain⟨q1,q2⟩:=n.vs t m O u hu;refine⟨q1,?_⟩;have hne:o.dst≠AC t:=λe=>f ⟨o,R,e⟩
   rw[Sg a o.dst v' t hne];exact q2.mono (λj c=>X j (.inl c)) λj c=>A.io j λs=>hDi j s c
end
end Go.Eng
end
end
end
section
noncomputable section
noncomputable section
namespace Go.Eng
open Go
def Co:AE Rec->Foot
 |[]=>.nil
 |r::rs=>r.φ.add (Co rs)
def sZ:AB->Aa AH->AB
 |0,_=>0
 |k+1,l=>sZ k l+(bif l.getD k AD then 0 else 1)
theorem fY{l:Aa AH}{i:AB}(c:i<l.size):∀k,sZ k (l.setIfInBounds i AD)+(if i<k/\l.getD i AD=AK then 1 else 0)=sZ k l
 |0=>by simp[sZ]
 |k+1=>by
  have b:=fY c k;simp only[sZ];by_cases e:k=i
  ·subst e;rw[AY (by omega)]at b;have h1:(l.setIfInBounds k AD).getD k AD=true:=by simp
   rw[h1];cases d:l.getD k AD
   ·rw[Ae ⟨by omega,rfl⟩];simp only[Ag,BZ];omega
   ·rw[AY (by simp)];simp only[Ag];omega
  ·have h1:(l.setIfInBounds i AD).getD k AD=l.getD k true:=by
    simp only[O9,FG (Ne.symm e)]
   rw[h1];by_cases a:i<k/\l.getD i AD=AK
   ·rw[Ae a]at b;rw[Ae ⟨by omega,a.2⟩];omega
   ·rw[AY a]at b;rw[AY]
    ·omega
    ·intro h;exact a ⟨by omega,h.2⟩
theorem Yz{l:Aa AH}:∀k,sZ k l=0->∀j,j<k->l.getD j AD=AD
 |0,_,j,h=>Aq h (Hi j)
 |k+1,h,j,b=>by
  simp only[sZ]at h;by_cases e:j=k
  ·subst e;cases a:l.getD j AD
   ·rw[a]at h;simp at h
   ·rfl
  ·exact Yz k (by omega) j (by omega)
theorem Y0(n:AB):∀k,k<=n->sZ k (PA n AK)=k
 |0,_=>rfl
 |k+1,h=>by
  simp only[sZ];rw[Y0 n k (by omega)];have:(PA n AK).getD k AD=false:=by
   simp[O9,show k<n by omega]
  rw[this];rfl
theorem Y1{n:AB}(j:AB):¬((PA n AK).getD j AK=AD):=by
 rw[O9,Array.getElem?_replicate]
 split<;>simp
section
variable {P:Ao} {E:Env} (hE:E.OK P) {call:Eh} (hC:CallSound P E call) {nt:AB} {ops:Aa Az} {S:AB->Tr AJ} {Z:AB->St} {F:AB->Foot} (hR:Run P E call nt ops S Z F)
theorem Pc{l:Aa AH}{i:AB}:i∈iM .any ops l↔i<ops.size/\l.getD i AD=AK/\∃o,ops[i]?=AC o/\∀e∈o.after.toList,L6 .any e=AD->l.getD e.on AK=true:=by
 unfold iM;simp only[Uf,List.mem_range,A0,Hr];constructor
 ·rintro⟨h1,c,a⟩;obtain⟨o,b⟩:=DR h1;refine⟨h1,c,o,b,λe d f=> ?_⟩;rw[b]at a;simp only[Ib,Ue]at a;rw[<-ya]at a;have:=C8.1 a e d;rw[f]at this;simpa using this
 ·rintro⟨h1,c,o,b,a⟩;refine⟨h1,c,?_⟩;rw[b];simp only[Ib,Ue];rw[<-ya,C8];intro e d;cases f:L6 .any e
  ·rfl
  ·simpa using a e d f
include hR in
theorem cV{l:Aa AH}(h:iM .any ops l=[]):∀j,j<ops.size->l.getD j AD=true:=by
 intro j
 induction j using Nat.strongRecOn with
 |_ j g=>
  intro d;cases a:l.getD j AD
  ·exfalso;obtain⟨o,f⟩:=DR d;have:j∈iM .any ops l:=Pc.2 ⟨d,a,o,f,λe i b=>by
    have c:=hR.back j o f e i b;have h1:=g e.on c (by omega);have:e.on<l.size:=by
     rcases Cf j l.size with m|k
     ·omega
     ·rw[O9,Jt k]at a;cases a
    rw[O9,CX this]at h1⊢;exact h1⟩
   rw[h]at this;cases this
  ·rfl
include hE hC hR
theorem Run.any(s:(Z ops.size).Ok){D:AB->Prop}{ι0:AB->Reg}{w0:AN}{ds:AE rJ}{T:Foot}{Q:Exit->CP->AN->Prop}(t:∀j id,j<ops.size->(Dh Z F j).φ.Fi id->T.Fi id)(u:∀j id k,j<ops.size->(Dh Z F j).φ.Fc id k->T.Fc id k)(K:HOn P D ι0 (Z 0).H T w0)(L:GI E D ι0)(M:∀j id,j<ops.size->(Z j).rng (Z (j+1)) id->¬D id)(A:∀dn ι g N φ a w,(∀j,j<ops.size->dn j)->DInv P nt ops S Z F D ι0 w0 ds dn ι g N φ a w->Q .normal a w):
  ∀(b:AB) (l:Aa AH) (ι:AB->Reg) (g:H) (N:AB->Prop) (φ:Foot) (a:CP) (w:AN),l.size=ops.size->sZ ops.size l=b->Nu ops (λj=>l.getD j AK=AD)->
   DInv P nt ops S Z F D ι0 w0 ds (λj=>l.getD j AK=AD) ι g N φ a w->wpAny P .any ops Q b l a w:=by
 have v:∀(l:Aa AH) j,l.size=ops.size->j<ops.size->(l.getD j AD=AD↔l.getD j AK=AD):=by
  intro l j m c;have:j<l.size:=by omega
  simp only[O9,CX this,Ue]
 intro b
 induction b with
 |zero=>
  intro l ι g N φ a w m B f r;have hall:=Yz _ B;refine⟨?_,A _ ι g N φ a w (λj c=>(v l j m c).1 (hall j c)) r⟩;rw[List.eq_nil_iff_forall_not_mem];intro i x;obtain⟨h1,n,_⟩:=Pc.1 x;rw[hall i h1]at n;cases n
 |succ b O=>
  intro l ι g N φ a w m B f r;refine⟨λR=>A _ ι g N φ a w (λj c=>(v l j m c).1 (cV hR R j c)) r,λi x=> ?_⟩;obtain⟨h1,n,o,C,G⟩:=Pc.1 x;have y:¬(l.getD i AK=AD):=λh=>by
   rw[(v l i m h1).2 h]at n;cases n
  refine hR.stepAny hE hC s r C y f G t u K L M ?_;intro ι' U N' φ' V w' p;have q:∀j,(l.getD j AK=AD\/j=i)=((l.setIfInBounds i AD).getD j AK=AD):=by
   intro j;apply propext;have z:i<l.size:=by omega
   by_cases e:j=i
   ·subst e;simp[O9,z]
   ·rw[O9,O9,FG (Ne.symm e)];simp[e]
  have d:(λj=>l.getD j AK=AD\/j=i)=λj=>(l.setIfInBounds i AD).getD j AK=true:=funext q
  rw[d]at p;refine O _ ι' U N' φ' V w' (by simp[m]) ?_ ?_ p
  ·have:=fY (l:=l) (i:=i) (by omega) ops.size;rw[Ae ⟨h1,n⟩]at this;omega
  ·rw[<-d];intro j W e c hd I J;rcases hd with hd|rfl
   ·exact .inl (f j W e c hd I J)
   ·rw[C]at c;cases c;exact .inl (G e I J)
omit hE hC hR
theorem XL{recs:AE Rec}:(∀id,(Co recs).Wi id↔∃r∈recs,r.φ.Wi id)/\(∀id k,(Co recs).Wc id k↔∃r∈recs,r.φ.Wc id k)/\
  (∀id,(Co recs).Fi id↔∃r∈recs,r.φ.Fi id)/\∀id k,(Co recs).Fc id k↔∃r∈recs,r.φ.Fc id k:=by
 induction recs with
 |nil=>simp[Co,Foot.nil,Foot.Wi,Foot.Wc,Foot.Fi,Foot.Fc]
 |cons r rs a=>
  obtain⟨h1,b,c,d⟩:=a;refine⟨λid=> ?_,λid k=> ?_,λid=> ?_,λid k=> ?_⟩
  ·rw[Co,Foot.add_Wi,h1];simp
  ·rw[Co,Foot.add_Wc,b];simp
  ·rw[Co,Foot.add_Fi,c];simp
  ·rw[Co,Foot.add_Fc,d];simp
include hE hC in
theorem Nv{s s':Tr AJ}{σ σ':St}{recs:AE Rec}(h:Ff P E call nt ops.toList ops.toList s σ=AC (s',σ',recs))(M:ANO ops ops.toList recs [] ops.toList recs=AD):
  σ.next<=σ'.next/\(σ.wf->σ'.wf/\AFr σ σ' (Co recs))/\
  (σ'.Ok->∀(D:AB->Prop) (ι:AB->Reg) (w:AN) (a:CP) (Q:Exit->CP->AN->Prop),σ.wf->GI E D ι->(∀id,σ.rng σ' id->¬D id)->JD nt D ι s a->HOn P D ι σ.H (Co recs) w->
   (∀ι' w' W,JD nt (λi=>D i\/σ.rng σ' i) ι' s' W->W.defers=a.defers->Post P D (σ.rng σ') ι σ.H w (Co recs) ι' σ'.H w'->Q .normal W w')->
   wpAny P .any ops Q ops.size (PA ops.size AK) a w):=by
 obtain⟨S,Z,F,rfl,rfl,e3,A,e5,e6,X⟩:=Nt ops.toList ops.toList _ _ _ _ _ h;rw[D0]at e3 A X;have e5:recs.length=ops.size:=e5.trans D0;have K:∀(i:AB) o,ops[i]?=AC o->HR P E call nt ops.toList o (S i) (Z i)=AC (S (i+1),Z (i+1),F i):=λi o q=>e6 i o (by rw[Bf];exact q)
 obtain⟨k1,k2⟩:=Sm ops.toList recs [] M (by simp) (by simp) (by simp);have O:(Z 0).wf->Run P E call nt ops S Z F:=λG=>
  { step:=K,back:=λj o Y=>k1 j o (Cx _) Y
    pair:=λi j x y hij p hy=>k2 i j x y _ _ (Cx _) hij p hy (X i (by have:=cU hy;omega)) (X j (cU hy))
    wf0:=G}
 have c:∀r,r∈recs↔∃j,j<ops.size/\r=Dh Z F j:=by
  intro r;rw[List.mem_iff_getElem?];constructor
  ·rintro⟨j,b⟩;have I:j<ops.size:=by
    rcases Cf j recs.length with h|h
    ·rw[e5]at h;exact h
    ·rw[DA h]at b;cases b
   rw[X j I]at b;cases b;exact⟨j,I,rfl⟩
  ·rintro⟨j,b,rfl⟩;exact⟨j,X j b⟩
 obtain⟨f1,f2,f3,f4⟩:=XL (recs:=recs);have hafr:(G:(Z 0).wf)->AFr (Z 0) σ' (Co recs):=by
  intro G;have hR:=O G;have le0:=λj=>hR.le hE hC (i:=0) (j:=j)
  refine⟨λid B hwi=> ?_,λid k B hwc=> ?_,λM=>hR.ok hE hC (by rw[A];exact M) ops.size 0 (by omega)⟩
  ·have:∀j,j<=ops.size->(Z j).H.hdr id=(Z 0).H.hdr id:=by
    intro j
    induction j with
    |zero=>intro _;rfl
    |succ j R=>
     intro b;rw[<-R (by omega)];refine(hR.afr hE hC (i:=j) (by omega)).1 id (λl=>B ?_) λp=>hwi ((f1 id).2 ⟨_,(c _).2 ⟨j,by omega,rfl⟩,p⟩)
     have q1:=le0 j (by omega) (by omega);have q2:=hR.le hE hC (i:=j+1) (j:=ops.size) (by omega) (Ak _);rw[A]at q2;simp only[St.rng]at l⊢;omega
   rw[<-A];exact this ops.size (Ak _)
  ·have:∀j,j<=ops.size->(Z j).H.cell id k=(Z 0).H.cell id k:=by
    intro j
    induction j with
    |zero=>intro _;rfl
    |succ j R=>
     intro b;rw[<-R (by omega)];refine(hR.afr hE hC (i:=j) (by omega)).2 id k (λl=>B ?_) λp=>hwc ((f2 id k).2 ⟨_,(c _).2 ⟨j,by omega,rfl⟩,p⟩)
     have q1:=le0 j (by omega) (by omega);have q2:=hR.le hE hC (i:=j+1) (j:=ops.size) (by omega) (Ak _);rw[A]at q2;simp only[St.rng]at l⊢;omega
   rw[<-A];exact this ops.size (Ak _)
 have hle:∀j,j<=ops.size->(Z 0).next<=(Z j).next:=by
  intro j
  induction j with
  |zero=>intro _;exact Ak _
  |succ j R=>
   intro b;obtain⟨o,Y⟩:=DR (ops:=ops) (i:=j) (by omega);exact Ea (R (by omega)) (EO hE hC (K j o Y)).1
 refine⟨by rw[<-A];exact hle _ (Ak _),λG=>⟨?_,hafr G⟩,?_⟩
 ·rw[<-A];exact(O G).wf hE hC (Ak _)
 ·intro hokf D ι w a Q G hG hd hs Y hQ;have hR:=O G;have L:∀j id,j<ops.size->(Z j).rng (Z (j+1)) id->(Z 0).rng σ' id:=by
   intro j id b l;have q1:=hR.le hE hC (i:=0) (j:=j) (by omega) (by omega);have q2:=hR.le hE hC (i:=j+1) (j:=ops.size) (by omega) (Ak _);rw[A]at q2;simp only[St.rng]at l⊢;omega
  have U:∀id,(Z 0).rng σ' id->∃j,j<ops.size/\(Z j).rng (Z (j+1)) id:=by
   intro id l;have:∀n,n<=ops.size->(Z 0).next<=id->id<(Z n).next->∃j,j<n/\(Z j).rng (Z (j+1)) id:=by
    intro n
    induction n with
    |zero=>intro _ h1 J;omega
    |succ n R=>
     intro B h1 J;by_cases I:id<(Z n).next
     ·obtain⟨j,b,l⟩:=R (by omega) h1 I;exact⟨j,by omega,l⟩
     ·exact⟨n,by omega,by simp only[St.rng];omega⟩
   exact this ops.size (Ak _) l.1 (by rw[A];exact l.2)
  refine hR.any hE hC (by rw[A];exact hokf) (ds:=a.defers) (ι0:=ι) (D:=D) (w0:=w) (T:=Co recs) (λj id b hf=>(f3 id).2 ⟨_,(c _).2 ⟨j,b,rfl⟩,hf⟩) (λj id k b hf=>(f4 id k).2 ⟨_,(c _).2 ⟨j,b,rfl⟩,hf⟩)
   Y hG (λj id b l=>hd id (L j id b l)) ?_ ops.size _ ι (Z 0).H (λ_=>False) .nil a w (by simp) (Y0 _ _ (Ak _)) ?_ ?_
  ·intro dn ι' g N φ W w' hall q;have hN:N=(Z 0).rng σ':=by
    funext id;apply propext;rw[q.hN];constructor
    ·rintro⟨j,b,l⟩;exact L j id (q.lt j b) l
    ·intro l;obtain⟨j,b,hr'⟩:=U id l;exact⟨j,hall j b,hr'⟩
   subst hN;have u:∀f:AB->Prop,∀m,Pa f (· <ops.size) m->Pa f dn m:=λf m h=>
    JQ h λj _=>⟨λb=>q.lt j b,λb=>hall j b⟩
   have hg1:∀id,g.hdr id=σ'.H.hdr id:=by
    intro id;obtain⟨m,h1,J⟩:=Gw (tH Z F id) (λj=>(Z j).H.hdr id) ops.size λj b B=>
     (hR.afr hE hC b).1 id (λx=>B (.inr x)) λx=>B (.inl x)
    rw[q.vh id m (u _ m h1),<-J,A]
   have hg2:∀id k,g.cell id k=σ'.H.cell id k:=by
    intro id k;obtain⟨m,h1,J⟩:=Gw (tC Z F id k) (λj=>(Z j).H.cell id k) ops.size λj b B=>
     (hR.afr hE hC b).2 id k (λx=>B (.inr x)) λx=>B (.inl x)
    rw[q.vc id k m (u _ m h1),<-J,A]
   refine hQ ι' w' W ⟨q.sz,λt v V=> ?_⟩ q.df ?_
   ·obtain⟨m,h1,J⟩:=Gw (tS ops t) (λj=>(S j).get t) ops.size λj b B=>by
     obtain⟨x,p⟩:=DR b;obtain⟨_,_,v,hp,_⟩:=EO hE hC (hR.step j x p);cases hd:x.dst with
     |none=>simp only[hp.1 hd]
     |some d=>
      show(S (j+1)).get t=(S j).get t;rw[(hp.2 d hd).2 t,AY];intro e;exact B ⟨x,p,by rw[hd,e]⟩
    have J:(S ops.size).get t=(S m).get t:=J;rw[<-e3,J]at V;exact q.vs t m (u _ m h1) v V
   ·refine(q.post.same_foot (λid=> ?_) (λid k=> ?_) λid hf=>by
     obtain⟨j,b,p⟩:=q.fi id hf;exact(f3 id).2 ⟨_,(c _).2 ⟨j,q.lt j b,rfl⟩,p⟩).same_heap (λid=>(hg1 id).symm) λid k=>(hg2 id k).symm
    ·rw[f1,q.wi];constructor
     ·rintro⟨r,l,p⟩;obtain⟨j,b,rfl⟩:=(c r).1 l;exact⟨j,hall j b,p⟩
     ·rintro⟨j,b,p⟩;exact⟨_,(c _).2 ⟨j,q.lt j b,rfl⟩,p⟩
    ·rw[f2,q.wc];constructor
     ·rintro⟨r,l,p⟩;obtain⟨j,b,rfl⟩:=(c r).1 l;exact⟨j,hall j b,p⟩
     ·rintro⟨j,b,p⟩;exact⟨_,(c _).2 ⟨j,q.lt j b,rfl⟩,p⟩
  ·intro j o e _ hd;exact Aq hd (Y1 j)
  ·have C:∀j,¬((PA ops.size AK).getD j AK=AD):=Y1;have z:∀(f:AB->Prop) m,Pa f (λj=>(PA ops.size AK).getD j AK=AD) m->m=0:=by
    intro f m h;rcases h with⟨e,_⟩|⟨j,_,b,_⟩
    ·exact e
    ·exact Aq b (C j)
   exact {
    lt:=λj b=>Aq b (C j)
    hN:=λid=>⟨λh=>h.elim,λ⟨j,b,_⟩=>Aq b (C j)⟩
    post:=Post.refl _ _ _ _ _ _ λ_=>not_false
    wi:=λid=>⟨λh=>by simp[Foot.Wi,Foot.nil]at h,λ⟨j,b,_⟩=>Aq b (C j)⟩
    wc:=λid k=>⟨λh=>by simp[Foot.Wc,Foot.nil]at h,λ⟨j,b,_⟩=>Aq b (C j)⟩
    fi:=λid h=>by simp[Foot.Fi,Foot.nil]at h
    fc:=λid k h=>by simp[Foot.Fc,Foot.nil]at h
    vh:=λid m hm=>by rw[z _ m hm]
    vc:=λid k m hm=>by rw[z _ m hm]
    vs:=λt m hm v V=>by
     rw[z _ m hm]at V;exact⟨(hs.2 t v V).1,(hs.2 t v V).2.mono (λ_=>.inl) λ_ _=>rfl⟩
    sz:=hs.1
    df:=rfl}
