/-
  The engine, part 6: an abstract evaluator over the model's code, proved sound. No condition.
-/
import Derived.Test.YtkgejlchafionaaGreatDoorEng5
section
noncomputable section
noncomputable section
namespace Go.Eng
open Go
def OT.dflt:(t:OT)->t.Den
 | .d t=>t.dflt
 | .vec t _=>([]:List t.Den)
 | .unit=>()
 | .pair a b=>(a.dflt,b.dflt)
 | .ptr a _=>a.dflt
 | .con _=>()
def BA:(t:OT)->t.Den->St->List Value×St
 | .d t,x,σ=>EM (X8 t x) σ
 | .vec t e,c,σ=>([dt σ.next],σ.new (.vec t c e))
 | .unit,_,σ=>([],σ)
 | .pair a b,x,σ=>match BA a x.1 σ with
   |(vs,σ1)=>match BA b x.2 σ1 with
    |(f,σ2)=>(vs++f,σ2)
 | .ptr a e,x,σ=>match BA a x σ with
   |(vs,σ1)=>([.pointer (some ⟨σ1.next,0,none⟩)],σ1.new (.row vs e false))
 | .con vs,_,σ=>(vs,σ)
def s0:List Value->Value
 |v::_=>v
 |[]=>undef
def FK:(rs:List OT)->Bz rs->St->List Value×St
 |[],_,σ=>([],σ)
 |r::rs,y,σ=>match BA r y.1 σ with
  |(vs,σ1)=>match FK rs y.2 σ1 with
   |(a,σ2)=>((bif r.agg then .agg vs.toArray else s0 vs)::a,σ2)
structure MatA (σ σ':St):Prop where
 le:σ.next<=σ'.next
 pc:σ'.pc=σ.pc
 old:∀id,¬σ.rng σ' id->σ'.heap.get id=σ.heap.get id
theorem MatA.refl (σ:St):MatA σ σ:=⟨Nat.le_refl _,rfl,λ_ _=>rfl⟩
theorem MatA.trans {σ σ1 σ2:St} (a:MatA σ σ1) (b:MatA σ1 σ2):MatA σ σ2:=
 ⟨Nat.le_trans a.le b.le,b.pc.trans a.pc,λid h=>by
  have h1:=a.le;have d:=b.le;rw[b.old id λc=>h ⟨by have:=c.1;omega,c.2⟩,a.old id λc=>h ⟨c.1,by have:=c.2;omega⟩]⟩
theorem MatA.new (σ:St) (o:AO):MatA σ (σ.new o):=
 ⟨by simp[St.new],rfl,λid h=>by
  have:id≠σ.next:=λe=>h (by subst e;simp[St.rng,St.new])
  simp only[St.new,Tr.set_get,if_neg this]⟩
theorem MatA.wf {σ σ':St} (a:MatA σ σ') (h:σ.wf):σ'.wf:=λid hid=>by
 have:=a.le;rw[a.old id λb=>by have:=b.2;omega];exact h id (by omega)
theorem Mn:∀(l:List DC) (σ:St),MatA σ (EM l σ).2
 |[],σ=>.refl σ
 | .v x::r,σ=>by simp only[EM];exact Mn r σ
 | .s t a::r,σ=>by simp only[EM];exact(MatA.new σ _).trans (Mn r _)
 | .e b::r,σ=>by simp only[EM];exact Mn r σ
 | .k x::r,σ=>by simp only[EM];exact Mn r σ
 | .j::r,σ=>by simp only[EM];exact Mn r σ
theorem KV:∀(t:OT) (x:t.Den) (σ:St),MatA σ (BA t x σ).2:=by
 intro t
 induction t with
 |d t=>intro x σ;exact Mn _ _
 |vec t e=>intro x σ;exact .new _ _
 |unit=>intro x σ;exact .refl _
 |pair a b c f=>intro x σ;exact(c x.1 σ).trans (f x.2 _)
 |ptr a e g=>intro x σ;exact(g x σ).trans (.new _ _)
 |con vs=>intro x σ;exact .refl _
theorem Mo:∀(rs:List OT) (y:Bz rs) (σ:St),MatA σ (FK rs y σ).2
 |[],_,_=>.refl _
 |r::rs,y,σ=>(KV r y.1 σ).trans (Mo rs y.2 _)
section
variable {P:Program} {w:World} {fz:Nat->Option (Array Value)}
structure MatP (P:Program) (w:World) (fz:Nat->Option (Array Value)) (own:List Nat) (D:Nat->Prop) (ι:Nat->Reg) (σ σ':St) (ι':Nat->Reg):Prop where
 a:MatA σ σ'
 io:∀id,¬σ.rng σ' id->ι' id=ι id
 new:∀id,σ.rng σ' id->∃o,σ'.heap.get id=some o/\Am P ι' id w o.hd/\∀k v,DH (some o) k=some v->BL (λi=>D i\/σ.rng σ' i) ι' id w k v
 own:∀id,σ.rng σ' id->∀b,(ι' id).Own b->b∈own
 dist:∀i j,σ.rng σ' i->σ.rng σ' j->i≠j->∀b,(ι' i).Own b->¬(ι' j).Own b
 fz:∀id,σ.rng σ' id->∀b c,(ι' id).fz b=some c->fz b=some c
theorem Am.as {ι ι0:Nat->Reg} {k c:Nat} {x:Hd} (h:Am P ι k w x) (e:ι0 c=ι k):Am P ι0 c w x:=by
 cases x<;>simp only[Am,e] at h⊢ <;>exact h
theorem BL.into {D D':Nat->Prop} {ι ι':Nat->Reg} {id k:Nat} {v:Value} (h:BL D ι id w k v) (b:ι' id=ι id) (c:∀i,D i->D' i) (a:∀i,D i->ι' i=ι i):BL D' ι' id w k v:=by
 obtain⟨h1,v',d,e⟩:=h;exact⟨by rw[b];exact h1,v',by rw[b];exact d,e.mono c a⟩
theorem MatP.refl {D:Nat->Prop} {ι:Nat->Reg} {σ:St}:MatP P w fz [] D ι σ σ ι:=
 ⟨.refl σ,λ_ _=>rfl,λid h=>absurd h (St.rng_self σ id),λid h=>absurd h (St.rng_self σ id),λi _ h=>absurd h (St.rng_self σ i),λid h=>absurd h (St.rng_self σ id)⟩
theorem MatP.trans {D:Nat->Prop} {ι ι1 ι2:Nat->Reg} {σ σ1 σ2:St} {r s:List Nat} (C:∀id,σ.rng σ2 id->¬D id) (p:MatP P w fz r D ι σ σ1 ι1) (q:MatP P w fz s (λi=>D i\/σ.rng σ1 i) ι1 σ1 σ2 ι2) (z:∀b,b∈r->b∉s):
  MatP P w fz (r++s) D ι σ σ2 ι2:=by
 have h1:=p.a.le;have F:=q.a.le;have split:∀id,σ.rng σ2 id->(σ.rng σ1 id/\¬σ1.rng σ2 id)\/σ1.rng σ2 id:=λid e=>by
  simp only[St.rng] at e⊢;omega
 have m:∀i,(D i\/σ.rng σ1 i)\/σ1.rng σ2 i->D i\/σ.rng σ2 i:=λi hi=>by
  simp only[St.rng] at hi⊢;rcases hi with(hi|hi)|hi
  ·exact .inl hi
  ·exact .inr (by omega)
  ·exact .inr (by omega)
 refine⟨p.a.trans q.a,λid e=> ?_,λid e=> ?_,λid e b d=> ?_,λi j hi E n b d f=> ?_,λid e b c d=> ?_⟩
 ·rw[q.io id λh=>e (by simp only[St.rng] at h⊢;omega),p.io id λh=>e (by simp only[St.rng] at h⊢;omega)]
 ·rcases split id e with⟨g1,l⟩|g
  ·obtain⟨o,t,u,x⟩:=p.new id g1;refine⟨o,by rw[q.a.old id l];exact t,u.as (q.io id l),λk v y=>(x k v y).into (q.io id l) (λi hi=>m i (.inl hi)) λi hi=>q.io i λe=> ?_⟩;rcases hi with hi|hi
   ·exact C i (by simp only[St.rng] at e⊢;omega) hi
   ·simp only[St.rng] at e hi;omega
  ·obtain⟨o,t,u,x⟩:=q.new id g;exact⟨o,t,u,λk v y=>(x k v y).into rfl (λi hi=>m i hi) λ_ _=>rfl⟩
 ·rcases split id e with⟨g1,l⟩|g
  ·rw[q.io id l] at d;exact List.mem_append_left _ (p.own id g1 b d)
  ·exact List.mem_append_right _ (q.own id g b d)
 ·rcases split i hi with⟨g1,l⟩|g<;>rcases split j E with⟨A,B⟩|k
  ·rw[q.io i l] at d;rw[q.io j B] at f;exact p.dist i j g1 A n b d f
  ·rw[q.io i l] at d;exact z b (p.own i g1 b d) (q.own j k b f)
  ·rw[q.io j B] at f;exact z b (p.own j A b f) (q.own i g b d)
  ·exact q.dist i j g k n b d f
 ·rcases split id e with⟨g1,l⟩|g
  ·rw[q.io id l] at d;exact p.fz id g1 b c d
  ·exact q.fz id g b c d
theorem MatP.of_mat {D:Nat->Prop} {ι ι':Nat->Reg} {σ σ':St} (h:Bs fz w) (l:MatA σ σ') (m:MatOK fz ι σ σ' ι'):MatP P w fz [] D ι σ σ' ι':=by
 refine⟨l,m.io,λid d=> ?_,λid d b a=> ?_,λi j d _ _ b a=> ?_,λid d b c a=> ?_⟩
 ·obtain⟨f,g,u,g1,e,g3⟩:=m.new id d;exact⟨_,g1,⟨by rw[g3];exact e,by rw[g3];rfl,by rw[g3];rfl,by rw[g3];exact h⟩,λk v n=>by cases n⟩
 ·obtain⟨f,g,u,g1,e,g3⟩:=m.new id d;rw[g3] at a;cases a.1
 ·obtain⟨f,g,u,g1,e,g3⟩:=m.new i d;rw[g3] at a;cases a.1
 ·obtain⟨f,g,u,g1,e,g3⟩:=m.new id d;rw[g3] at a;exact a
theorem MatP.one {D:Nat->Prop} {ι:Nat->Reg} {σ:St} {o:AO} {r:Reg} (h:Am P (λ_=>r) 0 w o.hd) (l:∀k v,DH (some o) k=some v->BL D (EG ι σ.next r) σ.next w k v)
  (m:∀b c,r.fz b=some c->fz b=some c):MatP P w fz (bif r.own then [r.blk] else []) D ι σ (σ.new o) (EG ι σ.next r):=by
 have a:∀id,σ.rng (σ.new o) id↔id=σ.next:=λid=>by simp only[St.rng,St.new];omega
 refine⟨.new σ o,λid d=>Dz _ _ λe=>d ((a id).2 e),λid d=> ?_,λid d b f=> ?_,λi j n p g=> ?_,λid d b c f=> ?_⟩
 ·obtain rfl:=(a id).1 d;exact⟨o,by simp[St.new,Tr.set_get],h.as (by rw[AV]),λk v q=>(l k v q).into rfl (λ_=>.inl) λ_ _=>rfl⟩
 ·obtain rfl:=(a id).1 d;rw[AV] at f;rw[f.1,cond_true,f.2];exact List.mem_singleton.2 rfl
 ·exact absurd (((a i).1 n).trans ((a j).1 p).symm) g
 ·obtain rfl:=(a id).1 d;rw[AV] at f;exact m b c f
theorem Q9 (S:Bs fz w):∀(t:OT) (x:t.Den) (m:List Value) (own:List Nat) (D:Nat->Prop) (ι:Nat->Reg) (σ:St),U3 P w fz t x m own->own.Nodup->(∀id,σ.rng (BA t x σ).2 id->¬D id)->
  ∃ι',MatP P w fz own D ι σ (BA t x σ).2 ι'/\(BA t x σ).1.length=m.length/\∀(k:Nat) v u,(BA t x σ).1[k]?=some v->m[k]?=some u->VR (λi=>D i\/σ.rng (BA t x σ).2 i) ι' v u:=by
 intro t
 induction t with
 |d t=>
  intro x m own D ι σ f _ _;obtain⟨rfl,f⟩:=f;obtain⟨T,U,V⟩:=I5 t x m f;obtain⟨ι',B,E,H⟩:=AA4 (X8 t x) m D ι σ (EM (X8 t x) σ).2 (EM (X8 t x) σ).1 rfl (U.trans T.symm) V;exact⟨ι',.of_mat S (Mn _ _) B,E,H⟩
 |vec t e=>
  intro x m own D ι σ f _ _;obtain⟨r,rfl,rfl,F,W⟩:=f;refine⟨_,.one F (λk v z=>by cases z) W,rfl,λk v u g j=> ?_⟩;have o:∃q l c,r.sv=.slice q l c:=by
   obtain⟨_,_,h⟩:=F;rcases h with⟨_,_,q,h⟩|⟨_,_,cap,c,fr,h,_⟩
   ·exact⟨_,_,_,h⟩
   ·exact⟨_,_,_,h⟩
  obtain⟨q,l,c,o⟩:=o;rcases k with _|k
  ·simp only[BA,List.getElem?_cons_zero,Option.some.injEq] at g j;subst g j;rw[o];exact .dat _ _ _ _ (.inr (by simp[St.rng,St.new,BA])) (by rw[AV];exact o)
  ·simp at j
 |unit=>
  intro x m own D ι σ f _ _;obtain⟨rfl,rfl⟩:=f;exact⟨ι,.refl,rfl,λk v u g=>by simp[BA] at g⟩
 |pair a b K L=>
  intro x m own D ι σ f G n;obtain⟨c1,c2,M,X,rfl,rfl,h1,Q⟩:=f;rw[List.nodup_append] at G;obtain⟨Y,Z,n3⟩:=G;have l1:=(KV a x.1 σ).le;have l2:=(KV b x.2 (BA a x.1 σ).2).le;have n:∀id,σ.rng (BA b x.2 (BA a x.1 σ).2).2 id->¬D id:=n;obtain⟨ι1,B,E,H⟩:=K x.1 c1 M D ι σ h1 Y λid f=>n id (by simp only[St.rng] at f⊢;omega)
  have p:∀id,(BA a x.1 σ).2.rng (BA b x.2 (BA a x.1 σ).2).2 id->¬(D id\/σ.rng (BA a x.1 σ).2 id):=λid f hid=>by
   rcases hid with hid|hid
   ·exact n id (by simp only[St.rng] at f⊢;omega) hid
   ·simp only[St.rng] at f hid;omega
  obtain⟨ι2,N,k2,k3⟩:=L x.2 c2 X _ ι1 (BA a x.1 σ).2 Q Z p;refine⟨ι2,B.trans n N λb I s=>n3 b I b s rfl,by simp only[BA,List.length_append,E,k2],λk v u g j=> ?_⟩;have R:∀i,(D i\/σ.rng (BA a x.1 σ).2 i)\/(BA a x.1 σ).2.rng (BA b x.2 (BA a x.1 σ).2).2 i->D i\/σ.rng (BA (.pair a b) x σ).2 i:=λi hi=>by
   have h1:=B.a.le;have Q:=N.a.le;show D i\/σ.rng (BA b x.2 (BA a x.1 σ).2).2 i;simp only[St.rng] at hi⊢;rcases hi with(hi|hi)|hi
   ·exact .inl hi
   ·exact .inr (by omega)
   ·exact .inr (by omega)
  simp only[BA] at g;by_cases z:k<c1.length
  ·rw[List.getElem?_append_left (by omega)] at g j;exact(H k v u g j).mono (λi hi=>R i (.inl hi)) λi hi=>N.io i λf=>p i f hi
  ·rw[List.getElem?_append_right (by omega)] at g j;rw[E] at g;exact(k3 _ v u g j).mono (λi hi=>R i hi) λ_ _=>rfl
 |ptr a e ih=>
  intro x m own D ι σ f G n;obtain⟨r,y,M,rfl,rfl,F,C,f⟩:=f;rw[List.nodup_cons] at G;have l1:=(KV a x σ).le;have n:∀id,σ.rng ((BA a x σ).2.new (.row (BA a x σ).1 e false)) id->¬D id:=n;obtain⟨ι1,B,E,H⟩:=ih x y M D ι σ f G.2 λid f=>n id (by simp only[St.rng,St.new] at f⊢;omega)
  have p:∀id,D id\/σ.rng (BA a x σ).2 id->id≠(BA a x σ).2.next:=λid hid e=>by
   rcases hid with hid|hid
   ·exact n id (by simp only[St.rng,St.new];omega) hid
   ·simp only[St.rng] at hid;omega
  have A:r.own=true:=by obtain⟨_,_,_,_,_,_,⟨h,_⟩,_⟩:=F;exact h
  have O:∀b c,r.fz b=some c->fz b=some c:=λb c h=>by
   obtain⟨_,_,_,_,_,_,⟨_,h'⟩,_⟩:=F;exact absurd ⟨c,h⟩ (h' b)
  have one:MatP P w fz (bif r.own then [r.blk] else []) (λi=>D i\/σ.rng (BA a x σ).2 i) ι1 (BA a x σ).2 ((BA a x σ).2.new (.row (BA a x σ).1 e false)) (EG ι1 (BA a x σ).2.next r):=by
   refine .one (by simpa only[AO.hd,E] using F) (λk v z=> ?_) O;have z:(BA a x σ).1[k]?=some v:=z;have J:k<y.length:=by
    rcases Nat.lt_or_ge k y.length with h|h
    ·exact h
    ·rw[List.getElem?_eq_none (by omega)] at z;cases z
   refine⟨by rw[AV];exact A,y[k],by rw[AV];exact C k _ (List.getElem?_eq_getElem J),?_⟩;exact(H k v _ z (List.getElem?_eq_getElem J)).mono (λ_ h=>h) λi hi=>Dz _ _ (p i hi)
  rw[A,cond_true] at one;have all:=B.trans n one λb I s=>G.1 (by rw[List.mem_singleton] at s;subst s;exact I)
  refine⟨_,⟨all.a,all.io,all.new,λid f b I=> ?_,all.dist,all.fz⟩,rfl,λk v u g j=> ?_⟩
  ·have:=all.own id f b I;rcases List.mem_append.1 this with h|h
   ·exact List.mem_cons_of_mem _ h
   ·rw[List.mem_singleton] at h;subst h;exact List.mem_cons_self ..
  ·rcases k with _|k
   ·simp only[BA,List.getElem?_cons_zero,Option.some.injEq] at g j;subst g j;have:=VR.ptr (D:=λi=>D i\/σ.rng ((BA a x σ).2.new (.row (BA a x σ).1 e false)) i) (ι:=EG ι1 (BA a x σ).2.next r) (BA a x σ).2.next 0 (.inr (by have:=B.a.le;simp only[St.rng,St.new];omega));rw[AV,Nat.add_zero] at this
    exact this
   ·simp at j
 |con vs=>
  intro x m own D ι σ f _ _;obtain⟨rfl,rfl,hp⟩:=f;refine⟨ι,.refl,rfl,λk v u g j=> ?_⟩;have g:m[k]?=some v:=g;rw[g] at j;cases j;exact Ar 2 v (List.all_eq_true.1 hp v (List.mem_of_getElem? g))
theorem U3.len:∀(t:OT) (x:t.Den) (c:List Value) (own:List Nat),U3 P w fz t x c own->c.length=t.sz:=by
 intro t
 induction t with
 |d t=>intro x c own ⟨_,i⟩;exact(I5 t x c i).1
 |vec t e=>intro x c own ⟨r,h,_⟩;rw[h];rfl
 |unit=>intro x c own ⟨h,_⟩;rw[h];rfl
 |pair a b f g=>intro x c own ⟨c1,c2,j,m,e,_,h1,k⟩;rw[e,List.length_append,f _ _ _ h1,g _ _ _ k];rfl
 |ptr a e n=>intro x c own ⟨r,l,j,h,_⟩;rw[h];rfl
 |con vs=>intro x c own ⟨_,h,_⟩;rw[h];rfl
theorem RA (B:Bs fz w):∀(rs:List OT) (y:Bz rs) (n:List Value) (own:List Nat) (D:Nat->Prop) (ι:Nat->Reg) (σ:St),OX P w fz rs y n own->own.Nodup->(∀id,σ.rng (FK rs y σ).2 id->¬D id)->
  ∃ι',MatP P w fz own D ι σ (FK rs y σ).2 ι'/\LR (λi=>D i\/σ.rng (FK rs y σ).2 i) ι' (FK rs y σ).1 n
 |[],y,n,own,D,ι,σ,d,_,_=>by
  obtain⟨rfl,rfl⟩:=d;exact⟨ι,.refl,.nil⟩
 |r::rs,y,n,own,D,ι,σ,d,C,j=>by
  obtain⟨v,f,E,I,rfl,rfl,h1,o⟩:=d;rw[List.nodup_append] at C;obtain⟨J,K,L⟩:=C;obtain⟨c,M,p⟩:∃c:List Value,((r.agg=true/\v=.agg c.toArray)\/(r.agg=false/\c=[v]))/\U3 P w fz r y.1 c E:=by
   rcases h1 with⟨e,N,rfl,g⟩|⟨e,g⟩
   ·exact⟨N.toList,.inl ⟨e,rfl⟩,g⟩
   ·exact⟨[v],.inr ⟨e,rfl⟩,g⟩
  have S:=(KV r y.1 σ).le;have T:=(Mo rs y.2 (BA r y.1 σ).2).le;have j:∀id,σ.rng (FK rs y.2 (BA r y.1 σ).2).2 id->¬D id:=j;obtain⟨ι1,F,q,O⟩:=Q9 B r y.1 c E D ι σ p J λid d=>j id (by simp only[St.rng] at d⊢;omega)
  have m:∀id,(BA r y.1 σ).2.rng (FK rs y.2 (BA r y.1 σ).2).2 id->¬(D id\/σ.rng (BA r y.1 σ).2 id):=λid d hid=>by
   rcases hid with hid|hid
   ·exact j id (by simp only[St.rng] at d⊢;omega) hid
   ·simp only[St.rng] at d hid;omega
  obtain⟨ι2,s,G⟩:=RA B rs y.2 f I _ ι1 (BA r y.1 σ).2 o K m;have H:∀i,(D i\/σ.rng (BA r y.1 σ).2 i)\/(BA r y.1 σ).2.rng (FK rs y.2 (BA r y.1 σ).2).2 i->D i\/σ.rng (FK (r::rs) y σ).2 i:=λi hi=>by
   have h1:=F.a.le;have o:=s.a.le;show D i\/σ.rng (FK rs y.2 (BA r y.1 σ).2).2 i;simp only[St.rng] at hi⊢;rcases hi with(hi|hi)|hi
   ·exact .inl hi
   ·exact .inr (by omega)
   ·exact .inr (by omega)
  refine⟨ι2,F.trans j s λb Q t=>L b Q b t rfl,.cons ?_ ?_⟩
  ·have x:∀(k:Nat) a u,(BA r y.1 σ).1[k]?=some a->c[k]?=some u->VR (λi=>D i\/σ.rng (FK (r::rs) y σ).2 i) ι2 a u:=λk a u z A=>
    (O k a u z A).mono (λi hi=>H i (.inl hi)) λi hi=>s.io i λd=>m i d hi
   rcases M with⟨e,rfl⟩|⟨e,rfl⟩
   ·rw[e,cond_true];refine .agg _ _ (by simpa using q) λi a u z A=>x i a u (by simpa using z) (by simpa using A)
   ·rw[e,cond_false];generalize (BA r y.1 σ).1=l at q x;cases l with
    |nil=>simp at q
    |cons a l=>exact x 0 a v rfl rfl
  ·show LR _ _ (FK rs y.2 (BA r y.1 σ).2).1 f;clear o;generalize (FK rs y.2 (BA r y.1 σ).2).1=l at G
   induction G with
   |nil=>exact .nil
   |cons h _ R=>exact .cons (h.mono (λi hi=>H i hi) λ_ _=>rfl) R
end
end Go.Eng
end
end
end
section
noncomputable section
noncomputable section
namespace Go.Eng
open Go
structure CO (α:Type) where
 x:α
 r:List Value
 i:List Nat
 g:List Nat
 f:List Nat
 p:List Bool
def Y6:Value->Value->Bool
 | .bool a,.bool b=>a==b
 | .int k n,.int c d=>(k==c)&&(n==d)
 |_,_=>false
def VI:List Value->List Value->Bool
 |[],[]=>true
 |a::as,b::bs=>bif Y6 a b then VI as bs else false
 |_,_=>false
theorem iD {a b:Value} (h:Y6 a b=true):a=b:=by
 cases a<;>cases b<;>first|(simp only[Y6] at h;cases h;done)|skip
 ·simp only[Y6,beq_iff_eq] at h;rw[h]
 ·simp only[Y6,Bool.and_eq_true,beq_iff_eq] at h;rw[h.1,h.2]
theorem XZ:∀{a b:List Value},VI a b=true->a=b
 |[],[],_=>rfl
 |a::as,b::bs,h=>by
  simp only[VI] at h;cases c:Y6 a b
  ·rw[c] at h;cases h
  ·rw[c,cond_true] at h;rw[iD c,XZ h]
 |[],_::_,h=>by cases h
 |_::_,[],h=>by cases h
def HR (σ:St):(t:OT)->List Value->Option (CO t.Den)
 | .d t,c=>match As σ t c with
   |some ⟨x,r,i,f,p⟩=>some ⟨x,r,i,[],f,p⟩
   |none=>none
 | .vec t e,c=>match c with
   |v::r=>match Xs σ t e v with
    |some (l,gs)=>some ⟨l,r,[],gs,[],[]⟩
    |none=>none
   |[]=>none
 | .unit,c=>some ⟨(),c,[],[],[],[]⟩
 | .pair a b,c=>match HR σ a c with
   |some ⟨x,r,i,g,f,p⟩=>match HR σ b r with
    |some ⟨y,m,j,h,k,q⟩=>some ⟨(x,y),m,i++j,g++h,f++k,p++q⟩
    |none=>none
   |none=>none
 | .ptr a e,c=>match c with
   |v::r=>match v with
    | .pointer (some ⟨id,0,none⟩)=>match σ.heap.get id with
      |some (.row n o false)=>bif Nat.beq o e then match HR σ a n with
       |some ⟨x,[],i,g,f,p⟩=>some ⟨x,r,i,id::g,f,p⟩
       |_=>none
       else none
      |_=>none
    |_=>none
   |[]=>none
 | .con vs,c=>bif VI vs (c.take vs.length)&&vs.all (AW 2) then some ⟨(),c.drop vs.length,[],[],[],[]⟩ else none
def Sm (σ:St):(rs:List OT)->List Value->Option (CO (Bz rs))
 |[],[]=>some ⟨(),[],[],[],[],[]⟩
 |t::ts,v::vs=>match(bif t.agg then(match v with| .agg a=>some a.toList|_=>none) else some [v]) with
  |some a=>match HR σ t a with
   |some ⟨x,[],i,g,f,p⟩=>match Sm σ ts vs with
    |some ⟨y,_,j,h,k,q⟩=>some ⟨(x,y),[],i++j,g++h,f++k,p++q⟩
    |none=>none
   |_=>none
  |none=>none
 |_,_=>none
def BI (ι:Nat->Reg) (l:List Nat):List Nat:=l.flatMap λid=>bif (ι id).own then [(ι id).blk] else []
theorem DX {ι:Nat->Reg} {l:List Nat} {b:Nat}:b∈BI ι l↔∃id,id∈l/\(ι id).Own b:=by
 simp only[BI,List.mem_flatMap];constructor
 ·rintro⟨id,h1,a⟩;cases c:(ι id).own
  ·rw[c] at a;cases a
  ·rw[c,cond_true,List.mem_singleton] at a;exact⟨id,h1,c,a.symm⟩
 ·rintro⟨id,h1,c,a⟩;exact⟨id,h1,by rw[c,cond_true,List.mem_singleton];exact a.symm⟩
theorem Br {ι:Nat->Reg} (l m:List Nat):BI ι (l++m)=BI ι l++BI ι m:=by simp[BI]
theorem HT {ι:Nat->Reg} (id:Nat):BI ι [id]=bif (ι id).own then [(ι id).blk] else []:=by simp[BI]
theorem Ip {ι:Nat->Reg}:∀{l:List Nat},l.Nodup->(∀i j,i∈l->j∈l->i≠j->∀b,(ι i).Own b->¬(ι j).Own b)->(BI ι l).Nodup
 |[],_,_=>by simp[BI]
 |a::l,f,hd=>by
  rw[List.nodup_cons] at f;have g:=Ip f.2 λi j c d=>hd i j (List.mem_cons_of_mem _ c) (List.mem_cons_of_mem _ d)
  have:BI ι (a::l)=BI ι [a]++BI ι l:=Br [a] l;rw[this,List.nodup_append];refine⟨?_,g,λx h y k e=> ?_⟩
  ·rw[HT];cases(ι a).own<;>simp
  ·subst e;obtain⟨i,c,h1⟩:=DX.1 h;obtain⟨j,d,m⟩:=DX.1 k;rw[List.mem_singleton] at c;subst c;exact hd i j (List.mem_cons_self ..) (List.mem_cons_of_mem _ d) (λe=>f.1 (e▸d)) x h1 m
section
variable {P:Program} {D:Nat->Prop} {ι:Nat->Reg} {σ:St} {w:World} {fzX:Nat->Option (Array Value)} {is gs fs:List Nat}
theorem Sn:∀{vs a:List Value},vs.all (AW 2)=true->LR D ι vs a->a=vs
 |_,_,_,.nil=>rfl
 |_,_,h,.cons b c=>by
  rw[List.all_cons,Bool.and_eq_true] at h;rw[Df 2 _ _ h.1 b,Sn h.2 c]
theorem RB (U:∀b c,Gv ι is fs w b=some c->fzX b=some c) (V:∀id,id∈gs->Bs (ι id).fz w->∀b c,(ι id).fz b=some c->fzX b=some c)
  (hd:∀id,id∈is\/id∈gs\/id∈fs->∀x,σ.H.hdr id=some x->Am P ι id w x) (M:∀id,id∈gs\/id∈fs->∀k v,Lv σ.H id->σ.H.cell id k=some v->BL D ι id w k v):
  ∀(t:OT) (s n:List Value) (c:CO t.Den),HR σ t s=some c->(∀id,id∈c.i->id∈is)->(∀id,id∈c.g->id∈gs)->(∀id,id∈c.f->id∈fs)->C5 c.p->LR D ι s n->
   ∃z F,n=z++F/\U3 P w fzX t c.x z (BI ι c.g)/\LR D ι c.r F:=by
 intro t
 induction t with
 |d t=>
  intro s n c h A B G L o;simp only[HR] at h
  split at h
  ·rename_i x r i f p h1;cases h;obtain⟨z,F,rfl,N,O⟩:=Ea (is:=is) (gs:=fs) (λid hid=>hd id (hid.imp_right .inr)) (λid hid=>M id (.inr hid)) t s n ⟨x,r,i,f,p⟩ h1 A G L o;exact⟨z,F,rfl,⟨rfl,Bj.mono U _ _ _ N⟩,O⟩
  ·cases h
 |vec t e=>
  intro s n c h A B G L o;cases o with
  |nil=>simp[HR] at h
  |cons W T=>
   simp only[HR] at h
   split at h
   ·rename_i xs gs' h1;cases h;rcases Pw h1 W with⟨rfl,rfl,rfl⟩|⟨id,q,l,cp,rfl,X,rfl,Y⟩
    ·exact⟨[_],_,rfl,⟨⟨0,0,0,t.sz,false,λ_=>none,.slice none 0 0⟩,rfl,rfl,⟨rfl,λb c h=>(by cases h),.inl ⟨rfl,rfl,none,rfl⟩⟩,λb c h=>(by cases h)⟩,T⟩
    ·have Q:=B id (by simp);have R:=hd id (.inr (.inl Q)) _ (St.hdr_of X);exact⟨[_],_,rfl,⟨ι id,by rw[Y],HT id,Am.as (ι0:=λ_=>ι id) R rfl,V id Q R.2.1⟩,T⟩
   ·cases h
 |unit=>
  intro s n c h _ _ _ _ o;simp only[HR,Option.some.injEq] at h;subst h;exact⟨[],n,rfl,⟨rfl,rfl⟩,o⟩
 |pair a b Z ihb=>
  intro s n c h A B G L o;simp only[HR] at h
  split at h
  ·rename_i x1 r1 i1 g1 f1 p1 h1
   split at h
   ·rename_i x2 r2 i2 g2 f2 p2 X;cases h;obtain⟨q1,q2⟩:=BK L;obtain⟨z,F,rfl,N,O⟩:=Z s n ⟨x1,r1,i1,g1,f1,p1⟩ h1 (λid h=>A id (List.mem_append_left _ h)) (λid h=>B id (List.mem_append_left _ h)) (λid h=>G id (List.mem_append_left _ h)) q1 o;obtain⟨v1,v2,rfl,k3,k4⟩:=ihb r1 F ⟨x2,r2,i2,g2,f2,p2⟩ X (λid h=>A id (List.mem_append_right _ h)) (λid h=>B id (List.mem_append_right _ h)) (λid h=>G id (List.mem_append_right _ h)) q2 O
    exact⟨z++v1,v2,by simp,⟨z,v1,_,_,rfl,Br _ _,N,k3⟩,k4⟩
   ·cases h
  ·cases h
 |ptr a e ih=>
  intro s n c h A B G L o;cases o with
  |nil=>simp[HR] at h
  |cons W T=>
   simp only[HR] at h
   split at h
   ·rename_i id;obtain⟨rfl,hD⟩:=W.ptr_inv
    split at h
    ·rename_i j e' FJ;cases m:Nat.beq e' e
     ·rw[m] at h;cases h
     rw[m,cond_true] at h;have m:=Nat.eq_of_beq_eq_true m;subst m
     split at h
     ·rename_i x i g f p h1;cases h;have Q:id∈gs:=B id (by simp);have R:=hd id (.inr (.inl Q)) _ (St.hdr_of FJ);have hh2:=R;obtain⟨I,el,fr,e1,e2,e3,⟨e4,e5⟩,e6⟩:=hh2;have e3:j.length<=(ι id).room:=e3;have C:((I.toList.drop (ι id).base).take j.length).length=j.length:=by
       simp only[List.length_take,List.length_drop,Array.length_toList];omega
      have J:∀k,k<j.length->∃u,I.toList[(ι id).base+k]?=some u/\∃v,j[k]?=some v/\VR D ι v u:=by
       intro k E;obtain⟨_,u,y,K⟩:=M id (.inl Q) k j[k] (St.lv_of FJ) (by rw[St.cell_of FJ];exact List.getElem?_eq_getElem E);simp only[World.cell?,e1,Option.isSome_none,Bool.false_eq_true,if_false] at y;exact⟨u,by rw[Array.getElem?_toList];exact y,j[k],List.getElem?_eq_getElem E,K⟩
      have hlr:LR D ι j ((I.toList.drop (ι id).base).take j.length):=by
       refine LR.of_AR ⟨by simpa using C.symm,λi a b ha m=> ?_⟩;simp only[List.getElem?_toArray] at ha m;rw[List.getElem?_take] at m
       split at m
       ·rename_i A;obtain⟨u,y,v,hv',K⟩:=J i A;rw[List.getElem?_drop,y] at m;rw[hv'] at ha;cases ha;cases m;exact K
       ·cases m
      obtain⟨z,F,y,N,O⟩:=ih j _ ⟨x,[],i,g,f,p⟩ h1 A (λid h=>B id (List.mem_cons_of_mem _ h)) G L hlr;cases O;rw[List.append_nil] at y;refine⟨[_],_,rfl,⟨ι id,z,BI ι g,by rw[Nat.add_zero],?_,?_,λk u E=> ?_,N⟩,T⟩
      ·show BI ι (id::g)=_;rw[show BI ι (id::g)=BI ι [id]++BI ι g from Br [id] g,HT,e4];rfl
      ·rw[<-y,C];exact Am.as (ι0:=λ_=>ι id) R rfl
      ·rw[<-y,List.getElem?_take] at E
       split at E
       ·rw[List.getElem?_drop,Array.getElem?_toList] at E;simp only[World.cell?,e1,Option.isSome_none,Bool.false_eq_true,if_false];exact E
       ·cases E
     ·cases h
    ·cases h
   ·cases h
 |con vs=>
  intro s n c h _ _ _ _ o;simp only[HR] at h;cases m:(VI vs (s.take vs.length)&&vs.all (AW 2))
  ·rw[m] at h;cases h
  rw[m,cond_true] at h;rw[Bool.and_eq_true] at m;cases h;have he:=XZ m.1;have S:=LR.take vs.length o;rw[<-he] at S;have y:n.take vs.length=vs:=Sn m.2 S;exact⟨vs,n.drop vs.length,(List.take_append_drop vs.length n).symm.trans (by rw[y]),⟨rfl,rfl,m.2⟩,LR.drop _ o⟩
theorem RC (l:∀b c,Gv ι is fs w b=some c->fzX b=some c) (m:∀id,id∈gs->Bs (ι id).fz w->∀b c,(ι id).fz b=some c->fzX b=some c)
  (hd:∀id,id∈is\/id∈gs\/id∈fs->∀x,σ.H.hdr id=some x->Am P ι id w x) (n:∀id,id∈gs\/id∈fs->∀k v,Lv σ.H id->σ.H.cell id k=some v->BL D ι id w k v):
  ∀(rs:List OT) (vs e:List Value) (c:CO (Bz rs)),Sm σ rs vs=some c->(∀id,id∈c.i->id∈is)->(∀id,id∈c.g->id∈gs)->(∀id,id∈c.f->id∈fs)->C5 c.p->LR D ι vs e->OX P w fzX rs c.x e (BI ι c.g)
 |[],vs,e,c,h,_,_,_,_,A=>by
  cases A with
  |nil=>simp only[Sm,Option.some.injEq] at h;subst h;exact⟨rfl,rfl⟩
  |cons _ _=>simp[Sm] at h
 |t::ts,vs,e,c,h,B,C,E,N,A=>by
  cases A with
  |nil=>simp[Sm] at h
  |cons G O=>
   rename_i v u vs e;simp only[Sm] at h
   split at h
   ·rename_i X a
    split at h
    ·rename_i I J g1 f1 K h1
     split at h
     ·rename_i y r j Q f2 q R;cases h;obtain⟨L,S⟩:=BK N;have o:=RC l m hd n ts vs e ⟨y,r,j,Q,f2,q⟩ R (λid h=>B id (List.mem_append_right _ h)) (λid h=>C id (List.mem_append_right _ h)) (λid h=>E id (List.mem_append_right _ h)) S O;have M:=RB l m hd n t
      refine⟨u,e,_,_,rfl,Br _ _,?_,o⟩;cases d:t.agg
      ·rw[d] at a;cases a;obtain⟨T,U,s,z,F⟩:=M [v] [u] ⟨I,[],J,g1,f1,K⟩ h1 (λid h=>B id (List.mem_append_left _ h)) (λid h=>C id (List.mem_append_left _ h)) (λid h=>E id (List.mem_append_left _ h)) L (.cons G .nil);cases F;rw[List.append_nil] at s;rw[<-s] at z;exact .inr ⟨rfl,z⟩
      ·rw[d,cond_true] at a
       split at a
       ·rename_i as;cases a;cases G with
        |agg _ bs V W=>
         obtain⟨T,U,s,z,F⟩:=M as.toList bs.toList ⟨I,[],J,g1,f1,K⟩ h1 (λid h=>B id (List.mem_append_left _ h)) (λid h=>C id (List.mem_append_left _ h)) (λid h=>E id (List.mem_append_left _ h)) L (LR.of_AR ⟨by simpa using V,by simpa using W⟩);cases F;rw[List.append_nil] at s;rw[<-s] at z
         exact .inl ⟨rfl,bs,rfl,z⟩
       ·cases a
     ·cases h
    ·cases h
   ·cases h
end
section
variable {P:Program} {w:World} {fz:Nat->Option (Array Value)}
theorem U3.lt:∀(t:OT) (x:t.Den) (f:List Value) (own:List Nat),U3 P w fz t x f own->∀b,b∈own->b<w.heap.size:=by
 intro t
 induction t with
 |d t=>intro x f own ⟨h,_⟩ b c;rw[h] at c;cases c
 |vec t e=>
  intro x f own ⟨r,_,h,g,_⟩ b c;rw[h] at c;cases i:r.own
  ·rw[i] at c;cases c
  ·rw[i,cond_true,List.mem_singleton] at c;subst c;exact g.lt (.inl ⟨i,rfl⟩)
 |unit=>intro x f own ⟨_,h⟩ b c;rw[h] at c;cases c
 |pair a b j k=>
  intro x f own ⟨c1,c2,l,p,_,e,h1,m⟩ b c;rw[e] at c;exact(List.mem_append.1 c).elim (j _ _ _ h1 b) (k _ _ _ m b)
 |ptr a e n=>
  intro x f own ⟨r,o,l,_,h,g,_,h1⟩ b c;rw[h] at c;rcases List.mem_cons.1 c with rfl|c
  ·exact g.lt (.inl g.own_row)
  ·exact n _ _ _ h1 b c
 |con vs=>intro x f own ⟨h,_⟩ b c;rw[h] at c;cases c
theorem OX.lt:∀(rs:List OT) (y:Bz rs) (c:List Value) (own:List Nat),OX P w fz rs y c own->∀b,b∈own->b<w.heap.size
 |[],y,c,own,⟨_,h⟩,b,a=>by rw[h] at a;cases a
 |r::rs,y,c,own,⟨v,d,g,i,_,e,h1,f⟩,b,a=>by
  rw[e] at a;rcases List.mem_append.1 a with a|a
  ·rcases h1 with⟨_,j,_,h⟩|⟨_,h⟩
   ·exact U3.lt _ _ _ _ h b a
   ·exact U3.lt _ _ _ _ h b a
  ·exact OX.lt rs _ _ _ f b a
end
def RD (rb:Bool) (t:OT) (x:t.Den) (σ:St):List Value×St:=bif rb then BA t x σ else([],σ)
def DY (σ:St) (rid:List Nat) (vs:List Value) (e:TypeId):St:=match rid with
 |[k]=>σ.put k (some (.row vs e false))
 |_=>σ
section
variable {P:Program} {D:Nat->Prop} {ι ι':Nat->Reg} {σ σ2:St} {w w':World} {rid gs rh:List Nat} {vs:List Value} {e:TypeId}
theorem EY:(DY σ2 rid vs e).next=σ2.next:=by unfold DY;split<;>rfl
theorem iE:(DY σ2 rid vs e).pc=σ2.pc:=by unfold DY;split<;>rfl
theorem Xa (h:∃k,rid=[k]) {id:Nat} (hid:id∈rid):(DY σ2 rid vs e).heap.get id=some (.row vs e false):=by
 obtain⟨k,rfl⟩:=h;rw[List.mem_singleton] at hid;subst hid;simp only[DY,St.put,Tr.set_get,if_true]
theorem FY {id:Nat} (hid:id∉rid):(DY σ2 rid vs e).heap.get id=σ2.heap.get id:=by
 unfold DY
 split
 ·simp only[St.put,Tr.set_get];rw[if_neg (by simpa using hid)]
 ·rfl
theorem bj (g:σ.wf) (c:MatA (σ.puts gs) σ2) (_:rid=[]\/∃k,rid=[k]) (d:∀id,id∈rid->Lv σ.H id) {φ:Foot} (h1:∀id,id∈rid++gs->id∈φ.wh):(DY σ2 rid vs e).wf/\AFr σ (DY σ2 rid vs e) φ:=by
 have i:σ.next<=σ2.next:=by have:=c.le;rwa[St.puts_next] at this
 have b:∀id,¬σ.rng (DY σ2 rid vs e) id->id∉rid->id∉gs->(DY σ2 rid vs e).heap.get id=σ.heap.get id:=λid h j l=>by
  rw[FY j,c.old id λm=>h (by simpa only[St.rng,EY,St.puts_next] using m),St.puts_get,if_neg l]
 refine⟨λid hid=> ?_,λid f a=> ?_,λid k f a=> ?_,λh=> ?_⟩
 ·rw[EY] at hid;have:id∉rid:=λh=>by have:=St.lv_lt g (d id h);omega
  rw[FY this];exact c.wf (St.puts_wf g gs) id hid
 ·have a:id∉φ.wh:=a;simp only[St.H];rw[b id f (λh=>a (h1 id (List.mem_append_left _ h))) λh=>a (h1 id (List.mem_append_right _ h))]
 ·have a:id∉φ.wh:=λh=>a (.inr h)
  simp only[St.H];rw[b id f (λh=>a (h1 id (List.mem_append_left _ h))) λh=>a (h1 id (List.mem_append_right _ h))]
 ·unfold St.Ok at h⊢;rwa[iE,c.pc,St.puts_pc] at h
theorem iF {rc:List (Nat×Nat)} {A:Nat->Option (Array Value)} {q:List Nat} (K:σ.wf) (m:MatP P w' A q D ι (σ.puts gs) σ2 ι') (B:rid=[]\/∃k,rid=[k])
  (l:∀k,k∈rid->(∃F T,σ.heap.get k=some (.row F T false))/\k∉gs/\Am P ι' k w' (.row vs.length e false)/\∀(j:Nat) v,vs[j]?=some v->BL (λi=>D i\/(σ.puts gs).rng σ2 i) ι' k w' j v)
  (L:∀id,id∈gs->Wr σ.H id) (hs:w.heap.size<=w'.heap.size) (M:w'.os=w.os) (G:w'.output=w.output)
  (hc:∀b,b<w.heap.size->(∀id,id∈rid++gs->Wr σ.H id->¬(ι id).Own b)->w'.heap[b]?=w.heap[b]?)
  (ho:∀b,b∈q->(w.heap.size<=b/\b<w'.heap.size)\/∃k,k∈gs/\Wr σ.H k/\(ι k).Own b)
  (hf:∀b c,A b=some c->(w.heap.size<=b/\b<w'.heap.size)\/(∃k,k∈gs/\Wr σ.H k/\(ι k).Own b)\/∃k,(k∈rh\/k∈gs)/\Lv σ.H k/\(ι k).Fz b)
  (hd:∀b,b∈q->A b=none):Post P D (σ.rng (DY σ2 rid vs e)) ι σ.H w ⟨rc,rh,[],rid++gs⟩ ι' (DY σ2 rid vs e).H w':=by
 have hle:σ.next<=σ2.next:=by have:=m.a.le;rwa[St.puts_next] at this
 have d:∀id,σ.rng (DY σ2 rid vs e) id↔(σ.puts gs).rng σ2 id:=λid=>by simp only[St.rng,EY,St.puts_next]
 have C:∀id,id∈rid++gs->Wr σ.H id:=λid h=>(List.mem_append.1 h).elim (λh=>by
  obtain⟨⟨F,T,h1⟩,_⟩:=l id h;exact⟨_,St.hdr_of h1,rfl⟩) (L id)
 have n:∀id,id∈rid++gs->¬σ.rng (DY σ2 rid vs e) id:=λid h B=>by
  have:=St.lv_lt K (C id h).lv;have:=B.1;omega
 have N:∀id,σ.rng (DY σ2 rid vs e) id->id∉rid:=λid h I=>n id (List.mem_append_left _ I) h
 have r:∀id,¬σ.rng (DY σ2 rid vs e) id->id∉rid->id∉gs->(DY σ2 rid vs e).heap.get id=σ.heap.get id:=λid h I h3=>by
  rw[FY I,m.a.old id λB=>h ((d id).2 B),St.puts_get,if_neg h3]
 have f:∀id,id∈gs->id∉rid->(DY σ2 rid vs e).heap.get id=none:=λid h I=>by
  rw[FY I,m.a.old id λB=>n id (List.mem_append_right _ h) ((d id).2 B),St.puts_get,if_pos h]
 have u:∀id,id∈rid->∃k,rid=[k]:=λid h=>B.elim (λe=>by rw[e] at h;cases h) λh=>h
 have O:(λi=>D i\/σ.rng (DY σ2 rid vs e) i)=λi=>D i\/(σ.puts gs).rng σ2 i:=by
  funext i;exact propext (or_congr_right (d i))
 have s:∀k,k∈gs->¬Lv (DY σ2 rid vs e).H k:=λk U ⟨y,V⟩=>by
  have:k∉rid:=λh=>(l k h).2.1 U
  simp only[St.H,f k U this] at V;cases V
 exact {
  io:=λid g=>m.io id λh=>g ((d id).2 h)
  size:=hs
  os:=M
  out:=G
  hdr:=λid x hx p=>by
   by_cases h1:id∈rid
   ·simp only[St.H,Xa (u id h1) h1,Option.map_some,Option.some.injEq] at p;subst p;exact(l id h1).2.2.1
   ·rcases hx with hx|hx
    ·have hx:id∈gs:=(List.mem_append.1 (show id∈rid++gs from hx)).resolve_left h1;simp only[St.H,f id hx h1] at p;cases p
    ·obtain⟨o,Q,W,X⟩:=m.new id ((d id).1 hx);simp only[St.H,FY h1,Q,Option.map_some,Option.some.injEq] at p;subst p;exact W
  cel:=λid k v hx _ p=>by
   rw[O];by_cases h1:id∈rid
   ·simp only[St.H,Xa (u id h1) h1,DH] at p;exact(l id h1).2.2.2 k v p
   ·rcases hx with(hx|hx)|hx
    ·cases hx
    ·have hx:id∈gs:=(List.mem_append.1 (show id∈rid++gs from hx)).resolve_left h1;simp only[St.H,f id hx h1,DH] at p;cases p
    ·obtain⟨o,Q,W,X⟩:=m.new id ((d id).1 hx);simp only[St.H,FY h1,Q] at p;exact X k v p
  ahdr:=λid g hx=>by
   have hx:id∉rid++gs:=hx;simp only[List.mem_append,not_or] at hx;simp only[St.H,r id g hx.1 hx.2]
  acel:=λid k g hx=>by
   have hx:id∉rid++gs:=λh=>hx (.inr h)
   simp only[List.mem_append,not_or] at hx;simp only[St.H,r id g hx.1 hx.2]
  cfr:=λb z hx=>by rw[hc b z λid h=>hx id h];exact BC.refl _ _
  fresh:=λid g _ b z=>by
   rcases ho b (m.own id ((d id).1 g) b z) with h|⟨k,t,E,J⟩
   ·exact .inl h
   ·exact .inr ⟨k,List.mem_append_right _ t,n k (List.mem_append_right _ t),E,s k t,J⟩
  freshF:=λid g _ b ⟨c,z⟩=>by
   rcases hf b c (m.fz id ((d id).1 g) b c z) with h|⟨k,t,E,J⟩|⟨k,t,E,J⟩
   ·exact .inl h
   ·exact .inr (.inl ⟨k,List.mem_append_right _ t,n k (List.mem_append_right _ t),E,s k t,J⟩)
   ·refine .inr (.inr ⟨k,?_,λh=> ?_,E,J⟩)
    ·exact t.elim (λh=>.inr (.inl h)) λh=>.inr (.inr (.inr (List.mem_append_right _ h)))
    ·have:=St.lv_lt K E;have:=h.1;omega
  dist:=λi j Y Z _ _ R b z=>⟨m.dist i j ((d i).1 Y) ((d j).1 Z) R b z,λ⟨c,S⟩=>by
   have h1:=hd b (m.own i ((d i).1 Y) b z);rw[m.fz j ((d j).1 Z) b c S] at h1;cases h1⟩
  nl:=λid g=>St.hdr_none K id g.1
  wl:=λid k hx _=>by
   rcases hx with hx|hx
   ·cases hx
   ·exact(C id hx).lv
  wrm:=λid g hx=>by
   by_cases h1:id∈rid++gs
   ·exact C id h1
   ·simp only[List.mem_append,not_or] at h1;exact hx.of_hdr (by simp only[St.H,r id g h1.1 h1.2])
  wrow:=λid k hx g=>by
   rcases hx with hx|hx
   ·cases hx
   ·exact absurd hx g}
end
def gu:Value->Value->Bool
 | .int k n,.int c d=>(k==c)&&(n==d)
 | .string a,.string b=>TD a.data.toList b.data.toList
 | .tuple a,.tuple b=>match a.toList,b.toList with
   |[.chan (some 3),.bool x],[.chan (some 3),.bool y]=>x==y
   |[.chan (some 4),.int k n],[.chan (some 4),.int c d]=>(k==c)&&(n==d)
   |_,_=>false
 |_,_=>false
theorem nT {a b:Value} (h:gu a b=true):a=b:=by
 cases a<;>cases b<;>first|(simp only[gu] at h;cases h;done)|skip
 ·simp only[gu,Bool.and_eq_true,beq_iff_eq] at h;rw[h.1,h.2]
 ·simp only[gu,RY,beq_iff_eq] at h;congr 1;apply ByteArray.ext;exact Array.ext' h
 ·rename_i a b;simp only[gu] at h
  split at h
  ·rename_i x y h1 c;rw[beq_iff_eq] at h;subst h;congr 1;exact Array.ext' (h1.trans c.symm)
  ·rename_i k n d e h1 c;simp only[Bool.and_eq_true,beq_iff_eq] at h;obtain⟨rfl,rfl⟩:=h;congr 1;exact Array.ext' (h1.trans c.symm)
  ·cases h
def VJ:List Value->List Value->Bool
 |[],[]=>true
 |a::as,b::bs=>bif gu a b then VJ as bs else false
 |_,_=>false
theorem RE:∀{a b:List Value},VJ a b=true->a=b
 |[],[],_=>rfl
 |a::as,b::bs,h=>by
  simp only[VJ] at h;cases c:gu a b
  ·rw[c] at h;cases h
  ·rw[c,cond_true] at h;rw[nT c,RE h]
 |[],_::_,h=>by cases h
 |_::_,[],h=>by cases h
def Iq (σ:St):List (Nat×List Value)->Bool
 |[]=>true
 |p::a=>match σ.heap.get p.1 with
  |some (.row b _ _)=>bif VJ b p.2 then Iq σ a else false
  |_=>false
theorem FZ {σ:St}:∀{gl:List (Nat×List Value)},Iq σ gl=true->∀p,p∈gl->∃e b,σ.heap.get p.1=some (.row p.2 e b)
 |[],_,p,a=>by cases a
 |q::g,h,p,a=>by
  simp only[Iq] at h
  split at h
  ·rename_i d e b f;cases c:VJ d q.2
   ·rw[c] at h;cases h
   ·rw[c,cond_true] at h;rcases List.mem_cons.1 a with rfl|a
    ·exact⟨e,b,by rw[f,RE c]⟩
    ·exact FZ h p a
  ·cases h
def Ir:List Nat->Bool
 |[]=>true
 |a::l=>bif ZQ a l then false else Ir l
theorem HU:∀{l:List Nat},Ir l=true->l.Nodup
 |[],_=>.nil
 |a::l,h=>by
  simp only[Ir] at h;cases b:ZQ a l
  ·rw[b,cond_false] at h;exact List.nodup_cons.2 ⟨Kr b,HU h⟩
  ·rw[b] at h;cases h
def Xb (σ:St) (S:OSpec) (v:Value):Option (CO S.root.Den×Nat):=
 match v with
 | .pointer (some ⟨id,0,none⟩)=>match σ.heap.get id with
   |some (.row a e false)=>bif Nat.beq e S.re then match HR σ S.root a with
    |some ⟨x,[],i,g,f,p⟩=>some (⟨x,[],i,g,f,p⟩,id)
    |_=>none
    else none
   |_=>none
 |_=>none
def bk (σ:St) (S:OSpec) (args:List Value):Option (CO S.root.Den×List Nat×List Value):=
 bif S.rb then match UH S.ri args with
  |some (v,a)=>match Xb σ S v with
   |some (c,id)=>some (c,[id],a)
   |none=>none
  |none=>none
 else some (⟨S.root.dflt,[],[],[],[],[]⟩,[],args)
def ME (E:Env) (S:OSpec) (args:List Value) (σ:St):Option (Value×St×Foot):=
 match bk σ S args with
 |some (c,rid,a)=>match Sm σ S.ts a with
  |some d=>bif Iq σ E.gl&&Ir (rid++((c.g++d.g)++(c.f++d.f)))&&Jl σ ((c.g++d.g)++(c.f++d.f))&&Dv σ (c.i++d.i)&& !Dw (E.gl.map (·.1)) (rid++((c.g++d.g)++(c.f++d.f))) then
    match RD S.rb S.root (S.g c.x d.x).1 (σ.puts ((c.g++d.g)++(c.f++d.f))) with
    |(vs,σ1)=>match FK S.rs (S.g c.x d.x).2 σ1 with
     |(b,σ2)=>some (De b,(DY σ2 rid vs S.re).assumes (S.pre c.x d.x::(c.p++d.p)),⟨[],(c.i++d.i)++E.gl.map (·.1),[],rid++((c.g++d.g)++(c.f++d.f))⟩)
   else none
  |none=>none
 |none=>none
section
variable {P:Program} {E:Env} (hE:E.OK P)
theorem Mp {σ:St} {S:OSpec} {v:Value} {c:CO S.root.Den} {id:Nat} (h:Xb σ S v=some (c,id)):
  ∃b,v=.pointer (some ⟨id,0,none⟩)/\σ.heap.get id=some (.row b S.re false)/\HR σ S.root b=some c/\c.r=[]:=by
 unfold Xb at h
 split at h
 ·rename_i d
  split at h
  ·rename_i b e j;cases a:Nat.beq e S.re
   ·rw[a] at h;cases h
   rw[a,cond_true] at h;have a:=Nat.eq_of_beq_eq_true a;subst a
   split at h
   ·rename_i x i g f p k;simp only[Option.some.injEq,Prod.mk.injEq] at h;obtain⟨rfl,rfl⟩:=h;exact⟨b,rfl,j,k,rfl⟩
   ·cases h
  ·cases h
 ·cases h
theorem VK {σ:St} {S:OSpec} {args a:List Value} {c:CO S.root.Den} {rid:List Nat} (h:bk σ S args=some (c,rid,a)):
  (S.rb=true/\∃id b,UH S.ri args=some (.pointer (some ⟨id,0,none⟩),a)/\rid=[id]/\σ.heap.get id=some (.row b S.re false)/\HR σ S.root b=some c/\c.r=[])\/(S.rb=false/\args=a/\rid=[]/\c=⟨S.root.dflt,[],[],[],[],[]⟩):=by
 unfold bk at h;cases e:S.rb
 ·rw[e,cond_false] at h;simp only[Option.some.injEq,Prod.mk.injEq] at h;obtain⟨rfl,rfl,rfl⟩:=h;exact .inr ⟨rfl,rfl,rfl,rfl⟩
 ·rw[e,cond_true] at h
  split at h
  ·rename_i v d f
   split at h
   ·rename_i l id g;simp only[Option.some.injEq,Prod.mk.injEq] at h;obtain⟨rfl,rfl,rfl⟩:=h;obtain⟨b,rfl,i,j,k⟩:=Mp g;exact .inl ⟨rfl,id,b,f,rfl,i,j,k⟩
   ·cases h
  ·cases h
theorem Xc {D:Nat->Prop} {ι:Nat->Reg}:∀{k:Nat} {args f a:List Value} {v:Value},UH k args=some (v,a)->LR D ι args f->∃u b,f=Dm k [u] b/\VR D ι v u/\LR D ι a b
 |0,_,_,a,v,h,c=>by
  cases c with
  |nil=>simp[UH] at h
  |cons d e=>
   simp only[UH,Option.some.injEq,Prod.mk.injEq] at h;obtain⟨rfl,rfl⟩:=h;exact⟨_,_,rfl,d,e⟩
 |k+1,_,_,a,v,h,c=>by
  cases c with
  |nil=>simp[UH] at h
  |cons d e=>
   simp only[UH] at h
   split at h
   ·rename_i u l g;simp only[Option.some.injEq,Prod.mk.injEq] at h;obtain⟨rfl,rfl⟩:=h;obtain⟨i,b,rfl,h1,j⟩:=Xc g e;exact⟨i,_,(aW k _ _ _).symm,h1,.cons d j⟩
   ·cases h
theorem iG {ι:Nat->Reg} {w:World} {is gs a d:List Nat} (h1:∀id,id∈is->id∈a) (j:∀id,id∈gs->id∈d) (b:Nat) (c:Array Value) (h:Gv ι is gs w b=some c):Gv ι a d w b=some c:=by
 have f:=FO h;obtain⟨e,fr,k⟩:=Du b c h;unfold Gv;rw[if_pos,k];exact f.imp (λ⟨id,g,i⟩=>⟨id,h1 id g,i⟩) λ⟨id,g,i⟩=>⟨id,j id g,i⟩
theorem So {D:Nat->Prop} {ι:Nat->Reg} {a b:List Value} (h:LR D ι a b):VR D ι (De a) (De b):=by
 cases h with
 |nil=>exact .tuple _ _ rfl (by simp)
 |cons h t=>
  cases t with
  |nil=>exact h
  |cons c t=>
   obtain⟨d,a2⟩:=LR.AR (.cons h (.cons c t));exact .tuple _ _ d a2
theorem F6 {σ:St}:∀(a:List Bool),(σ.assumes a).next=σ.next/\(σ.assumes a).H=σ.H
 |[]=>⟨rfl,rfl⟩
 |_::a=>F6 a
include hE
theorem O4 (hgl:∀{σ:St},Iq σ E.gl=true->∀{D:Nat->Prop} {ι:Nat->Reg} {w:World} {φ:Foot},GI E D ι->(∀p,p∈E.gl->p.1∈φ.rh)->HOn P D ι σ.H φ w->I6 E.gl w) {S:OSpec} {f:FuncId} (hS:E.osp f=some S) {args:List Value} {σ σ':St} {v:Value} {φ:Foot} (h:ME E S args σ=some (v,σ',φ)):
  σ.next<=σ'.next/\(σ.wf->σ'.wf/\AFr σ σ' φ)/\
  (σ'.Ok->∀(D:Nat->Prop) (ι:Nat->Reg) (w:World) (n:Array Value),σ.wf->GI E D ι->(∀id,σ.rng σ' id->¬D id)->AR D ι args.toArray n->HOn P D ι σ.H φ w->
   Calls P f n w λe w'=>∃v' ι',e=.returned v'/\VR (λi=>D i\/σ.rng σ' i) ι' v v'/\Post P D (σ.rng σ') ι σ.H w φ ι' σ'.H w'):=by
 unfold ME at h
 split at h
 ·rename_i c rid rest hroot
  split at h
  ·rename_i d hres;cases l:(Iq σ E.gl&&Ir (rid++((c.g++d.g)++(c.f++d.f)))&&Jl σ ((c.g++d.g)++(c.f++d.f))&&Dv σ (c.i++d.i)&& !Dw (E.gl.map (·.1)) (rid++((c.g++d.g)++(c.f++d.f))))
   ·rw[l] at h;cases h
   rw[l,cond_true] at h;simp only[Bool.and_eq_true,Bool.not_eq_true'] at l;obtain⟨⟨⟨⟨b1,b2⟩,L⟩,b4⟩,b5⟩:=l;have b5:=DN b5;have b2:=HU b2;have L:=Dx L;have b4:=DM b4;obtain⟨rfl,rfl,rfl⟩:v=De (FK S.rs (S.g c.x d.x).2 (RD S.rb S.root (S.g c.x d.x).1 (σ.puts ((c.g++d.g)++(c.f++d.f)))).2).1/\
     σ'=(DY (FK S.rs (S.g c.x d.x).2 (RD S.rb S.root (S.g c.x d.x).1 (σ.puts ((c.g++d.g)++(c.f++d.f)))).2).2 rid (RD S.rb S.root (S.g c.x d.x).1 (σ.puts ((c.g++d.g)++(c.f++d.f)))).1 S.re).assumes (S.pre c.x d.x::(c.p++d.p))/\
     φ=⟨[],(c.i++d.i)++E.gl.map (·.1),[],rid++((c.g++d.g)++(c.f++d.f))⟩:=by
    simp only[Option.some.injEq,Prod.mk.injEq] at h;exact⟨h.1.symm,h.2.1.symm,h.2.2.symm⟩
   clear h;have B:=VK hroot;have hr:rid=[]\/∃k,rid=[k]:=by
    rcases B with⟨_,id,M,_,h,_⟩|⟨_,_,h,_⟩
    ·exact .inr ⟨id,h⟩
    ·exact .inl h
   have hrw:∀id,id∈rid->∃cs0 e0,σ.heap.get id=some (.row cs0 e0 false):=λid hid=>by
    rcases B with⟨_,id',M,_,rfl,h,_⟩|⟨_,_,rfl,_⟩
    ·rw[List.mem_singleton] at hid;subst hid;exact⟨_,_,h⟩
    ·cases hid
   have C:∀id,id∈rid->Wr σ.H id:=λid hid=>by
    obtain⟨M,e,h⟩:=hrw id hid;exact⟨_,St.hdr_of h,rfl⟩
   generalize hG:(c.g++d.g)++(c.f++d.f)=G at b2 L b5⊢;have hA1:MatA (σ.puts G) (RD S.rb S.root (S.g c.x d.x).1 (σ.puts G)).2:=by
    unfold RD;cases S.rb
    ·exact .refl _
    ·exact KV _ _ _
   have hA:=hA1.trans (Mo S.rs (S.g c.x d.x).2 _);generalize hm1:RD S.rb S.root (S.g c.x d.x).1 (σ.puts G)=s at hA1 hA⊢;generalize X:FK S.rs (S.g c.x d.x).2 s.2=O at hA⊢;obtain⟨q1,q2⟩:=F6 (σ:=DY O.2 rid s.1 S.re) (S.pre c.x d.x::(c.p++d.p));have hle:σ.next<=O.2.next:=by have:=hA.le;rwa[St.puts_next] at this
   have habs:A4 σ ⟨De O.1,DY O.2 rid s.1 S.re,⟨[],(c.i++d.i)++E.gl.map (·.1),[],rid++G⟩⟩:=⟨by rw[EY];exact hle,λhw=>bj hw hA hr (λid h=>(C id h).lv) λid h=>h⟩
   refine⟨(A4.assumes _ habs).1,(A4.assumes _ habs).2,?_⟩;intro hok D ι w n hwf hGI Q ha Y;obtain⟨⟨hpre,hps⟩, -⟩:=(BT _ _).1 hok;obtain⟨hp1,hp2⟩:=BK hps;have Q:∀id,σ.rng O.2 id->¬D id:=λid F=>Q id (by simp only[St.rng,q1,EY] at F⊢;exact F)
   have hgW:I6 E.gl w:=hgl b1 hGI (λp hp=>List.mem_append_right _ (List.mem_map_of_mem hp)) Y;have hlr:LR D ι args n.toList:=LR.of_AR (by simpa using ha);have N:∀id,id∈c.i++d.i\/id∈rid++G->(⟨[],(c.i++d.i)++E.gl.map (·.1),[],rid++G⟩:Foot).Fi id:=λid h=>h.elim (λh=>.inr (.inl (List.mem_append_left _ h))) λh=>.inr (.inr (.inr h))
   have hFc:∀id k,id∈rid++G->(⟨[],(c.i++d.i)++E.gl.map (·.1),[],rid++G⟩:Foot).Fc id k:=λid k h=>.inr (.inr (.inr h))
   have z:∀id,id∈c.g++d.g->id∈G:=λid h=>by rw[<-hG];exact List.mem_append_left _ h
   have A:∀id,id∈c.f++d.f->id∈G:=λid h=>by rw[<-hG];exact List.mem_append_right _ h
   have hX1:∀b R,Gv ι (c.i++d.i) (c.f++d.f) w b=some R->Gv ι ((c.i++d.i)++(c.g++d.g)) (c.f++d.f) w b=some R:=iG (λid h=>List.mem_append_left _ h) λ_ h=>h
   have hX2:∀id,id∈c.g++d.g->Bs (ι id).fz w->∀b R,(ι id).fz b=some R->Gv ι ((c.i++d.i)++(c.g++d.g)) (c.f++d.f) w b=some R:=λid hid hz b R l=>Vs (.inl (List.mem_append_right _ hid)) hz b R l
   have hd':∀id,id∈c.i++d.i\/id∈c.g++d.g\/id∈c.f++d.f->∀x,σ.H.hdr id=some x->Am P ι id w x:=λid hid x hx=>
    Y.hd id x (N id (hid.imp_right λh=>List.mem_append_right _ (h.elim (z id) (A id)))) hx
   have hce':∀id,id∈c.g++d.g\/id∈c.f++d.f->∀k v,Lv σ.H id->σ.H.cell id k=some v->BL D ι id w k v:=λid hid k v hl Z=>
    Y.ce id k v (hFc id k (List.mem_append_right _ (hid.elim (z id) (A id)))) hl Z
   have T:∀i j,i∈rid++G->(j∈c.i++d.i\/j∈rid++G)->i≠j->∀b,(ι i).Own b->¬(ι j).Own b/\¬(ι j).Fz b:=λi j hi hj hij b l=>
    Y.inj i j (N i (.inr hi)) (N j hj) ((List.mem_append.1 hi).elim (C i) (L i)) (hj.elim (λh=>b4 j h) λh=>((List.mem_append.1 h).elim (C j) (L j)).lv) hij b l
   have hself:∀i,i∈rid++G->∀b,(ι i).Own b->¬(ι i).Fz b:=λi hi b l=>by
    obtain⟨y,hy,_⟩:=(List.mem_append.1 hi).elim (C i) (L i);exact(Y.hd i y (N i (.inr hi)) hy).self l
   obtain⟨r,o,hargs,hroV,hroB,hRt,hLr2,hRid⟩:∃(r:Reg) (o:List Value),n=(Dm S.ri (aV S.rb r) o).toArray/\(∀id,id∈rid->ι id=r)/\FF S.rb r=BI ι rid/\
     (S.rb=true->OW P w (Gv ι ((c.i++d.i)++(c.g++d.g)) (c.f++d.f) w) r S.root S.re c.x (BI ι c.g))/\LR D ι rest o/\(S.rb=false->c.g=[]/\rid=[]):=by
    rcases B with⟨l,id,M,hob0,rfl,hg,hob,hcr⟩|⟨l,rfl,rfl,rfl⟩
    ·generalize hus:n.toList=us0 at hlr;obtain⟨u,us,rfl,Z,ht⟩:=Xc hob0 hlr;obtain⟨rfl,hDi⟩:=Z.ptr_inv
     ·have htrivial:=trivial;have hh:=Y.hd id _ (N id (.inr (List.mem_append_left _ (by simp)))) (St.hdr_of hg);have hh2:=hh;obtain⟨arr,el,fr,e1,e2,e3,⟨e4,e5⟩,e6⟩:=hh2;have e3:M.length<=(ι id).room:=e3;have hlen:((arr.toList.drop (ι id).base).take M.length).length=M.length:=by
       simp only[List.length_take,List.length_drop,Array.length_toList];omega
      have hcell:∀k,k<M.length->∃u,arr.toList[(ι id).base+k]?=some u/\∃v,M[k]?=some v/\VR D ι v u:=by
       intro k I;obtain⟨_,u,hu,hvu⟩:=Y.ce id k M[k] (hFc id k (List.mem_append_left _ (by simp))) (St.lv_of hg) (by rw[St.cell_of hg];exact List.getElem?_eq_getElem I);simp only[World.cell?,e1,Option.isSome_none,Bool.false_eq_true,if_false] at hu;exact⟨u,by rw[Array.getElem?_toList];exact hu,M[k],List.getElem?_eq_getElem I,hvu⟩
      have hlr0:LR D ι M ((arr.toList.drop (ι id).base).take M.length):=by
       refine LR.of_AR ⟨by simpa using hlen.symm,λi a b ha l=> ?_⟩;simp only[List.getElem?_toArray] at ha l;rw[List.getElem?_take] at l
       split at l
       ·rename_i hi;obtain⟨u,hu,v,hv',hvu⟩:=hcell i hi;rw[List.getElem?_drop,hu] at l;rw[hv'] at ha;cases ha;cases l;exact hvu
       ·cases l
      obtain⟨u1,u2,hu,t,J⟩:=RB hX1 hX2 hd' hce' S.root M _ c hob (λ_ h=>List.mem_append_left _ h) (λ_ h=>List.mem_append_left _ h) (λ_ h=>List.mem_append_left _ h) hp1 hlr0;rw[hcr] at J;cases J;rw[List.append_nil] at hu;refine⟨ι id,us,?_,λj hj=>by rw[List.mem_singleton] at hj;rw[hj],?_,λ_=>⟨u1,?_,λk u I=> ?_,t⟩,ht,λh=>by rw[l] at h;cases h⟩
      ·apply Array.ext';rw[hus,Nat.add_zero];simp only[aV,l,cond_true]
      ·simp only[FF,l,cond_true,HT,e4]
      ·rw[<-hu,hlen];exact Am.as (ι0:=λ_=>ι id) hh rfl
      ·rw[<-hu,List.getElem?_take] at I
       split at I
       ·rw[List.getElem?_drop,Array.getElem?_toList] at I;simp only[World.cell?,e1,Option.isSome_none,Bool.false_eq_true,if_false];exact I
       ·cases I
    ·refine⟨rg 0 0 0 0,n.toList,?_,λid h=>(by cases h),?_,λh=>(by rw[l] at h;cases h),hlr,λ_=>⟨rfl,rfl⟩⟩
     ·apply Array.ext';simp[aV,l,ABd]
     ·simp[FF,l,BI]
   have hRA:=RC hX1 hX2 hd' hce' S.ts rest o d hres (λ_ h=>List.mem_append_right _ h) (λ_ h=>List.mem_append_right _ h) (λ_ h=>List.mem_append_right _ h) hp2 hLr2;have hall:FF S.rb r++(BI ι c.g++BI ι d.g)=BI ι (rid++(c.g++d.g)):=by rw[hroB,Br,Br]
   have m:∀id,id∈rid++(c.g++d.g)->id∈rid++G:=λid h=>(List.mem_append.1 h).elim (λh=>List.mem_append_left _ h) λh=>List.mem_append_right _ (z id h)
   have hnd:(rid++(c.g++d.g)).Nodup:=by
    rw[<-hG,<-List.append_assoc] at b2;exact(List.nodup_append.1 b2).1
   have hdis:∀id,id∈rid++(c.g++d.g)->id∉c.f++d.f:=by
    rw[<-hG,<-List.append_assoc] at b2;exact λid h h'=>(List.nodup_append.1 b2).2.2 id h id h' rfl
   have hN:(FF S.rb r++(BI ι c.g++BI ι d.g)).Nodup:=by
    rw[hall];exact Ip hnd λi j hi hj hij b l=>(T i j (m i hi) (.inr (m j hj)) hij b l).1
   have hF0:∀b,b∈FF S.rb r++(BI ι c.g++BI ι d.g)->Gv ι ((c.i++d.i)++(c.g++d.g)) (c.f++d.f) w b=none:=λb l=>by
    rw[hall] at l;obtain⟨id,h1,U⟩:=DX.1 l;cases hf:Gv ι ((c.i++d.i)++(c.g++d.g)) (c.f++d.f) w b with
    |none=>rfl
    |some R=>
     exfalso;have noFz:∀j,(j∈c.i++d.i\/j∈rid++G)->¬(ι j).Fz b:=λj hj hz=>by
      by_cases e:id=j
      ·subst e;exact hself id (m id h1) b U hz
      ·exact(T id j (m id h1) hj e b U).2 hz
     rcases FO hf with⟨j,j1,j2⟩|⟨j,j1,j2|j2⟩
     ·exact noFz j ((List.mem_append.1 j1).imp_right λh=>List.mem_append_right _ (z j h)) j2
     ·exact(T id j (m id h1) (.inr (List.mem_append_right _ (A j j1))) (λe=>hdis id h1 (e▸j1)) b U).1 j2
     ·exact noFz j (.inr (List.mem_append_right _ (A j j1))) j2
   have hGo:∀p,p∈E.gl->p.1∉FF S.rb r++(BI ι c.g++BI ι d.g):=λp hp l=>by
    rw[hall] at l;obtain⟨id,h1,U⟩:=DX.1 l;obtain⟨e,ro,hrow⟩:=FZ b1 p hp;have hfp:(⟨[],(c.i++d.i)++E.gl.map (·.1),[],rid++G⟩:Foot).Fi p.1:=.inr (.inl (List.mem_append_right _ (List.mem_map_of_mem hp)));have q:=(Y.hd p.1 _ hfp (St.hdr_of hrow)).own_row;rw[(hGI p.1 (hE.gl p hp).1).2.1] at q
    have hwid:=(List.mem_append.1 (m id h1)).elim (C id) (L id);by_cases e:id=p.1
    ·exact b5 p.1 (List.mem_map_of_mem hp) (e▸m id h1)
    ·exact(Y.inj id p.1 (N id (.inr (m id h1))) hfp hwid (St.lv_of hrow) e p.1 U).1 q
   rw[hargs];refine(hE.osp f S hS _ w r (BI ι c.g) (BI ι d.g) o c.x d.x Du hgW hN hF0 hGo hRt (λh=>by rw[(hRid h).1];rfl) hRA hpre).mono ?_;rintro en w' ⟨ws,fz',K,own2,rfl,g1,g2,g3,g4,g5,g6,g7,g8,g9,s1,s2,s3,s4⟩;have hn2:(K++own2).Nodup:=(List.nodup_append.1 g4).2.1;have hn3:=List.nodup_append.1 hn2
   obtain⟨ι1,t,J,k3⟩:∃ι1,MatP P w' fz' K D ι (σ.puts G) s.2 ι1/\(S.rb=true->Am P (λ_=>r) 0 w' (.row s.1.length S.re false))/\
     (S.rb=true->∀(k:Nat) v,s.1[k]?=some v->r.own=true/\∃u,w'.cell? ⟨r.blk,r.base+k,none⟩=some u/\VR (λi=>D i\/(σ.puts G).rng s.2 i) ι1 v u):=by
    cases l:S.rb
    ·have e:K=[]:=g8 l;subst e;have:s=([],σ.puts G):=by rw[<-hm1];unfold RD;rw[l];rfl
     rw[this];exact⟨ι,.refl,λh=>(by cases h),λh=>(by cases h)⟩
    ·obtain⟨us,r1,r2,r3⟩:=g7 l;have e:s=BA S.root (S.g c.x d.x).1 (σ.puts G):=by rw[<-hm1];unfold RD;rw[l];rfl
     have l2:=(Mo S.rs (S.g c.x d.x).2 s.2).le;rw[X] at l2;obtain⟨ι1,t,J,k3⟩:=Q9 g2 S.root (S.g c.x d.x).1 us K D ι (σ.puts G) r3 hn3.1 (by rw[<-e];exact λid F=>Q id (by simp only[St.rng,St.puts_next] at F⊢;omega));rw[<-e] at t J k3;have q:r.own=true:=by obtain⟨_,_,_,_,_,_,⟨h,_⟩,_⟩:=r1;exact h
     refine⟨ι1,t,λ_=>by rw[J];exact r1,λ_ k v Z=>⟨q,?_⟩⟩;have hlt:k<us.length:=by
      rcases Nat.lt_or_ge k us.length with h|h
      ·exact h
      ·rw[List.getElem?_eq_none (by omega)] at Z;cases Z
     exact⟨us[k],r2 k _ (List.getElem?_eq_getElem hlt),k3 k v _ Z (List.getElem?_eq_getElem hlt)⟩
   have l1:=hA1.le;have l2:=(Mo S.rs (S.g c.x d.x).2 s.2).le;rw[X] at l2;rw[St.puts_next] at l1;have hD2:∀id,s.2.rng O.2 id->¬(D id\/(σ.puts G).rng s.2 id):=λid F hid=>by
    rcases hid with hid|hid
    ·exact Q id (by simp only[St.rng] at F⊢;omega) hid
    ·simp only[St.rng,St.puts_next] at F hid;omega
   obtain⟨ι2,p1,p2⟩:=RA g2 S.rs (S.g c.x d.x).2 ws own2 _ ι1 s.2 g9 hn3.2.1 (by rw[X];exact hD2);rw[X] at p1 p2;have V:=t.trans (by rw[show(σ.puts G).rng O.2=σ.rng O.2 by funext i;simp only[St.rng,St.puts_next]];exact Q) p1 λb l hb'=>hn3.2.2 b l b hb' rfl
   have hup:∀i,(D i\/(σ.puts G).rng s.2 i)\/s.2.rng O.2 i->D i\/σ.rng ((DY O.2 rid s.1 S.re).assumes (S.pre c.x d.x::(c.p++d.p))) i:=λi hi=>by
    simp only[St.rng,q1,EY,St.puts_next] at hi⊢;rcases hi with(hi|hi)|hi
    ·exact .inl hi
    ·exact .inr (by omega)
    ·exact .inr (by omega)
   refine⟨De ws,ι2,rfl,?_,?_⟩
   ·refine(So p2).mono hup λ_ _=>rfl
   ·have hrng:σ.rng ((DY O.2 rid s.1 S.re).assumes (S.pre c.x d.x::(c.p++d.p)))=σ.rng (DY O.2 rid s.1 S.re):=by funext i;simp only[St.rng,q1]
    rw[q2,hrng];have htot:∀b,b∈FF S.rb r++(BI ι c.g++BI ι d.g)->∃k,k∈rid++G/\Wr σ.H k/\(ι k).Own b:=λb l=>by
     rw[hall] at l;obtain⟨id,h1,U⟩:=DX.1 l;exact⟨id,m id h1,(List.mem_append.1 (m id h1)).elim (C id) (L id),U⟩
    have q:∀b,b∈BI ι c.g++BI ι d.g->∃k,k∈G/\Wr σ.H k/\(ι k).Own b:=λb l=>by
     rw[<-Br] at l;obtain⟨id,h1,U⟩:=DX.1 l;exact⟨id,z id h1,L id (z id h1),U⟩
    refine iF hwf V hr (λk I=> ?_) L s1 s2 s3 (λb l hx=>s4 b l λhbm=> ?_) (λb l=> ?_) (λb R l=> ?_) λb l=>g5 b (List.mem_append_right _ l)
    ·have W:S.rb=true:=by
      cases l:S.rb
      ·rw[(hRid l).2] at I;cases I
      ·rfl
     have hkl:=St.lv_lt hwf (C k I).lv;have hio:ι2 k=r:=by
      rw[V.io k λh=>by simp only[St.rng,St.puts_next] at h;omega];exact hroV k I
     refine⟨hrw k I,λh=> ?_,(J W).as hio,λj v Z=> ?_⟩
     ·exact(List.nodup_append.1 b2).2.2 k I k h rfl
     ·obtain⟨o1,u,o2,o3⟩:=k3 W j v Z;refine⟨by rw[hio];exact o1,u,by rw[hio];exact o2,o3.mono (λi hi=> ?_) λi hi=>p1.io i λh=>hD2 i h hi⟩;simp only[St.rng,St.puts_next] at hi⊢;rcases hi with hi|hi
      ·exact .inl hi
      ·exact .inr (by omega)
    ·obtain⟨k,h1,U,h3⟩:=htot b hbm;exact hx k h1 U h3
    ·rcases g6 b l with h|h
     ·exact .inr (q b h)
     ·refine .inl ⟨h,?_⟩;rcases List.mem_append.1 l with l|l
      ·cases W:S.rb
       ·rw[g8 W] at l;cases l
       ·obtain⟨us,_,_,r3⟩:=g7 W;exact r3.lt _ _ _ _ b l
      ·exact g9.lt _ _ _ _ b l
    ·rcases g3 b R l with h|h|h
     ·rcases FO h with⟨k,t,J⟩|⟨k,t,J|J⟩
      ·rcases List.mem_append.1 t with t|t
       ·exact .inr (.inr ⟨k,.inl (List.mem_append_left _ t),b4 k t,J⟩)
       ·exact .inr (.inr ⟨k,.inr (z k t),(L k (z k t)).lv,J⟩)
      ·exact .inr (.inl ⟨k,A k t,L k (A k t),J⟩)
      ·exact .inr (.inr ⟨k,.inr (A k t),(L k (A k t)).lv,J⟩)
     ·obtain⟨ee,fr,hh⟩:=g2 b R l;exact .inl ⟨h,Ap hh⟩
     ·exact .inr (.inl (q b h))
  ·cases h
 ·cases h
end
open Go
def Ty.flat:Ty->Bool
 | .slice _=>false
 | .ref _=>false
 | .clo _ _=>false
 | .pair a b=>a.flat&&b.flat
 |_=>true
def Pc (σ:St):(ts:List Ty)->List Value->Option (CD (AA ts))
 |[],[]=>some ⟨(),[],[],[],[]⟩
 |t::ts,v::vs=>match(bif t.agg then(match v with| .agg a=>some a.toList|_=>none) else some [v]) with
  |some a=>match As σ t a with
   |some ⟨x,[],i,g,p⟩=>match Pc σ ts vs with
    |some ⟨y,_,j,h,q⟩=>some ⟨(x,y),[],i++j,g++h,p++q⟩
    |none=>none
   |_=>none
  |none=>none
 |_,_=>none
section
variable {P:Program} {D:Nat->Prop} {ι:Nat->Reg} {σ:St} {w:World} {is gs:List Nat}
theorem Sp (hd:∀id,id∈is\/id∈gs->∀x,σ.H.hdr id=some x->Am P ι id w x) (e:∀id,id∈gs->∀k v,Lv σ.H id->σ.H.cell id k=some v->BL D ι id w k v):
  ∀(ts:List Ty) (vs d:List Value) (c:CD (AA ts)),Pc σ ts vs=some c->(∀id,id∈c.i->id∈is)->(∀id,id∈c.g->id∈gs)->C5 c.p->LR D ι vs d->Bc (Gv ι is gs w) ts c.x d
 |[],vs,d,c,h,_,_,_,m=>by
  cases m with
  |nil=>rfl
  |cons _ _=>simp[Pc] at h
 |t::ts,vs,d,c,h,n,o,G,m=>by
  cases m with
  |nil=>simp[Pc] at h
  |cons z I=>
   rename_i v u vs d;simp only[Pc] at h
   split at h
   ·rename_i R b
    split at h
    ·rename_i A B g1 C h1
     split at h
     ·rename_i y r j J q K;cases h;obtain⟨E,L⟩:=BK G;refine⟨u,d,rfl,?_,Sp hd e ts vs d ⟨y,r,j,J,q⟩ K (λid h=>n id (List.mem_append_right _ h)) (λid h=>o id (List.mem_append_right _ h)) L I⟩;have F:=Ea hd e t;cases a:t.agg
      ·rw[a] at b;cases b;obtain⟨M,N,f,l,s⟩:=F [v] [u] ⟨A,[],B,g1,C⟩ h1 (λid h=>n id (List.mem_append_left _ h)) (λid h=>o id (List.mem_append_left _ h)) E (.cons z .nil);cases s;rw[List.append_nil] at f;rw[<-f] at l;exact .inr ⟨a,l⟩
      ·rw[a,cond_true] at b
       split at b
       ·rename_i as;cases b;cases z with
        |agg _ bs O Q=>
         obtain⟨M,N,f,l,s⟩:=F as.toList bs.toList ⟨A,[],B,g1,C⟩ h1 (λid h=>n id (List.mem_append_left _ h)) (λid h=>o id (List.mem_append_left _ h)) E (LR.of_AR ⟨by simpa using O,by simpa using Q⟩);cases s;rw[List.append_nil] at f;rw[<-f] at l;exact .inl ⟨a,bs,rfl,l⟩
       ·cases b
     ·cases h
    ·cases h
   ·cases h
theorem Bj.flat {fz g:Nat->Option (Array Value)}:∀(t:Ty) (x:t.Den) (d:List Value),t.flat=true->Bj fz t x d->Bj g t x d:=by
 intro t
 induction t with
 |pair a b h i=>
  intro x d c e;simp only[Ty.flat,Bool.and_eq_true] at c;simp only[Bj] at e⊢;obtain⟨c1,c2,rfl,h1,k⟩:=e;exact⟨c1,c2,rfl,h _ _ c.1 h1,i _ _ c.2 k⟩
 |slice a j=>intro x d c;cases c
 |ref a j=>intro x d c;cases c
 |clo f a j=>intro x d c;cases c
 |_=>intro x d _ e;exact e
theorem Bc.flat {fz c:Nat->Option (Array Value)}:∀{ts:List Ty} {x:AA ts} {vs:List Value},ts.all Ty.flat=true->Bc fz ts x vs->Bc c ts x vs
 |[],_,_,_,d=>d
 |t::ts,_,_,b,⟨v,r,e,h1,f⟩=>by
  simp only[List.all_cons,Bool.and_eq_true] at b;exact⟨v,r,e,h1.imp (λ⟨a,g,e,r⟩=>⟨a,g,e,r.flat _ _ _ b.1⟩) λ⟨a,r⟩=>⟨a,r.flat _ _ _ b.1⟩,Bc.flat b.2 f⟩
end
end Go.Eng
end
end
end
section
noncomputable section
noncomputable section
namespace Go.Eng
open Go
def Cb:Type:=FuncId->List Value->St->Option (Value×St×Foot)
def JQ (nt:Nat) (s:Tr Value) (dst:Option Tmp) (v:Value):Option (Tr Value):=
 match dst with
 |none=>some s
 |some d=>bif Nat.blt d nt then some (s.set d (some v)) else none
def VL:List Oper->Nat->Option Oper
 |[],_=>none
 |x::_,0=>some x
 |_::a,n+1=>VL a n
theorem Xd:∀(l:List Oper) (k:Nat),VL l k=l[k]?
 |[],k=>by simp[VL]
 |x::a,0=>by simp[VL]
 |x::a,k+1=>by simp[VL,Xd a k]
def nU:Value->Bool
 | .chan (some _)=>false
 | .tuple a=> !QX a.toList
 |_=>true
def E4 (ops:List Oper) (s:Tr Value) (o:Oper):Option Bool:=
 match o.guard with
 |none=>some true
 |some (j,a)=>match VL ops j with
  |some g=>match g.dst with
   |some d=>match s.get d with
    |some (.bool b)=>some (b==a)
    |some v=>bif nU v then some false else none
    |none=>none
   |none=>some false
  |none=>some false
def resolve (v:Value) (σ:St):Option (Value×St):=
 match v with
 | .tuple a=>match a.toList with
   |[.chan (some 1),.bool b]=>some (.bool b,σ)
   |_=>some (v,σ)
 |_=>some (v,σ)
theorem JR {v u:Value} {σ σ':St} (h:resolve v σ=some (u,σ')):(u=v\/∃b,v=sy (.bool b)/\u=.bool b)/\σ'=σ:=by
 unfold resolve at h
 split at h
 ·rename_i a
  split at h
  ·rename_i b c;cases h;refine⟨.inr ⟨b,?_,rfl⟩,rfl⟩;obtain⟨l⟩:=a;simp only at c;rw[c]
  ·cases h;exact⟨.inl rfl,rfl⟩
 ·cases h;exact⟨.inl rfl,rfl⟩
theorem LH {v u:Value} {σ σ1 σ':St} {φ:Foot} (h:resolve v σ1=some (u,σ')) (a:σ.next<=σ1.next/\(σ.wf->σ1.wf/\AFr σ σ1 φ)):σ.next<=σ'.next/\(σ.wf->σ'.wf/\AFr σ σ' φ):=by
 obtain⟨-,rfl⟩:=JR h;exact a
theorem Mq {v u:Value} {σ σ':St} (h:resolve v σ=some (u,σ')) (c:σ'.Ok):σ.Ok/\(∀D ι v',VR D ι v v'->VR D ι u v')/\σ'.H=σ.H/\σ'.next=σ.next:=by
 obtain⟨d,rfl⟩:=JR h;refine⟨c,λD ι v' a=> ?_,rfl,rfl⟩;rcases d with rfl|⟨b,rfl,rfl⟩
 ·exact a
 ·cases a with
  |sym _ _=>exact .bool b
  |tuple as bs e f=>
   have g:bs[0]?=some (bs[0]'(by rw[<-e];exact Nat.succ_pos _)):=Array.getElem?_eq_getElem _;exact(f 0 _ _ rfl g).no_chan.elim
def D9 (P:Program) (E:Env) (call:Cb) (nt:Nat) (ops:List Oper) (o:Oper) (s:Tr Value) (σ:St):Option (Tr Value×St×Foot):=
 match E4 ops s o with
 |some true=>match Gw P E s σ o with
  |some (.val r)=>match resolve r.v r.σ with
   |some (v,σ')=>match JQ nt s o.dst v with
    |some a=>some (a,σ',r.φ)
    |none=>none
   |none=>none
  |some (.enter f args)=>match call f args σ with
   |some (v,σ1,φ)=>match resolve v σ1 with
    |some (v,σ')=>match JQ nt s o.dst v with
     |some a=>some (a,σ',φ)
     |none=>none
    |none=>none
   |none=>none
  |none=>none
 |some false=>match JQ nt s o.dst undef with
  |some a=>some (a,σ,.nil)
  |none=>none
 |none=>none
def HV (P:Program) (E:Env) (call:Cb) (nt:Nat) (all:List Oper):List Oper->Tr Value->St->Option (Tr Value×St×Foot)
 |[],s,σ=>some (s,σ,.nil)
 |o::os,s,σ=>match D9 P E call nt all o s σ with
  |some (s1,σ1,φ1)=>match HV P E call nt all os s1 σ1 with
   |some (a,σ2,φ2)=>some (a,σ2,φ1.add φ2)
   |none=>none
  |none=>none
def FL (nt:Nat) (D:Nat->Prop) (ι:Nat->Reg) (s:Tr Value) (a:Act):Prop:=
 a.tmps.size=nt/\∀t v,s.get t=some v->t<nt/\VR D ι v (a.tmps.getD t undef)
structure CallSound (P:Program) (E:Env) (call:Cb):Prop where
 ok:∀f args σ v σ' φ,call f args σ=some (v,σ',φ)->σ.next<=σ'.next/\(σ.wf->σ'.wf/\AFr σ σ' φ)/\
  (σ'.Ok->∀(D:Nat->Prop) (ι:Nat->Reg) (w:World) (args':Array Value),σ.wf->GI E D ι->(∀id,σ.rng σ' id->¬D id)->AR D ι args.toArray args'->HOn P D ι σ.H φ w->
   Calls P f args' w λe w'=>∃v' ι',e=.returned v'/\VR (λi=>D i\/σ.rng σ' i) ι' v v'/\Post P D (σ.rng σ') ι σ.H w φ ι' σ'.H w')
section
variable {P:Program} {E:Env} (hE:E.OK P) {call:Cb} (hC:CallSound P E call) {D:Nat->Prop} {ι:Nat->Reg} {σ σ1:St} {w:World} {s s1:Tr Value} {a:Act} {nt:Nat} {ops:Array Oper} {φ:Foot}
theorem VM {G:Nat} {x:Operand} (i:∀g,g<G->D g/\(ι g).blk=g/\(ι g).base=0) (j:∀t,x=.tmp t->∀v,s.get t=some v->VR D ι v (a.tmps.getD t undef)):YA G D ι s a.eval x:=by
 intro v h;cases x with
 |tmp t=>exact j t rfl v h
 |const c=>
  simp only[av] at h;cases b:AW 8 c
  ·rw[b] at h;cases h
  ·rw[b,cond_true] at h;simp only[Option.some.injEq] at h;subst h;exact Ar 8 c b
 |global g=>
  simp only[av] at h;cases d:Nat.blt g G
  ·rw[d] at h;cases h
  ·rw[d] at h;cases h;have e:g<G:=by simpa using d
   obtain⟨h1,k,l⟩:=i g e;have:=VR.ptr (D:=D) (ι:=ι) g 0 h1;rw[k,l] at this;exact this
 |func f=>
  simp only[av] at h;cases h;exact Ar 2 _ rfl
def RF (nt:Nat) (s s1:Tr Value) (dst:Option Tmp) (v:Value):Prop:=
 (dst=none->s1=s)/\∀d,dst=some d->d<nt/\∀t,s1.get t=if t=d then some v else s.get t
theorem KW {dst:Option Tmp} {v:Value} (h:JQ nt s dst v=some s1):RF nt s s1 dst v:=by
 unfold JQ at h
 split at h
 ·cases h;exact⟨λ_=>rfl,λd e=>by cases e⟩
 ·rename_i d;cases a:Nat.blt d nt
  ·rw[a] at h;cases h
  ·rw[a] at h;cases h;refine⟨λe=>(by cases e),λb e=> ?_⟩;cases e;exact⟨by simpa using a,λt=>Tr.set_get _ _ _ _⟩
theorem HW {o:Oper} {b:Bool} (h:E4 ops.toList s o=some b) (p:a.tmps.size=nt) (q:∀t,t∈o.looksAt ops->∀v,s.get t=some v->t<nt/\VR D ι v (a.tmps.getD t undef)):
  Region.wanted o (yielded ops a.tmps)=b:=by
 unfold E4 at h;unfold Region.wanted
 split at h
 ·rename_i l;cases h;rw[l]
 ·rename_i j n l;rw[l];simp only;rw[Xd,Array.getElem?_toList] at h
  split at h
  ·rename_i g f
   split at h
   ·rename_i d hd;have r:yielded ops a.tmps j=match a.tmps[d]? with|some (.bool b)=>some b|_=>none:=by
     unfold yielded;rw[f];simp only[Option.bind_some,hd];rfl
    have w:d∈o.looksAt ops:=by
     unfold Oper.looksAt;rw[l];simp only[List.mem_append];right;rw[f];simp[hd]
    rw[r];have c:∀v,s.get d=some v->VR D ι v (a.tmps.getD d undef)/\a.tmps[d]?=some (a.tmps.getD d undef):=λv i=>by
     obtain⟨h1,k⟩:=q d w v i;refine⟨k,?_⟩;have:d<a.tmps.size:=p▸h1;rw[Array.getElem?_eq_getElem this,Array.getD_eq_getD_getElem?,Array.getElem?_eq_getElem this];rfl
    split at h
    ·rename_i x i;cases h;obtain⟨h1,k⟩:=c _ i;rw[k];generalize a.tmps.getD d undef=u at h1;cases h1;simp
    ·rename_i v m i;cases f:nU v
     ·rw[f] at h;cases h
     rw[f,cond_true] at h;cases h;obtain⟨h1,k⟩:=c _ i;rw[k];have:∀b,a.tmps.getD d undef≠ .bool b:=by
      intro b e;rw[e] at h1;cases h1 with
      |junk _=>cases f
      |sym _ _=>cases f
      |err _ _ h=>cases h
      |bool _=>exact m b rfl
     split
     ·rename_i b e;simp only[Option.some.injEq] at e;exact absurd e (this b)
     ·simp
    ·cases h
   ·rename_i hd;cases h;unfold yielded;rw[f];simp[hd]
  ·rename_i f;cases h;unfold yielded;rw[f];simp
theorem O5 {o:Oper} {t:Tmp} (h:Operand.tmp t∈o.op.operands):t∈o.looksAt ops:=by
 unfold Oper.looksAt;simp only[List.mem_append,List.mem_filterMap];exact .inl ⟨.tmp t,by simpa using h,rfl⟩
include hE hC in
theorem CQ {o:Oper} (h:D9 P E call nt ops.toList o s σ=some (s1,σ1,φ)):
  σ.next<=σ1.next/\(σ.wf->σ1.wf/\AFr σ σ1 φ)/\∃v,RF nt s s1 o.dst v/\(σ1.Ok->
  ∀(D:Nat->Prop) (ι:Nat->Reg) (w:World) (a:Act) (i:Nat) (K:Act->World->Prop) (Q:Exit->Act->World->Prop),ops[i]?=some o->σ.wf->GI E D ι->(∀id,σ.rng σ1 id->¬D id)->a.tmps.size=nt->
   (∀t,t∈o.looksAt ops->∀v,s.get t=some v->t<nt/\VR D ι v (a.tmps.getD t undef))->HOn P D ι σ.H φ w->
   (∀v' ι' w',VR (λi=>D i\/σ.rng σ1 i) ι' v v'->Post P D (σ.rng σ1) ι σ.H w φ ι' σ1.H w'->K (a.put o.dst v') w')->wpOp P ops Q i K a w):=by
 have z:∀(D:Nat->Prop) (ι:Nat->Reg) (a:Act),GI E D ι->(∀t,t∈o.looksAt ops->∀v,s.get t=some v->t<nt/\VR D ι v (a.tmps.getD t undef))->∀x,x∈o.op.operands->YA E.G D ι s a.eval x:=
  λD ι a m u x S=>VM m.b λt e v T=>(u t (O5 (e▸S)) v T).2
 have c:∀{σ2:St},σ1.next=σ2.next->σ.rng σ1=σ.rng σ2:=λe=>by funext id;simp only[St.rng,e]
 unfold D9 at h
 split at h
 ·rename_i y
  split at h
  ·rename_i r u
   split at h
   ·rename_i v σ' d
    split at h
    ·rename_i N A;cases h;have g:=LH d (cY u);refine⟨g.1,g.2,v,KW A,?_⟩;intro n D ι w a i K Q B k m hd C p I l;obtain⟨L,J,M,F⟩:=Mq d n;rw[M,c F] at l;rw[c F] at hd;have j:=HW y C p;unfold wpOp;rw[B];simp only[j,if_true]
     left;obtain⟨_,_,U⟩:=ca hE (w:=w) u L (z D ι a m p);obtain⟨nx,v',ι',w',V,W,O,R⟩:=U k hd I;unfold Oper.wp;rw[V];rcases W with rfl|⟨rfl,rfl⟩
     ·exact l v' ι' w' (J _ _ _ O) R
     ·exact l undef ι' w' (J _ _ _ O) R
    ·cases h
   ·cases h
  ·rename_i f args u
   split at h
   ·rename_i v0 σ0 φ' X
    split at h
    ·rename_i v σ' d
     split at h
     ·rename_i N A;cases h;obtain⟨c1,c2,c3⟩:=hC.ok _ _ _ _ _ _ X;have g:=LH d ⟨c1,c2⟩;refine⟨g.1,g.2,v,KW A,?_⟩;intro n D ι w a i K Q B k m hd C p I l;obtain⟨L,J,M,F⟩:=Mq d n;rw[M,c F] at l;rw[c F] at hd;have j:=HW y C p;unfold wpOp
      rw[B];simp only[j,if_true];left;obtain⟨q,fn,g1,g2,g3⟩:=V3 hE (w:=w) u (z D ι a m p);unfold Oper.wp;rw[g3,Oper.upon_enter];refine(c3 L D ι w q k m hd g1 I).mono ?_;rintro e w' ⟨v',ι',rfl,Y,Z⟩;exact l v' ι' w' (J _ _ _ Y) Z
     ·cases h
    ·cases h
   ·cases h
  ·cases h
 ·rename_i y
  split at h
  ·rename_i N A;cases h;refine⟨Nat.le_refl _,λy=>⟨y,AFr.refl _ _⟩,undef,KW A,?_⟩;intro _ D ι w a i K Q B k m hd C p I l;have j:=HW y C p;unfold wpOp;rw[B];simp only[j,Bool.false_eq_true,if_false];exact l undef ι w (Ar 2 _ rfl) (Post.same (St.rng_self σ) rfl rfl rfl rfl rfl)
  ·cases h
 ·cases h
end
end Go.Eng
end
end
end
section
noncomputable section
noncomputable section
namespace Go.Eng
open Go
section
variable {P:Program} {E:Env} (hE:E.OK P) {call:Cb} (hC:CallSound P E call) {D:Nat->Prop} {ι:Nat->Reg} {σ σ1 σ2:St} {w:World} {s s1:Tr Value} {a:Act} {nt:Nat} {ops:Array Oper} {φ:Foot}
theorem KX (h1:σ.next<=σ1.next) (a:σ1.next<=σ2.next):(λi=>σ.rng σ1 i\/σ1.rng σ2 i)=σ.rng σ2:=by
 funext i;apply propext;simp only[St.rng];omega
theorem Xe (D:Nat->Prop) (h1:σ.next<=σ1.next) (a:σ1.next<=σ2.next):(λi=>(D i\/σ.rng σ1 i)\/σ1.rng σ2 i)=λi=>D i\/σ.rng σ2 i:=by
 funext i;have:σ.rng σ2 i=(σ.rng σ1 i\/σ1.rng σ2 i):=congrFun (KX h1 a).symm i;rw[this];apply propext;exact or_assoc
theorem GI.next {ι':Nat->Reg} {N:Nat->Prop} (h:GI E D ι) (hd:∀id,N id->¬D id) (a:∀id,¬N id->ι' id=ι id):GI E (λi=>D i\/N i) ι':=by
 intro g b;obtain⟨h1,c,d,f⟩:=h g b;have:ι' g=ι g:=a g λj=>hd g j h1
 exact⟨.inl h1,by rw[this];exact c,by rw[this];exact d,λp k e=>by rw[this];exact f p k e⟩
theorem FL.mono {D':Nat->Prop} {ι':Nat->Reg} (h:FL nt D ι s a) (b:∀i,D i->D' i) (c:∀i,D i->ι' i=ι i):FL nt D' ι' s a:=
 ⟨h.1,λt v e=>⟨(h.2 t v e).1,(h.2 t v e).2.mono b c⟩⟩
theorem Sq (a:Act) (dst:Option Tmp) (v:Value):(a.put dst v).tmps.size=a.tmps.size:=by
 cases dst<;>simp[Act.put]
theorem Mr (a:Act) (dst:Option Tmp) (v:Value):(a.put dst v).defers=a.defers:=by
 cases dst<;>rfl
theorem Ms (a:Act) (dst:Option Tmp) (v:Value) (t:Nat) (h:dst≠some t):(a.put dst v).tmps.getD t undef=a.tmps.getD t undef:=by
 cases dst with
 |none=>rfl
 |some d=>
  have:d≠t:=λe=>h (by rw[e])
  simp only[Act.put,Array.getD_eq_getD_getElem?,Array.getElem?_setIfInBounds_ne this]
theorem Mt (a:Act) (d:Nat) (v:Value) (h:d<a.tmps.size):(a.put (some d) v).tmps.getD d undef=v:=by
 simp[Act.put,h]
theorem FL.put {dst:Option Tmp} {v v':Value} (h:FL nt D ι s a) (c:RF nt s s1 dst v) (g:VR D ι v v'):FL nt D ι s1 (a.put dst v'):=by
 refine⟨(Sq a dst v').trans h.1,λt u e=> ?_⟩;cases dst with
 |none=>rw[c.1 rfl] at e;exact h.2 t u e
 |some d=>
  obtain⟨f,i⟩:=c.2 d rfl;rw[i t] at e
  split at e
  ·rename_i b;subst b;simp only[Option.some.injEq] at e;subst e;exact⟨f,by rw[Mt a t v' (by rw[h.1];exact f)];exact g⟩
  ·rename_i b;rw[Ms a (some d) v' t λe=>b (Option.some.inj e).symm];exact h.2 t u e
include hE hC in
theorem HX:∀(os:List Oper) (k:Nat) (s p:Tr Value) (σ σ':St) (φ:Foot),HV P E call nt ops.toList os s σ=some (p,σ',φ)->(∀j,j<os.length->os[j]?=ops[k+j]?)->
  σ.next<=σ'.next/\(σ.wf->σ'.wf/\AFr σ σ' φ)/\
  (σ.wf->σ'.Ok->∀(D:Nat->Prop) (ι:Nat->Reg) (w:World) (a:Act) (Q:Exit->Act->World->Prop),σ.wf->GI E D ι->(∀id,σ.rng σ' id->¬D id)->FL nt D ι s a->HOn P D ι σ.H φ w->
   (∀ι' w' z,FL nt (λi=>D i\/σ.rng σ' i) ι' p z->z.defers=a.defers->Post P D (σ.rng σ') ι σ.H w φ ι' σ'.H w'->Q .normal z w')->wpOps P ops Q (List.range' k os.length) a w)
 |[],k,s,p,σ,σ',φ,h,_=>by
  simp only[HV,Option.some.injEq,Prod.mk.injEq] at h;obtain⟨rfl,rfl,rfl⟩:=h;refine⟨Nat.le_refl _,λA=>⟨A,AFr.refl _ _⟩,λ_ _ D ι w a Q _ _ _ e q B=> ?_⟩;simp only[List.length_nil,List.range'_zero,wpOps];exact B ι w a (e.mono (λ_=>.inl) λ_ _=>rfl) rfl (Post.refl _ _ _ _ _ _ (St.rng_self σ))
 |o::os,k,s,p,σ,σ',φ,h,N=>by
  simp only[HV] at h
  split at h
  ·rename_i s1 σ1 φ1 h1
   split at h
   ·rename_i T σ2 φ2 U;simp only[Option.some.injEq,Prod.mk.injEq] at h;obtain⟨rfl,rfl,rfl⟩:=h;obtain⟨r,a2,v,a3,a4⟩:=CQ hE hC h1;obtain⟨u,O,V⟩:=HX os (k+1) s1 T σ1 σ2 φ2 U λj Y=>by
     have:=N (j+1) (by simp;omega);simp only[List.getElem?_cons_succ] at this;rw[this];congr 1;omega
    refine⟨Nat.le_trans r u,λA=> ?_,?_⟩
    ·obtain⟨W,f1⟩:=a2 A;obtain⟨C,f2⟩:=O W;exact⟨C,f1.trans f2 r u⟩
    ·intro f g D ι w a Q b R hd e q B;have l:σ1.Ok:=(O (a2 f).1).2.ok g;have F:ops[k]?=some o:=by
      have:=N 0 (by simp);simpa using this.symm
     have c:∀id,σ.rng σ1 id->¬D id:=λid d=>hd id (by simp only[St.rng] at d⊢;omega)
     rw[List.length_cons,List.range'_succ,wpOps_cons];refine a4 l D ι w a k _ Q F b R c e.1 (λt _ v G=>e.2 t v G) (q.sub (λid x=>Foot.add_Fi.2 (.inl x)) λid k x=>Foot.add_Fc.2 (.inl x)) ?_;intro v' ι' w' G y;have I:FL nt (λi=>D i\/σ.rng σ1 i) ι' s1 (a.put o.dst v'):=
      (e.mono (λ_=>.inl) λi F=>y.io i λX=>c i X F).put a3 G
     have J:=y.hon q c;have m:∀id,σ1.rng σ2 id->¬(D id\/σ.rng σ1 id):=λid d hx=>by
      rcases hx with hx|hx
      ·exact hd id (by simp only[St.rng] at d⊢;omega) hx
      ·simp only[St.rng] at d hx;omega
     refine V (a2 b).1 g _ ι' w' (a.put o.dst v') Q (a2 b).1 (R.next c y.io) m I J ?_;intro ι2 C K n L M;have S:=Post.trans q y M m λid d=>by
      have:σ.next<=id:=by simp only[St.rng] at d;omega
      simp only[St.H,b id this,Option.map_none]
     rw[KX r u] at S;rw[Xe D r u] at n;exact B ι2 C K n (L.trans (Mr _ _ _)) S
   ·cases h
  ·cases h
end
end Go.Eng
end
end
end
section
noncomputable section
noncomputable section
namespace Go.Eng
open Go
open Classical in
def Mu (g:H) (φ:Foot) (N:Nat->Prop) (h:H):H:=
 ⟨λid=>if φ.Wi id\/N id then h.hdr id else g.hdr id,λid k=>if φ.Wc id k\/N id then h.cell id k else g.cell id k⟩
section
variable {P:Program} {D N:Nat->Prop} {ι ι':Nat->Reg} {h h1 g:H} {w w':World} {φ:Foot}
theorem C3 {id:Nat} (a:φ.Wi id\/N id):(Mu g φ N h1).hdr id=h1.hdr id:=by simp only[Mu];rw[if_pos a]
theorem ID {id:Nat} (a:¬(φ.Wi id\/N id)):(Mu g φ N h1).hdr id=g.hdr id:=by simp only[Mu];rw[if_neg a]
theorem Pd {id k:Nat} (a:φ.Wc id k\/N id):(Mu g φ N h1).cell id k=h1.cell id k:=by simp only[Mu];rw[if_pos a]
theorem Mv {id k:Nat} (a:¬(φ.Wc id k\/N id)):(Mu g φ N h1).cell id k=g.cell id k:=by simp only[Mu];rw[if_neg a]
theorem Wr.of_eq {h g:H} {id:Nat} (e:g.hdr id=h.hdr id):Wr g id↔Wr h id:=by unfold Wr;rw[e]
theorem Lv.of_eq {h g:H} {id:Nat} (e:g.hdr id=h.hdr id):Lv g id↔Lv h id:=by unfold Lv;rw[e]
theorem Post.move (p:Post P D N ι h w φ ι' h1 w') (a:∀id,φ.Fi id->g.hdr id=h.hdr id) (nl:∀id,N id->g.hdr id=none):
  Post P D N ι g w φ ι' (Mu g φ N h1) w' where
 io:=p.io
 size:=p.size
 os:=p.os
 out:=p.out
 hdr:=λid x f e=>p.hdr id x f (by rwa[C3 f] at e)
 cel:=λid k v f lv e=>by
  rw[Pd f] at e;refine p.cel id k v f ?_ e;by_cases d:φ.Wi id\/N id
  ·exact(Lv.of_eq (C3 d)).1 lv
  ·have c:¬N id:=λx=>d (.inr x)
   have m:¬φ.Wi id:=λx=>d (.inl x)
   have t:φ.Wc id k:=f.resolve_right c;have u:(Mu g φ N h1).hdr id=h1.hdr id:=by rw[ID d,a id t.fi,p.ahdr id c m]
   exact(Lv.of_eq u).1 lv
 ahdr:=λid c d=>ID λx=>x.elim d c
 acel:=λid k c d=>Mv λx=>x.elim d c
 cfr:=λb r y=>by
  refine(p.cfr b r λid wi wr=>y id wi ((Wr.of_eq (a id wi.fi)).2 wr)).mono ?_;rintro o ⟨id,k,wc,wr,u,C⟩;exact⟨id,k,wc,(Wr.of_eq (a id wc.fi)).2 wr,u,C⟩
 fresh:=λid c lv b r=>by
  rcases p.fresh id c ((Lv.of_eq (C3 (.inr c))).1 lv) b r with f|⟨k,n,s,q,dk,e⟩
  ·exact .inl f
  ·exact .inr ⟨k,n,s,(Wr.of_eq (a k n.fi)).2 q,λl=>dk ((Lv.of_eq (C3 (.inl n))).1 l),e⟩
 freshF:=λid c lv b r=>by
  rcases p.freshF id c ((Lv.of_eq (C3 (.inr c))).1 lv) b r with f|⟨k,n,s,q,dk,e⟩|⟨k,z,s,E,e⟩
  ·exact .inl f
  ·exact .inr (.inl ⟨k,n,s,(Wr.of_eq (a k n.fi)).2 q,λl=>dk ((Lv.of_eq (C3 (.inl n))).1 l),e⟩)
  ·exact .inr (.inr ⟨k,z,s,(Lv.of_eq (a k z)).2 E,e⟩)
 dist:=λi j A B F G=>p.dist i j A B ((Wr.of_eq (C3 (.inr A))).1 F) ((Lv.of_eq (C3 (.inr B))).1 G)
 nl:=nl
 wl:=λid k wc c=>(Lv.of_eq (a id wc.fi)).2 (p.wl id k wc c)
 wrm:=λid c wr=>by
  by_cases d:φ.Wi id\/N id
  ·have m:=d.resolve_right c;exact(Wr.of_eq (a id m.fi)).2 (p.wrm id c ((Wr.of_eq (C3 d)).1 wr))
  ·exact(Wr.of_eq (ID d)).1 wr
 wrow:=λid k wc H I=>by
  obtain⟨l,e,J,h⟩:=p.wrow id k wc H I;exact⟨l,e,J,by rw[a id wc.fi];exact h⟩
theorem HOn.congr (b:HOn P D ι h φ w) (a:∀id,φ.Fi id->g.hdr id=h.hdr id) (c:∀id k,φ.Fc id k->g.cell id k=h.cell id k):HOn P D ι g φ w where
 hd:=λid x f e=>b.hd id x f (by rw[<-a id f];exact e)
 ce:=λid k v f l e=>b.ce id k v f ((Lv.of_eq (a id f.fi)).1 l) (by rw[<-c id k f];exact e)
 inj:=λi j fi d m n=>b.inj i j fi d ((Wr.of_eq (a i fi)).1 m) ((Lv.of_eq (a j d)).1 n)
theorem Post.same_foot {ψ:Foot} (p:Post P D N ι h w φ ι' h1 w') (c:∀id,ψ.Wi id↔φ.Wi id) (d:∀id k,ψ.Wc id k↔φ.Wc id k) (l:∀id,φ.Fi id->ψ.Fi id):Post P D N ι h w ψ ι' h1 w' where
 io:=p.io
 size:=p.size
 os:=p.os
 out:=p.out
 hdr:=λid x f=>p.hdr id x (f.imp_left (c id).1)
 cel:=λid k v f=>p.cel id k v (f.imp_left (d id k).1)
 ahdr:=λid a g=>p.ahdr id a λx=>g ((c id).2 x)
 acel:=λid k a g=>p.acel id k a λx=>g ((d id k).2 x)
 cfr:=λb e i=>(p.cfr b e λid wi=>i id ((c id).2 wi)).mono λ_ ⟨id,k,wc,r⟩=>⟨id,k,(d id k).2 wc,r⟩
 fresh:=λid a lv b e=>(p.fresh id a lv b e).imp_right λ⟨k,j,r⟩=>⟨k,(c k).2 j,r⟩
 freshF:=λid a lv b e=>(p.freshF id a lv b e).imp_right λx=>x.imp (λ⟨k,j,r⟩=>⟨k,(c k).2 j,r⟩) λ⟨k,m,r⟩=>⟨k,l k m,r⟩
 dist:=p.dist
 nl:=p.nl
 wl:=λid k wc=>p.wl id k ((d id k).1 wc)
 wrm:=p.wrm
 wrow:=λid k wc n=>p.wrow id k ((d id k).1 wc) λx=>n ((c id).2 x)
theorem Post.same_heap {a:H} (p:Post P D N ι h w φ ι' h1 w') (b:∀id,a.hdr id=h1.hdr id) (c:∀id k,a.cell id k=h1.cell id k):Post P D N ι h w φ ι' a w':=by
 have:a=h1:=by
  cases a;cases h1;congr
  ·funext id;exact b id
  ·funext id k;exact c id k
 rw[this];exact p
end
def Foot.trim (φ:Foot) (n:Nat):Foot:=
 ⟨φ.rc.filter λp=>Nat.blt p.1 n,φ.rh.filter λi=>Nat.blt i n,φ.wc.filter λp=>Nat.blt p.1 n,φ.wh.filter λi=>Nat.blt i n⟩
theorem MF {a b:Nat}:Nat.blt a b=true↔a<b:=by simp
theorem F7 {φ:Foot} {n id:Nat}:(φ.trim n).Wi id↔φ.Wi id/\id<n:=by simp[Foot.trim,Foot.Wi]
theorem F8 {φ:Foot} {n id k:Nat}:(φ.trim n).Wc id k↔φ.Wc id k/\id<n:=by
 simp only[Foot.trim,Foot.Wc,List.mem_filter,MF];constructor
 ·rintro(⟨h,a⟩|⟨h,a⟩)
  ·exact⟨.inl h,a⟩
  ·exact⟨.inr h,a⟩
 ·rintro⟨h|h,a⟩
  ·exact .inl ⟨h,a⟩
  ·exact .inr ⟨h,a⟩
theorem iH {φ:Foot} {n id k:Nat}:(φ.trim n).Fc id k↔φ.Fc id k/\id<n:=by
 simp only[Foot.trim,Foot.Fc,List.mem_filter,MF];constructor
 ·rintro(⟨h,a⟩|⟨h,a⟩|⟨h,a⟩|⟨h,a⟩)
  ·exact⟨.inl h,a⟩
  ·exact⟨.inr (.inl h),a⟩
  ·exact⟨.inr (.inr (.inl h)),a⟩
  ·exact⟨.inr (.inr (.inr h)),a⟩
 ·rintro⟨h|h|h|h,a⟩
  ·exact .inl ⟨h,a⟩
  ·exact .inr (.inl ⟨h,a⟩)
  ·exact .inr (.inr (.inl ⟨h,a⟩))
  ·exact .inr (.inr (.inr ⟨h,a⟩))
theorem JS {φ:Foot} {n id:Nat}:(φ.trim n).Fi id↔φ.Fi id/\id<n:=by
 simp only[Foot.trim,Foot.Fi,List.mem_filter,MF];constructor
 ·rintro(⟨k,h,a⟩|⟨h,a⟩|⟨k,h,a⟩|⟨h,a⟩)
  ·exact⟨.inl ⟨k,h⟩,a⟩
  ·exact⟨.inr (.inl h),a⟩
  ·exact⟨.inr (.inr (.inl ⟨k,h⟩)),a⟩
  ·exact⟨.inr (.inr (.inr h)),a⟩
 ·rintro⟨⟨k,h⟩|h|⟨k,h⟩|h,a⟩
  ·exact .inl ⟨k,h,a⟩
  ·exact .inr (.inl ⟨h,a⟩)
  ·exact .inr (.inr (.inl ⟨k,h,a⟩))
  ·exact .inr (.inr (.inr ⟨h,a⟩))
section
variable {P:Program} {D N:Nat->Prop} {ι ι':Nat->Reg} {h h1:H} {w w':World} {φ:Foot} {n:Nat}
theorem C4 (a:∀id,n<=id->h.hdr id=none) {id:Nat} (l:Lv h id):id<n:=by
 rcases Nat.lt_or_ge id n with b|c
 ·exact b
 ·obtain⟨x,e⟩:=l;rw[a id c] at e;cases e
theorem HOn.untrim (a:∀id,n<=id->h.hdr id=none) (b:HOn P D ι h (φ.trim n) w):HOn P D ι h φ w where
 hd:=λid x f e=>b.hd id x (JS.2 ⟨f,C4 a ⟨x,e⟩⟩) e
 ce:=λid k v f l e=>b.ce id k v (iH.2 ⟨f,C4 a l⟩) l e
 inj:=λi j fi g c d=>b.inj i j (JS.2 ⟨fi,C4 a c.lv⟩) (JS.2 ⟨g,C4 a d⟩) c d
theorem Post.trim (d:∀id,n<=id->h.hdr id=none) (p:Post P D N ι h w φ ι' h1 w'):Post P D N ι h w (φ.trim n) ι' h1 w':=by
 have e:∀id k,φ.Wc id k->¬N id->id<n:=λid k wc a=>C4 d (p.wl id k wc a)
 exact {
  io:=p.io
  size:=p.size
  os:=p.os
  out:=p.out
  hdr:=λid x c=>p.hdr id x (c.imp_left λy=>(F7.1 y).1)
  cel:=λid k v c=>p.cel id k v (c.imp_left λy=>(F8.1 y).1)
  ahdr:=λid a i=>p.ahdr id a λx=>i (F7.2 ⟨x,e id 0 (x.wc 0) a⟩)
  acel:=λid k a i=>p.acel id k a λx=>i (F8.2 ⟨x,e id k x a⟩)
  cfr:=λb f j=>(p.cfr b f λid wi wr=>j id (F7.2 ⟨wi,C4 d wr.lv⟩) wr).mono λ_ ⟨id,k,wc,wr,r⟩=>⟨id,k,F8.2 ⟨wc,C4 d wr.lv⟩,wr,r⟩
  fresh:=λid c lv b f=>(p.fresh id c lv b f).imp_right λ⟨k,l,g,wr,r⟩=>⟨k,F7.2 ⟨l,C4 d wr.lv⟩,g,wr,r⟩
  freshF:=λid c lv b f=>(p.freshF id c lv b f).imp_right λx=>x.imp (λ⟨k,l,g,wr,r⟩=>⟨k,F7.2 ⟨l,C4 d wr.lv⟩,g,wr,r⟩) λ⟨k,o,g,m,r⟩=>⟨k,JS.2 ⟨o,C4 d m⟩,g,m,r⟩
  dist:=p.dist
  nl:=p.nl
  wl:=λid k wc=>p.wl id k (F8.1 wc).1
  wrm:=p.wrm
  wrow:=λid k wc q=>p.wrow id k (F8.1 wc).1 λx=>q (F7.2 ⟨x,(F8.1 wc).2⟩)}
theorem AFr.trim {σ σ':St} (l:σ.wf) (f:σ'.wf) (a:AFr σ σ' φ):AFr σ σ' (φ.trim σ.next):=by
 have b:∀id,σ.next<=id->¬σ.rng σ' id->σ'.heap.get id=none/\σ.heap.get id=none:=λid e d=>by
  refine⟨f id ?_,l id e⟩;simp only[St.rng] at d;omega
 refine⟨λid d g=> ?_,λid k d g=> ?_,a.ok⟩
 ·by_cases e:id<σ.next
  ·exact a.h id d λy=>g (F7.2 ⟨y,e⟩)
  ·obtain⟨i,j⟩:=b id (by omega) d;simp only[St.H,i,j]
 ·by_cases e:id<σ.next
  ·exact a.c id k d λy=>g (F8.2 ⟨y,e⟩)
  ·obtain⟨i,j⟩:=b id (by omega) d;simp only[St.H,i,j]
end
structure Rec where
 φ:Foot
 lo:Nat
 hi:Nat
def C7 (P:Program) (E:Env) (call:Cb) (nt:Nat) (all:List Oper):List Oper->Tr Value->St->Option (Tr Value×St×List Rec)
 |[],s,σ=>some (s,σ,[])
 |o::os,s,σ=>match D9 P E call nt all o s σ with
  |some (s1,σ1,φ1)=>match C7 P E call nt all os s1 σ1 with
   |some (a,σ2,φs)=>some (a,σ2,⟨φ1.trim σ.next,σ.next,σ1.next⟩::φs)
   |none=>none
  |none=>none
def VN:Nat->List Nat->Bool
 |_,[]=>false
 |n,x::a=>bif Nat.beq n x then true else VN n a
def bl:Nat->Nat->List (Nat×Nat)->Bool
 |_,_,[]=>false
 |i,k,(j,l)::a=>bif Nat.beq i j&&Nat.beq k l then true else bl i k a
def bm:Nat->List (Nat×Nat)->Bool
 |_,[]=>false
 |i,(j,_)::a=>bif Nat.beq i j then true else bm i a
theorem Fa {n:Nat}:∀{l:List Nat},n∈l->VN n l=true
 |x::b,h=>by
  simp only[VN];cases a:Nat.beq n x
  ·rcases List.mem_cons.1 h with e|e
   ·subst e;rw[Cc rfl] at a;cases a
   ·exact Fa e
  ·rfl
theorem KY {i k:Nat}:∀{l:List (Nat×Nat)},(i,k)∈l->bl i k l=true
 |(j,m)::b,h=>by
  simp only[bl];cases a:(Nat.beq i j&&Nat.beq k m)
  ·rcases List.mem_cons.1 h with e|e
   ·cases e;simp at a
   ·exact KY e
  ·rfl
theorem KZ {i k:Nat}:∀{l:List (Nat×Nat)},(i,k)∈l->bm i l=true
 |(j,m)::b,h=>by
  simp only[bm];cases a:Nat.beq i j
  ·rcases List.mem_cons.1 h with e|e
   ·cases e;rw[Cc rfl] at a;cases a
   ·exact KZ e
  ·rfl
def RG (a b:Foot):Bool:=
 a.wc.all (λp=> !(bl p.1 p.2 b.rc||VN p.1 b.rh||bl p.1 p.2 b.wc||VN p.1 b.wh))&&
 a.wh.all (λi=> !(bm i b.rc||VN i b.rh||bm i b.wc||VN i b.wh))
theorem E5 {a b:Foot} (h:RG a b=true):(∀id k,a.Wc id k->¬b.Fc id k)/\∀id,a.Wi id->¬b.Fi id:=by
 simp only[RG,Bool.and_eq_true,List.all_eq_true,Bool.not_eq_true',Bool.or_eq_false_iff] at h;obtain⟨h1,f⟩:=h;have d:∀id,a.Wi id->¬b.Fi id:=by
  intro id hw c;obtain⟨⟨⟨g1,e⟩,g3⟩,g4⟩:=f id hw;rcases c with⟨k,c⟩|c|⟨k,c⟩|c
  ·rw[KZ c] at g1;cases g1
  ·rw[Fa c] at e;cases e
  ·rw[KZ c] at g3;cases g3
  ·rw[Fa c] at g4;cases g4
 refine⟨λid k hw c=> ?_,d⟩;rcases hw with hw|hw
 ·obtain⟨⟨⟨g1,e⟩,g3⟩,g4⟩:=h1 (id,k) hw;rcases c with c|c|c|c
  ·rw[KY c] at g1;cases g1
  ·rw[Fa c] at e;cases e
  ·rw[KY c] at g3;cases g3
  ·rw[Fa c] at g4;cases g4
 ·exact d id hw c.fi
def bn (lo a:Nat) (b:Foot):Bool:=
 b.rc.all (λp=> !(Nat.ble lo p.1&&Nat.blt p.1 a))&&b.rh.all (λi=> !(Nat.ble lo i&&Nat.blt i a))&&b.wc.all (λp=> !(Nat.ble lo p.1&&Nat.blt p.1 a))&&b.wh.all (λi=> !(Nat.ble lo i&&Nat.blt i a))
theorem VP {lo c:Nat} {b:Foot} (h:bn lo c b=true):∀id,lo<=id->id<c->¬b.Fi id:=by
 simp only[bn,Bool.and_eq_true,List.all_eq_true,Bool.not_eq_true'] at h;obtain⟨⟨⟨h1,d⟩,e⟩,f⟩:=h;intro id g a2 a;have key:(Nat.ble lo id&&Nat.blt id c)=true:=by
  rw[Bool.and_eq_true];exact⟨Nat.ble_eq_true_of_le g,MF.2 a2⟩
 rcases a with⟨k,a⟩|a|⟨k,a⟩|a
 ·have:=h1 _ a;rw[key] at this;cases this
 ·have:=d _ a;rw[key] at this;cases this
 ·have:=e _ a;rw[key] at this;cases this
 ·have:=f _ a;rw[key] at this;cases this
def HY (ops:Array Oper) (x y:Oper) (a b:Rec):Bool:=x.apart ops y&&RG a.φ b.φ&&RG b.φ a.φ&&bn a.lo a.hi b.φ
def Ef (a:List Nat):List Edge->Nat
 |[]=>0
 |e::b=>bif Region.binds .any e then Nat.lor (Nat.lor (Nat.shiftLeft 1 e.on) (a.getD e.on 0)) (Ef a b) else Ef a b
def Xf (ops:Array Oper) (y:Oper) (b:Rec) (c:Nat):Nat->List Oper->List Rec->Bool
 |_,[],_=>true
 |_,_,[]=>true
 |i,x::d,a::as=>(Nat.testBit c i||HY ops x y a b)&&Xf ops y b c (i+1) d as
def HZ (ops:Array Oper) (all:List Oper) (recs:List Rec):List Nat->List Oper->List Rec->Bool
 |_,[],_=>true
 |_,_::_,[]=>false
 |acc,y::a,b::bs=>
  y.after.toList.all (λe=> !(Region.binds .any e)||Nat.blt e.on acc.length)&&
  Xf ops y b (Ef acc y.after.toList) 0 (all.take acc.length) recs&&HZ ops all recs (acc++[Ef acc y.after.toList]) a bs
end Go.Eng
end
end
end
section
noncomputable section
noncomputable section
namespace Go.Eng
open Go
section
variable {P:Program} {E:Env} {call:Cb} {nt:Nat}
theorem JT (all:List Oper):∀(os:List Oper) (s b:Tr Value) (σ σ':St) (recs:List Rec),C7 P E call nt all os s σ=some (b,σ',recs)->
  ∃(S:Nat->Tr Value) (Z:Nat->St) (F:Nat->Foot),S 0=s/\Z 0=σ/\S os.length=b/\Z os.length=σ'/\recs.length=os.length/\
   (∀i o,os[i]?=some o->D9 P E call nt all o (S i) (Z i)=some (S (i+1),Z (i+1),F i))/\
   ∀i,i<os.length->recs[i]?=some ⟨(F i).trim (Z i).next,(Z i).next,(Z (i+1)).next⟩
 |[],s,b,σ,σ',recs,h=>by
  simp only[C7,Option.some.injEq,Prod.mk.injEq] at h;obtain⟨rfl,rfl,rfl⟩:=h;exact⟨λ_=>s,λ_=>σ,λ_=>.nil,rfl,rfl,rfl,rfl,rfl,by simp,by simp⟩
 |o::os,s,b,σ,σ',recs,h=>by
  simp only[C7] at h
  split at h
  ·rename_i s1 σ1 φ1 h1
   split at h
   ·rename_i d σ2 φs e;simp only[Option.some.injEq,Prod.mk.injEq] at h;obtain⟨rfl,rfl,rfl⟩:=h;obtain⟨S,Z,F,f,c,g,j,k,l,m⟩:=JT all os s1 d σ1 σ2 φs e;refine⟨λi=>match i with|0=>s|i+1=>S i,λi=>match i with|0=>σ|i+1=>Z i,λi=>match i with|0=>φ1|i+1=>F i,rfl,rfl,by simpa using g,by simpa using j,by simp[k],?_,?_⟩
    ·intro i n a;rcases i with _|i
     ·simp only[List.getElem?_cons_zero,Option.some.injEq] at a;subst a;simp only[f,c];exact h1
     ·exact l i n (by simpa using a)
    ·intro i a;rcases i with _|i
     ·simp only[c,List.getElem?_cons_zero]
     ·simpa using m i (by simpa using a)
   ·cases h
  ·cases h
def JU (ops:Array Oper) (S:Nat->Prop):Prop:=∀(j:Nat) o e,ops[j]?=some o->S j->e∈o.after.toList->Region.binds .any e=true->S e.on
def Sr (ops:Array Oper) (i j:Nat):Prop:=∀S,JU ops S->S j->S i
theorem Ha {ops:Array Oper} {acc:List Nat} (a:∀j,j<acc.length->∀i,(acc.getD j 0).testBit i=true->Sr ops i j):
  ∀(b:List Edge) (S:Nat->Prop),JU ops S->(∀e∈b,Region.binds .any e=true->e.on<acc.length/\S e.on)->∀i,(Ef acc b).testBit i=true->S i
 |[],S,_,_,i,h=>by simp[Ef] at h
 |e::b,S,c,d,i,h=>by
  simp only[Ef] at h;cases f:Region.binds .any e
  ·rw[f] at h;exact Ha a b S c (λg k=>d g (by simp[k])) i h
  ·rw[f,cond_true] at h;obtain⟨l,m⟩:=d e (by simp) f;change ((1<<<e.on|||acc.getD e.on 0)|||Ef acc b).testBit i=true at h;rw[Nat.testBit_or,Nat.testBit_or,Bool.or_eq_true,Bool.or_eq_true] at h;rcases h with(h|h)|h
   ·rw[Nat.testBit_shiftLeft] at h;simp only[Bool.and_eq_true,decide_eq_true_eq] at h;have:i=e.on:=by
     have n:=h.2;rw[show(1:Nat)=2^0 from rfl,Nat.testBit_two_pow] at n;simp at n;omega
    rw[this];exact m
   ·exact a e.on l i h S c m
   ·exact Ha a b S c (λg k=>d g (by simp[k])) i h
theorem Mw {ops:Array Oper} {y:Oper} {b:Rec} {c:Nat}:∀(d:List Oper) (recs:List Rec) (k:Nat),Xf ops y b c k d recs=true->
  ∀i x a,d[i]?=some x->recs[i]?=some a->c.testBit (k+i)=true\/HY ops x y a b=true
 |[],recs,k,_,i,x,a,e,_=>by simp at e
 |g::d,[],k,_,i,x,a,_,f=>by simp at f
 |g::d,a0::as,k,h,i,x,a,e,f=>by
  simp only[Xf,Bool.and_eq_true,Bool.or_eq_true] at h;rcases i with _|i
  ·simp only[List.getElem?_cons_zero,Option.some.injEq] at e f;subst e f;exact h.1
  ·have:=Mw d as (k+1) h.2 i x a (by simpa using e) (by simpa using f);rw[show k+(i+1)=k+1+i by omega];exact this
theorem Mx {ops:Array Oper} {recs:List Rec}:∀(u:List Oper) (bs:List Rec) (c:List Nat),HZ ops ops.toList recs c u bs=true->u=ops.toList.drop c.length->bs=recs.drop c.length->
  (∀j,j<c.length->∀i,(c.getD j 0).testBit i=true->Sr ops i j)->
  (∀(j:Nat) o,c.length<=j->ops[j]?=some o->∀e∈o.after.toList,Region.binds .any e=true->e.on<j)/\
  ∀(i j:Nat) x y a b,c.length<=j->i<j->ops[i]?=some x->ops[j]?=some y->recs[i]?=some a->recs[j]?=some b->Sr ops i j\/HY ops x y a b=true
 |[],bs,c,_,A,_,_=>by
  have P:ops.size<=c.length:=by
   have:=congrArg List.length A;simp at this;omega
  refine⟨λj o v r=> ?_,λi j x y a b v _ _ g=> ?_⟩
  ·rw[Array.getElem?_eq_none (by omega)] at r;cases r
  ·rw[Array.getElem?_eq_none (by omega)] at g;cases g
 |s::u,[],c,h,_,_,_=>by simp[HZ] at h
 |s::u,L::bs,c,h,A,E,m=>by
  simp only[HZ,Bool.and_eq_true] at h;obtain⟨⟨h1,M⟩,N⟩:=h;have n:ops[c.length]?=some s:=by
   have:=congrArg (λl=>l[0]?) A;simp at this;exact this.symm
  have B:recs[c.length]?=some L:=by
   have:=congrArg (λl=>l[0]?) E;simp at this;exact this.symm
  have k:∀e∈s.after.toList,Region.binds .any e=true->e.on<c.length:=by
   intro e p d;have:=List.all_eq_true.1 h1 e p;rw[d] at this;simpa using this
  have F:∀i,(Ef c s.after.toList).testBit i=true->Sr ops i c.length:=by
   intro i t S G O;exact Ha m _ S G (λe p d=>⟨k e p d,G _ _ _ n O p d⟩) i t
  have f:(c++[Ef c s.after.toList]).length=c.length+1:=by simp
  obtain⟨H,I⟩:=Mx u bs (c++[Ef c s.after.toList]) N (by
    rw[f,<-List.drop_drop,<-A];rfl) (by rw[f,<-List.drop_drop,<-E];rfl) (λj v i t=>by
    rw[f] at v;by_cases e:j=c.length
    ·subst e;simp[List.getD_eq_getElem?_getD] at t;exact F i t
    ·have w:j<c.length:=by omega
     refine m j w i ?_;rw[List.getD_eq_getElem?_getD,List.getElem?_append_left w] at t;rw[List.getD_eq_getElem?_getD];exact t)
  rw[f] at H I;refine⟨λj o v r e p d=> ?_,λi j x y a b v z J g K q=> ?_⟩
  ·by_cases C:j=c.length
   ·subst C;rw[n] at r;cases r;exact k e p d
   ·exact H j o (by omega) r e p d
  ·by_cases C:j=c.length
   ·subst C;rw[n] at g;cases g;rw[B] at q;cases q;have D:(ops.toList.take c.length)[i]?=some x:=by
     rw[List.getElem?_take_of_lt z,Array.getElem?_toList];exact J
    have:=Mw _ _ 0 M i x a D K;rw[Nat.zero_add] at this;exact this.imp_left (F i)
   ·exact I i j x y a b (by omega) z J g K q
def Ka (a b:Nat->Prop) (m:Nat):Prop:=(m=0/\∀j,b j->¬a j)\/∃j,m=j+1/\b j/\a j/\∀c,b c->a c->c<=j
theorem Dq {α:Type} (a:Nat->Prop) (val:Nat->α):∀(i:Nat),(∀j,j<i->¬a j->val (j+1)=val j)->∃m,Ka a (· <i) m/\val i=val m
 |0,_=>⟨0,.inl ⟨rfl,λ_ f=>absurd f (Nat.not_lt_zero _)⟩,rfl⟩
 |i+1,h=>by
  by_cases d:a i
  ·exact⟨i+1,.inr ⟨i,rfl,Nat.lt_succ_self i,d,λg k _=>by omega⟩,rfl⟩
  ·obtain⟨m,h1,l⟩:=Dq a val i λj f n=>h j (by omega) n
   refine⟨m,?_,(h i (by omega) d).trans l⟩;rcases h1 with⟨e,h1⟩|⟨j,e,q,o,p⟩
   ·refine .inl ⟨e,λj f=> ?_⟩;by_cases b:j=i
    ·subst b;exact d
    ·exact h1 j (by omega)
   ·refine .inr ⟨j,e,by omega,o,λg k c=> ?_⟩;by_cases b:g=i
    ·subst b;exact absurd c d
    ·exact p g (by omega) c
theorem Fb {a g b:Nat->Prop} {m:Nat} (h:Ka a b m) (e:∀j,a j->(g j↔b j)):Ka a g m:=by
 rcases h with⟨d,h1⟩|⟨j,d,n,i,o⟩
 ·exact .inl ⟨d,λ_ p k=>h1 _ ((e _ k).1 p) k⟩
 ·exact .inr ⟨j,d,(e j i).2 n,i,λl f c=>o l ((e l c).1 f) c⟩
theorem My {a c:Nat->Prop} {m i:Nat} (h:Ka a (λj=>c j\/j=i) m) (d:a i) (e:∀j,c j->a j->j<i):m=i+1:=by
 rcases h with⟨_,h1⟩|⟨j,k,b,f,g⟩
 ·exact absurd d (h1 i (.inr rfl))
 ·have:=g i (.inr rfl) d;rcases b with b|b
  ·have:=e j b f;omega
  ·omega
theorem Kb {a b:Nat->Prop} {m i:Nat} (h:Ka a (λj=>b j\/j=i) m) (c:¬a i):Ka a b m:=
 Fb h λ_ d=>⟨.inl,λx=>x.resolve_right λe=>c (e▸d)⟩
end
end Go.Eng
end
end
end
section
noncomputable section
noncomputable section
namespace Go.Eng
open Go
def B9 (Z:Nat->St) (F:Nat->Foot) (i:Nat):Rec:=⟨(F i).trim (Z i).next,(Z i).next,(Z (i+1)).next⟩
structure Run (P:Program) (E:Env) (call:Cb) (nt:Nat) (ops:Array Oper) (S:Nat->Tr Value) (Z:Nat->St) (F:Nat->Foot):Prop where
 step:∀(i:Nat) o,ops[i]?=some o->D9 P E call nt ops.toList o (S i) (Z i)=some (S (i+1),Z (i+1),F i)
 back:∀(j:Nat) o,ops[j]?=some o->∀e∈o.after.toList,Region.binds .any e=true->e.on<j
 pair:∀(i j:Nat) x y,i<j->ops[i]?=some x->ops[j]?=some y->Sr ops i j\/HY ops x y (B9 Z F i) (B9 Z F j)=true
 wf0:(Z 0).wf
section
variable {P:Program} {E:Env} (hE:E.OK P) {call:Cb} (hC:CallSound P E call) {nt:Nat} {ops:Array Oper} {S:Nat->Tr Value} {Z:Nat->St} {F:Nat->Foot} (hR:Run P E call nt ops S Z F)
theorem Bt {i:Nat} (h:i<ops.size):∃o,ops[i]?=some o:=⟨ops[i],Array.getElem?_eq_getElem h⟩
theorem VQ {i:Nat} {o:Oper} (h:ops[i]?=some o):i<ops.size:=by
 rcases Nat.lt_or_ge i ops.size with a|b
 ·exact a
 ·rw[Array.getElem?_eq_none b] at h;cases h
include hE hC hR
theorem Run.next {i:Nat} (h:i<ops.size):(Z i).next<=(Z (i+1)).next:=by
 obtain⟨o,a⟩:=Bt h;exact(CQ hE hC (hR.step i o a)).1
theorem Run.le {i:Nat}:∀{j:Nat},i<=j->j<=ops.size->(Z i).next<=(Z j).next:=by
 intro j
 induction j with
 |zero=>intro h _;have:i=0:=by omega
        subst this;exact Nat.le_refl _
 |succ j a=>
  intro h1 b;by_cases e:i=j+1
  ·subst e;exact Nat.le_refl _
  ·exact Nat.le_trans (a (by omega) (by omega)) (hR.next hE hC (by omega))
theorem Run.wf:∀{i:Nat},i<=ops.size->(Z i).wf
 |0,_=>hR.wf0
 |i+1,h=>by
  obtain⟨o,a⟩:=Bt (ops:=ops) (i:=i) (by omega);exact((CQ hE hC (hR.step i o a)).2.1 (Run.wf (by omega))).1
theorem Run.afr {i:Nat} (h:i<ops.size):AFr (Z i) (Z (i+1)) (B9 Z F i).φ:=by
 obtain⟨o,c⟩:=Bt h;have b:=hR.wf hE hC (i:=i) (by omega);have a:=hR.wf hE hC (i:=i+1) (by omega);exact(((CQ hE hC (hR.step i o c)).2.1 b).2).trim b a
theorem Run.ok (a:(Z ops.size).Ok):∀(n i:Nat),i+n=ops.size->(Z i).Ok
 |0,i,h=>by rw[show i=ops.size by omega];exact a
 |n+1,i,h=>(hR.afr hE hC (i:=i) (by omega)).ok (Run.ok a n (i+1) (by omega))
omit hE hC hR
def tH (Z:Nat->St) (F:Nat->Foot) (id j:Nat):Prop:=(B9 Z F j).φ.Wi id\/(Z j).rng (Z (j+1)) id
def tC (Z:Nat->St) (F:Nat->Foot) (id k j:Nat):Prop:=(B9 Z F j).φ.Wc id k\/(Z j).rng (Z (j+1)) id
def tS (ops:Array Oper) (t j:Nat):Prop:=∃o,ops[j]?=some o/\o.dst=some t
structure DInv (P:Program) (nt:Nat) (ops:Array Oper) (S:Nat->Tr Value) (Z:Nat->St) (F:Nat->Foot) (D:Nat->Prop) (ι0:Nat->Reg) (w0:World) (ds:List Deferred) (dn:Nat->Prop)
  (ι:Nat->Reg) (g:H) (N:Nat->Prop) (φ:Foot) (a:Act) (w:World):Prop where
 lt:∀j,dn j->j<ops.size
 hN:∀id,N id↔∃j,dn j/\(Z j).rng (Z (j+1)) id
 post:Post P D N ι0 (Z 0).H w0 φ ι g w
 wi:∀id,φ.Wi id↔∃j,dn j/\(B9 Z F j).φ.Wi id
 wc:∀id k,φ.Wc id k↔∃j,dn j/\(B9 Z F j).φ.Wc id k
 fi:∀id,φ.Fi id->∃j,dn j/\(B9 Z F j).φ.Fi id
 fc:∀id k,φ.Fc id k->∃j,dn j/\(B9 Z F j).φ.Fc id k
 vh:∀id m,Ka (tH Z F id) dn m->g.hdr id=(Z m).H.hdr id
 vc:∀id k m,Ka (tC Z F id k) dn m->g.cell id k=(Z m).H.cell id k
 vs:∀t m,Ka (tS ops t) dn m->∀v,(S m).get t=some v->t<nt/\VR (λi=>D i\/N i) ι v (a.tmps.getD t undef)
 sz:a.tmps.size=nt
 df:a.defers=ds
include hE hC hR
theorem Run.stepAny {D:Nat->Prop} {ι0:Nat->Reg} {w0:World} {ds:List Deferred} {G:Nat->Prop} {ι:Nat->Reg} {g:H} {N:Nat->Prop} {φ:Foot} {a:Act} {w:World} {i:Nat} {o:Oper} {T:Foot}
  (hok:(Z ops.size).Ok) (n:DInv P nt ops S Z F D ι0 w0 ds G ι g N φ a w) (U:ops[i]?=some o) (B:¬G i) (hcl:JU ops G) (hcl':∀e∈o.after.toList,Region.binds .any e=true->G e.on)
  (hT1:∀j id,j<ops.size->(B9 Z F j).φ.Fi id->T.Fi id) (hT2:∀j id k,j<ops.size->(B9 Z F j).φ.Fc id k->T.Fc id k) (h0:HOn P D ι0 (Z 0).H T w0) (hG:GI E D ι0)
  (hD:∀j id,j<ops.size->(Z j).rng (Z (j+1)) id->¬D id) {K:Act->World->Prop} {Q:Exit->Act->World->Prop}
  (hK:∀ι' g' N' φ' a' w',DInv P nt ops S Z F D ι0 w0 ds (λj=>G j\/j=i) ι' g' N' φ' a' w'->K a' w'):wpOp P ops Q i K a w:=by
 have V:=VQ U;have hcl2:JU ops λj=>G j\/j=i:=by
  intro j o' e c hd he hb;rcases hd with hd|rfl
  ·exact .inl (hcl j o' e c hd he hb)
  ·rw[U] at c;cases c;exact .inl (hcl' e he hb)
 have later:∀j y,G j->ops[j]?=some y->i<j->HY ops o y (B9 Z F i) (B9 Z F j)=true:=by
  intro j y c L q;rcases hR.pair i j o y q U L with h|h
  ·exact absurd (h G hcl c) B
  ·exact h
 have r:∀j x,¬G j->ops[j]?=some x->j<i->HY ops x o (B9 Z F j) (B9 Z F i)=true:=by
  intro j x c M q;rcases hR.pair j i x o q M U with h|h
  ·rcases h _ hcl2 (.inr rfl) with h|h
   ·exact absurd h c
   ·omega
  ·exact h
 have z:∀x y a b,HY ops x y a b=true->(x.apart ops y=true/\(∀id k,a.φ.Wc id k->¬b.φ.Fc id k)/\(∀id,a.φ.Wi id->¬b.φ.Fi id))/\(∀id k,b.φ.Wc id k->¬a.φ.Fc id k)/\(∀id,b.φ.Wi id->¬a.φ.Fi id)/\
   ∀id,a.lo<=id->id<a.hi->¬b.φ.Fi id:=by
  intro x y a b h;simp only[HY,Bool.and_eq_true] at h;obtain⟨⟨⟨h1,I⟩,h3⟩,h4⟩:=h;exact⟨⟨h1,(E5 I).1,(E5 I).2⟩,(E5 h3).1,(E5 h3).2,VP h4⟩
 have C:∀j id,(B9 Z F j).φ.Fi id->id<(Z j).next:=λj id h=>(JS.1 h).2
 have eqH:∀id,(B9 Z F i).φ.Fi id->∀j,tH Z F id j->(G j↔j<i):=by
  intro id l j f;constructor
  ·intro c;rcases Nat.lt_trichotomy j i with h|h|h
   ·exact h
   ·subst h;exact absurd c B
   ·obtain⟨y,L⟩:=Bt (n.lt j c);have A:=z _ _ _ _ (later j y c L h);rcases f with f|f
    ·exact absurd l (A.2.2.1 id f)
    ·have h1:=C i id l;have I:=hR.le hE hC (i:=i) (j:=j) (by omega) (by have:=n.lt j c;omega);simp only[St.rng] at f;omega
  ·intro q;rcases Classical.em (G j) with c|c
   ·exact c
   ·obtain⟨x,M⟩:=Bt (ops:=ops) (i:=j) (by omega);have A:=z _ _ _ _ (r j x c M q);rcases f with f|f
    ·exact absurd l (A.1.2.2 id f)
    ·exact absurd l (A.2.2.2 id f.1 f.2)
 have gu:∀id k,(B9 Z F i).φ.Fc id k->∀j,tC Z F id k j->(G j↔j<i):=by
  intro id k l j f;constructor
  ·intro c;rcases Nat.lt_trichotomy j i with h|h|h
   ·exact h
   ·subst h;exact absurd c B
   ·obtain⟨y,L⟩:=Bt (n.lt j c);have A:=z _ _ _ _ (later j y c L h);rcases f with f|f
    ·exact absurd l (A.2.1 id k f)
    ·have h1:=C i id l.fi;have I:=hR.le hE hC (i:=i) (j:=j) (by omega) (by have:=n.lt j c;omega);simp only[St.rng] at f;omega
  ·intro q;rcases Classical.em (G j) with c|c
   ·exact c
   ·obtain⟨x,M⟩:=Bt (ops:=ops) (i:=j) (by omega);have A:=z _ _ _ _ (r j x c M q);rcases f with f|f
    ·exact absurd l (A.1.2.1 id k f)
    ·exact absurd l.fi (A.2.2.2 id f.1 f.2)
 have rW:∀t,t∈o.looksAt ops->∀j,tS ops t j->(G j↔j<i):=by
  intro t hl j f;obtain⟨x,M,hxd⟩:=f;constructor
  ·intro c;rcases Nat.lt_trichotomy j i with h|h|h
   ·exact h
   ·subst h;exact absurd c B
   ·have A:=(z _ _ _ _ (later j x c M h)).1.1;exact absurd hl ((Oper.apart_spec A).2.2 t hxd)
  ·intro q;rcases Classical.em (G j) with c|c
   ·exact c
   ·have A:=(z _ _ _ _ (r j x c M q)).1.1;exact absurd hl ((Oper.apart_spec A).1 t hxd)
 have ag1:∀id,(B9 Z F i).φ.Fi id->g.hdr id=(Z i).H.hdr id:=by
  intro id l;obtain⟨m,h1,I⟩:=Dq (tH Z F id) (λj=>(Z j).H.hdr id) i λj c O=>
   (hR.afr hE hC (i:=j) (by omega)).1 id (λx=>O (.inr x)) λx=>O (.inl x)
  rw[n.vh id m (Fb h1 λj c=>eqH id l j c),I]
 have ag2:∀id k,(B9 Z F i).φ.Fc id k->g.cell id k=(Z i).H.cell id k:=by
  intro id k l;obtain⟨m,h1,I⟩:=Dq (tC Z F id k) (λj=>(Z j).H.cell id k) i λj c O=>
   (hR.afr hE hC (i:=j) (by omega)).2 id k (λx=>O (.inr x)) λx=>O (.inl x)
  rw[n.vc id k m (Fb h1 λj c=>gu id k l j c),I]
 have slotStep:∀j,j<ops.size->∀t,¬tS ops t j->(S (j+1)).get t=(S j).get t:=by
  intro j c t O;obtain⟨x,M⟩:=Bt c;obtain⟨_,_,v,A,_⟩:=CQ hE hC (hR.step j x M);cases hd:x.dst with
  |none=>rw[A.1 hd]
  |some d=>
   rw[(A.2 d hd).2 t,if_neg];intro e;exact O ⟨x,M,by rw[hd,e]⟩
 have ag3:∀t,t∈o.looksAt ops->∀v,(S i).get t=some v->t<nt/\VR (λi=>D i\/N i) ι v (a.tmps.getD t undef):=by
  intro t hl v hv;obtain⟨m,h1,I⟩:=Dq (tS ops t) (λj=>(S j).get t) i λj c O=>slotStep j (by omega) t O
  have I:(S i).get t=(S m).get t:=I;rw[I] at hv;exact n.vs t m (Fb h1 λj c=>rW t hl j c) v hv
 obtain⟨hnx,_,v,hps,SQ⟩:=CQ hE hC (hR.step i o U);have hwf:=hR.wf hE hC (i:=i) (by omega);have W:∀id,(Z i).rng (Z (i+1)) id->¬N id:=by
  intro id s O;obtain⟨j,c,hr'⟩:=(n.hN id).1 O;have hjl:=n.lt j c;rcases Nat.lt_trichotomy j i with h|h|h
  ·have:=hR.le hE hC (i:=j+1) (j:=i) (by omega) (by omega);simp only[St.rng] at s hr';omega
  ·subst h;exact B c
  ·have:=hR.le hE hC (i:=i+1) (j:=j) (by omega) (by omega);simp only[St.rng] at s hr';omega
 have hDN:∀id,N id->¬D id:=by
  intro id O;obtain⟨j,c,s⟩:=(n.hN id).1 O;exact hD j id (n.lt j c) s
 have hDi:∀id,(Z i).rng (Z (i+1)) id->¬(D id\/N id):=λid s M=>M.elim (hD i id V s) (W id s)
 have hT:HOn P D ι0 (Z 0).H (φ.add (B9 Z F i).φ) w0:=h0.sub
  (λid l=>by
   rcases Foot.add_Fi.1 l with l|l
   ·obtain⟨j,c,l⟩:=n.fi id l;exact hT1 j id (n.lt j c) l
   ·exact hT1 i id V l)
  (λid k l=>by
   rcases Foot.add_Fc.1 l with l|l
   ·obtain⟨j,c,l⟩:=n.fc id k l;exact hT2 j id k (n.lt j c) l
   ·exact hT2 i id k V l)
 have hon:HOn P (λi=>D i\/N i) ι g (B9 Z F i).φ w:=n.post.hon hT hDN;have hon2:HOn P (λi=>D i\/N i) ι (Z i).H (B9 Z F i).φ w:=hon.congr (λid l=>(ag1 id l).symm) λid k l=>(ag2 id k l).symm
 have hon3:HOn P (λi=>D i\/N i) ι (Z i).H (F i) w:=hon2.untrim λid hid=>St.hdr_none hwf id hid
 refine SQ (hR.ok hE hC hok (ops.size-(i+1)) (i+1) (by omega)) _ ι w a i K Q U hwf (hG.next hDN n.post.io) hDi n.sz ag3 hon3 ?_;intro v' ι' w' hv A;have hp2:Post P (λi=>D i\/N i) ((Z i).rng (Z (i+1))) ι (Z i).H w (B9 Z F i).φ ι' (Z (i+1)).H w':=A.trim λid hid=>St.hdr_none hwf id hid
 have J:∀id,(Z i).rng (Z (i+1)) id->(Z 0).H.hdr id=none:=λid s=>St.hdr_none hR.wf0 id (by
  have:=hR.le hE hC (i:=0) (j:=i) (by omega) (by omega);simp only[St.rng] at s;omega)
 have hnone:∀id,(Z i).rng (Z (i+1)) id->g.hdr id=none:=by
  intro id s;obtain⟨m,h1,I⟩:∃m,Ka (tH Z F id) G m/\m=0:=by
   refine⟨0,.inl ⟨rfl,λj c f=> ?_⟩,rfl⟩;have hjl:=n.lt j c;rcases f with f|f
   ·
    have q:=C j id f.fi;rcases Nat.lt_trichotomy j i with h|h|h
    ·have:=hR.le hE hC (i:=j) (j:=i) (by omega) (by omega);simp only[St.rng] at s;omega
    ·subst h;exact B c
    ·obtain⟨y,L⟩:=Bt hjl;exact(z _ _ _ _ (later j y c L h)).2.2.2 id s.1 s.2 f.fi
   ·exact W id s ((n.hN id).2 ⟨j,c,f⟩)
  rw[n.vh id m h1,I];exact J id s
 have hmv:=hp2.move ag1 hnone;have htr:=Post.trans hT n.post hmv hDi J;refine hK ι' (Mu g (B9 Z F i).φ ((Z i).rng (Z (i+1))) (Z (i+1)).H) (λid=>N id\/(Z i).rng (Z (i+1)) id) (φ.add (B9 Z F i).φ) (a.put o.dst v') w' ?_;refine { lt:= ?_,hN:= ?_,post:=htr,wi:= ?_,wc:= ?_,fi:= ?_,fc:= ?_,vh:= ?_,vc:= ?_,vs:= ?_,sz:=(Sq _ _ _).trans n.sz,df:=(Mr _ _ _).trans n.df}
 ·rintro j (c|rfl)
  ·exact n.lt j c
  ·exact V
 ·intro id;constructor
  ·rintro(h|h)
   ·obtain⟨j,c,s⟩:=(n.hN id).1 h;exact⟨j,.inl c,s⟩
   ·exact⟨i,.inr rfl,h⟩
  ·rintro⟨j,c|rfl,s⟩
   ·exact .inl ((n.hN id).2 ⟨j,c,s⟩)
   ·exact .inr s
 ·intro id;rw[Foot.add_Wi,n.wi];constructor
  ·rintro(⟨j,c,h⟩|h)
   ·exact⟨j,.inl c,h⟩
   ·exact⟨i,.inr rfl,h⟩
  ·rintro⟨j,c|rfl,h⟩
   ·exact .inl ⟨j,c,h⟩
   ·exact .inr h
 ·intro id k;rw[Foot.add_Wc,n.wc];constructor
  ·rintro(⟨j,c,h⟩|h)
   ·exact⟨j,.inl c,h⟩
   ·exact⟨i,.inr rfl,h⟩
  ·rintro⟨j,c|rfl,h⟩
   ·exact .inl ⟨j,c,h⟩
   ·exact .inr h
 ·intro id l;rcases Foot.add_Fi.1 l with l|l
  ·obtain⟨j,c,h⟩:=n.fi id l;exact⟨j,.inl c,h⟩
  ·exact⟨i,.inr rfl,l⟩
 ·intro id k l;rcases Foot.add_Fc.1 l with l|l
  ·obtain⟨j,c,h⟩:=n.fc id k l;exact⟨j,.inl c,h⟩
  ·exact⟨i,.inr rfl,l⟩
 ·intro id m X;by_cases f:tH Z F id i
  ·have:m=i+1:=My X f λj c p=>by
    rcases f with f|f
    ·exact(eqH id f.fi j p).1 c
    ·
     exfalso;rcases p with p|p
     ·have q:=C j id p.fi;rcases Nat.lt_trichotomy j i with h|h|h
      ·have:=hR.le hE hC (i:=j) (j:=i) (by omega) (by omega);simp only[St.rng] at f;omega
      ·subst h;exact B c
      ·obtain⟨y,L⟩:=Bt (n.lt j c);exact(z _ _ _ _ (later j y c L h)).2.2.2 id f.1 f.2 p.fi
     ·exact W id f ((n.hN id).2 ⟨j,c,p⟩)
   rw[this];exact C3 f
  ·have R:=Kb X f;rw[ID f];exact n.vh id m R
 ·intro id k m X;by_cases f:tC Z F id k i
  ·have:m=i+1:=My X f λj c p=>by
    rcases f with f|f
    ·exact(gu id k f.fc j p).1 c
    ·exfalso;rcases p with p|p
     ·have q:=C j id p.fi;rcases Nat.lt_trichotomy j i with h|h|h
      ·have:=hR.le hE hC (i:=j) (j:=i) (by omega) (by omega);simp only[St.rng] at f;omega
      ·subst h;exact B c
      ·obtain⟨y,L⟩:=Bt (n.lt j c);exact(z _ _ _ _ (later j y c L h)).2.2.2 id f.1 f.2 p.fi
     ·exact W id f ((n.hN id).2 ⟨j,c,p⟩)
   rw[this];exact Pd f
  ·have R:=Kb X f;rw[Mv f];exact n.vc id k m R
 ·intro t m X u hu;have Y:∀j,(D j\/N j)\/(Z i).rng (Z (i+1)) j->D j\/(N j\/(Z i).rng (Z (i+1)) j):=λj h=>or_assoc.1 h
  by_cases f:tS ops t i
  ·obtain⟨o',ho',hd⟩:=f;rw[U] at ho';cases ho';have:m=i+1:=My X ⟨o,U,hd⟩ λj c p=>by
    obtain⟨y,L,hyd⟩:=p;rcases Nat.lt_trichotomy j i with h|h|h
    ·exact h
    ·subst h;exact absurd c B
    ·have A:=(z _ _ _ _ (later j y c L h)).1.1;exact absurd hyd ((Oper.apart_spec A).2.1 t hd)
   subst this;obtain⟨p1,p2⟩:=hps.2 t hd;rw[p2 t,if_pos rfl] at hu;cases hu;refine⟨p1,?_⟩;rw[hd,Mt a t v' (by rw[n.sz];exact p1)];exact hv.mono Y λ_ _=>rfl
  ·have R:=Kb X f;obtain⟨q1,q2⟩:=n.vs t m R u hu;refine⟨q1,?_⟩;have hne:o.dst≠some t:=λe=>f ⟨o,U,e⟩
   rw[Ms a o.dst v' t hne];exact q2.mono (λj c=>Y j (.inl c)) λj c=>A.io j λs=>hDi j s c
end
end Go.Eng
end
end
end
section
noncomputable section
noncomputable section
namespace Go.Eng
open Go
def BP:List Rec->Foot
 |[]=>.nil
 |r::rs=>r.φ.add (BP rs)
def gv:Nat->Array Bool->Nat
 |0,_=>0
 |k+1,l=>gv k l+(bif l.getD k true then 0 else 1)
theorem Xg {l:Array Bool} {i:Nat} (c:i<l.size):∀k,gv k (l.setIfInBounds i true)+(if i<k/\l.getD i true=false then 1 else 0)=gv k l
 |0=>by simp[gv]
 |k+1=>by
  have b:=Xg c k;simp only[gv];by_cases e:k=i
  ·subst e;rw[if_neg (by omega)] at b;have h1:(l.setIfInBounds k true).getD k true=true:=by simp
   rw[h1];cases d:l.getD k true
   ·rw[if_pos ⟨by omega,rfl⟩];simp only[cond_true,cond_false];omega
   ·rw[if_neg (by simp)];simp only[cond_true];omega
  ·have h1:(l.setIfInBounds i true).getD k true=l.getD k true:=by
    simp only[Array.getD_eq_getD_getElem?,Array.getElem?_setIfInBounds_ne (Ne.symm e)]
   rw[h1];by_cases a:i<k/\l.getD i true=false
   ·rw[if_pos a] at b;rw[if_pos ⟨by omega,a.2⟩];omega
   ·rw[if_neg a] at b;rw[if_neg]
    ·omega
    ·intro h;exact a ⟨by omega,h.2⟩
theorem Ss {l:Array Bool}:∀k,gv k l=0->∀j,j<k->l.getD j true=true
 |0,_,j,h=>absurd h (Nat.not_lt_zero j)
 |k+1,h,j,b=>by
  simp only[gv] at h;by_cases e:j=k
  ·subst e;cases a:l.getD j true
   ·rw[a] at h;simp at h
   ·rfl
  ·exact Ss k (by omega) j (by omega)
theorem Su (n:Nat):∀k,k<=n->gv k (Array.replicate n false)=k
 |0,_=>rfl
 |k+1,h=>by
  simp only[gv];rw[Su n k (by omega)];have:(Array.replicate n false).getD k true=false:=by
   simp[Array.getD_eq_getD_getElem?,show k<n by omega]
  rw[this];rfl
theorem Sv {n:Nat} (j:Nat):¬((Array.replicate n false).getD j false=true):=by
 rw[Array.getD_eq_getD_getElem?,Array.getElem?_replicate]
 split<;>simp
section
variable {P:Program} {E:Env} (hE:E.OK P) {call:Cb} (hC:CallSound P E call) {nt:Nat} {ops:Array Oper} {S:Nat->Tr Value} {Z:Nat->St} {F:Nat->Foot} (hR:Run P E call nt ops S Z F)
theorem Kc {l:Array Bool} {i:Nat}:i∈Region.ready .any ops l↔i<ops.size/\l.getD i true=false/\∃o,ops[i]?=some o/\∀e∈o.after.toList,Region.binds .any e=true->l.getD e.on false=true:=by
 unfold Region.ready;simp only[List.mem_filter,List.mem_range,Bool.and_eq_true,Bool.not_eq_true'];constructor
 ·rintro⟨h1,c,a⟩;obtain⟨o,b⟩:=Bt h1;refine⟨h1,c,o,b,λe d f=> ?_⟩;rw[b] at a;simp only[Option.map_some,Option.getD_some] at a;rw[<-Array.all_toList] at a;have:=List.all_eq_true.1 a e d;rw[f] at this;simpa using this
 ·rintro⟨h1,c,o,b,a⟩;refine⟨h1,c,?_⟩;rw[b];simp only[Option.map_some,Option.getD_some];rw[<-Array.all_toList,List.all_eq_true];intro e d;cases f:Region.binds .any e
  ·rfl
  ·simpa using a e d f
include hR in
theorem VS {l:Array Bool} (h:Region.ready .any ops l=[]):∀j,j<ops.size->l.getD j true=true:=by
 intro j
 induction j using Nat.strongRecOn with
 |_ j g=>
  intro d;cases a:l.getD j true
  ·exfalso;obtain⟨o,f⟩:=Bt d;have:j∈Region.ready .any ops l:=Kc.2 ⟨d,a,o,f,λe i b=>by
    have c:=hR.back j o f e i b;have h1:=g e.on c (by omega);have:e.on<l.size:=by
     rcases Nat.lt_or_ge j l.size with m|k
     ·omega
     ·rw[Array.getD_eq_getD_getElem?,Array.getElem?_eq_none k] at a;cases a
    rw[Array.getD_eq_getD_getElem?,Array.getElem?_eq_getElem this] at h1⊢;exact h1⟩
   rw[h] at this;cases this
  ·rfl
include hE hC hR
theorem Run.any (s:(Z ops.size).Ok) {D:Nat->Prop} {ι0:Nat->Reg} {w0:World} {ds:List Deferred} {T:Foot} {Q:Exit->Act->World->Prop}
  (t:∀j id,j<ops.size->(B9 Z F j).φ.Fi id->T.Fi id) (u:∀j id k,j<ops.size->(B9 Z F j).φ.Fc id k->T.Fc id k) (L:HOn P D ι0 (Z 0).H T w0) (M:GI E D ι0)
  (O:∀j id,j<ops.size->(Z j).rng (Z (j+1)) id->¬D id)
  (A:∀B ι g N φ a w,(∀j,j<ops.size->B j)->DInv P nt ops S Z F D ι0 w0 ds B ι g N φ a w->Q .normal a w):
  ∀(b:Nat) (l:Array Bool) (ι:Nat->Reg) (g:H) (N:Nat->Prop) (φ:Foot) (a:Act) (w:World),l.size=ops.size->gv ops.size l=b->JU ops (λj=>l.getD j false=true)->
   DInv P nt ops S Z F D ι0 w0 ds (λj=>l.getD j false=true) ι g N φ a w->wpAny P .any ops Q b l a w:=by
 have v:∀(l:Array Bool) j,l.size=ops.size->j<ops.size->(l.getD j true=true↔l.getD j false=true):=by
  intro l j m c;have:j<l.size:=by omega
  simp only[Array.getD_eq_getD_getElem?,Array.getElem?_eq_getElem this,Option.getD_some]
 intro b
 induction b with
 |zero=>
  intro l ι g N φ a w m C f r;have hall:=Ss _ C;refine⟨?_,A _ ι g N φ a w (λj c=>(v l j m c).1 (hall j c)) r⟩;rw[List.eq_nil_iff_forall_not_mem];intro i x;obtain⟨h1,n,_⟩:=Kc.1 x;rw[hall i h1] at n;cases n
 |succ b R=>
  intro l ι g N φ a w m C f r;refine⟨λU=>A _ ι g N φ a w (λj c=>(v l j m c).1 (VS hR U j c)) r,λi x=> ?_⟩;obtain⟨h1,n,o,G,I⟩:=Kc.1 x;have y:¬(l.getD i false=true):=λh=>by
   rw[(v l i m h1).2 h] at n;cases n
  refine hR.stepAny hE hC s r G y f I t u L M O ?_;intro ι' V N' φ' W w' p;have q:∀j,(l.getD j false=true\/j=i)=((l.setIfInBounds i true).getD j false=true):=by
   intro j;apply propext;have z:i<l.size:=by omega
   by_cases e:j=i
   ·subst e;simp[Array.getD_eq_getD_getElem?,z]
   ·rw[Array.getD_eq_getD_getElem?,Array.getD_eq_getD_getElem?,Array.getElem?_setIfInBounds_ne (Ne.symm e)];simp[e]
  have d:(λj=>l.getD j false=true\/j=i)=λj=>(l.setIfInBounds i true).getD j false=true:=funext q
  rw[d] at p;refine R _ ι' V N' φ' W w' (by simp[m]) ?_ ?_ p
  ·have:=Xg (l:=l) (i:=i) (by omega) ops.size;rw[if_pos ⟨h1,n⟩] at this;omega
  ·rw[<-d];intro j X e c hd J K;rcases hd with hd|rfl
   ·exact .inl (f j X e c hd J K)
   ·rw[G] at c;cases c;exact .inl (I e J K)
omit hE hC hR
theorem RH {recs:List Rec}:(∀id,(BP recs).Wi id↔∃r∈recs,r.φ.Wi id)/\(∀id k,(BP recs).Wc id k↔∃r∈recs,r.φ.Wc id k)/\
  (∀id,(BP recs).Fi id↔∃r∈recs,r.φ.Fi id)/\∀id k,(BP recs).Fc id k↔∃r∈recs,r.φ.Fc id k:=by
 induction recs with
 |nil=>simp[BP,Foot.nil,Foot.Wi,Foot.Wc,Foot.Fi,Foot.Fc]
 |cons r rs a=>
  obtain⟨h1,b,c,d⟩:=a;refine⟨λid=> ?_,λid k=> ?_,λid=> ?_,λid k=> ?_⟩
  ·rw[BP,Foot.add_Wi,h1];simp
  ·rw[BP,Foot.add_Wc,b];simp
  ·rw[BP,Foot.add_Fi,c];simp
  ·rw[BP,Foot.add_Fc,d];simp
include hE hC in
theorem JV {s s':Tr Value} {σ σ':St} {recs:List Rec} (h:C7 P E call nt ops.toList ops.toList s σ=some (s',σ',recs)) (M:HZ ops ops.toList recs [] ops.toList recs=true):
  σ.next<=σ'.next/\(σ.wf->σ'.wf/\AFr σ σ' (BP recs))/\
  (σ'.Ok->∀(D:Nat->Prop) (ι:Nat->Reg) (w:World) (a:Act) (Q:Exit->Act->World->Prop),σ.wf->GI E D ι->(∀id,σ.rng σ' id->¬D id)->FL nt D ι s a->HOn P D ι σ.H (BP recs) w->
   (∀ι' w' W,FL nt (λi=>D i\/σ.rng σ' i) ι' s' W->W.defers=a.defers->Post P D (σ.rng σ') ι σ.H w (BP recs) ι' σ'.H w'->Q .normal W w')->
   wpAny P .any ops Q ops.size (Array.replicate ops.size false) a w):=by
 obtain⟨S,Z,F,rfl,rfl,e3,A,e5,e6,X⟩:=JT ops.toList ops.toList _ _ _ _ _ h;rw[Array.length_toList] at e3 A X;have e5:recs.length=ops.size:=e5.trans Array.length_toList;have K:∀(i:Nat) o,ops[i]?=some o->D9 P E call nt ops.toList o (S i) (Z i)=some (S (i+1),Z (i+1),F i):=λi o q=>e6 i o (by rw[Array.getElem?_toList];exact q)
 obtain⟨k1,k2⟩:=Mx ops.toList recs [] M (by simp) (by simp) (by simp);have O:(Z 0).wf->Run P E call nt ops S Z F:=λG=>
  { step:=K,back:=λj o Y=>k1 j o (Nat.zero_le _) Y
    pair:=λi j x y hij p hy=>k2 i j x y _ _ (Nat.zero_le _) hij p hy (X i (by have:=VQ hy;omega)) (X j (VQ hy))
    wf0:=G}
 have c:∀r,r∈recs↔∃j,j<ops.size/\r=B9 Z F j:=by
  intro r;rw[List.mem_iff_getElem?];constructor
  ·rintro⟨j,b⟩;have I:j<ops.size:=by
    rcases Nat.lt_or_ge j recs.length with h|h
    ·rw[e5] at h;exact h
    ·rw[List.getElem?_eq_none h] at b;cases b
   rw[X j I] at b;cases b;exact⟨j,I,rfl⟩
  ·rintro⟨j,b,rfl⟩;exact⟨j,X j b⟩
 obtain⟨f1,f2,f3,f4⟩:=RH (recs:=recs);have hafr:(G:(Z 0).wf)->AFr (Z 0) σ' (BP recs):=by
  intro G;have hR:=O G;have le0:=λj=>hR.le hE hC (i:=0) (j:=j)
  refine⟨λid B hwi=> ?_,λid k B hwc=> ?_,λM=>hR.ok hE hC (by rw[A];exact M) ops.size 0 (by omega)⟩
  ·have:∀j,j<=ops.size->(Z j).H.hdr id=(Z 0).H.hdr id:=by
    intro j
    induction j with
    |zero=>intro _;rfl
    |succ j R=>
     intro b;rw[<-R (by omega)];refine(hR.afr hE hC (i:=j) (by omega)).1 id (λl=>B ?_) λp=>hwi ((f1 id).2 ⟨_,(c _).2 ⟨j,by omega,rfl⟩,p⟩)
     have q1:=le0 j (by omega) (by omega);have q2:=hR.le hE hC (i:=j+1) (j:=ops.size) (by omega) (Nat.le_refl _);rw[A] at q2;simp only[St.rng] at l⊢;omega
   rw[<-A];exact this ops.size (Nat.le_refl _)
  ·have:∀j,j<=ops.size->(Z j).H.cell id k=(Z 0).H.cell id k:=by
    intro j
    induction j with
    |zero=>intro _;rfl
    |succ j R=>
     intro b;rw[<-R (by omega)];refine(hR.afr hE hC (i:=j) (by omega)).2 id k (λl=>B ?_) λp=>hwc ((f2 id k).2 ⟨_,(c _).2 ⟨j,by omega,rfl⟩,p⟩)
     have q1:=le0 j (by omega) (by omega);have q2:=hR.le hE hC (i:=j+1) (j:=ops.size) (by omega) (Nat.le_refl _);rw[A] at q2;simp only[St.rng] at l⊢;omega
   rw[<-A];exact this ops.size (Nat.le_refl _)
 have hle:∀j,j<=ops.size->(Z 0).next<=(Z j).next:=by
  intro j
  induction j with
  |zero=>intro _;exact Nat.le_refl _
  |succ j R=>
   intro b;obtain⟨o,Y⟩:=Bt (ops:=ops) (i:=j) (by omega);exact Nat.le_trans (R (by omega)) (CQ hE hC (K j o Y)).1
 refine⟨by rw[<-A];exact hle _ (Nat.le_refl _),λG=>⟨?_,hafr G⟩,?_⟩
 ·rw[<-A];exact(O G).wf hE hC (Nat.le_refl _)
 ·intro hokf D ι w a Q G hG hd hs Y hQ;have hR:=O G;have L:∀j id,j<ops.size->(Z j).rng (Z (j+1)) id->(Z 0).rng σ' id:=by
   intro j id b l;have q1:=hR.le hE hC (i:=0) (j:=j) (by omega) (by omega);have q2:=hR.le hE hC (i:=j+1) (j:=ops.size) (by omega) (Nat.le_refl _);rw[A] at q2;simp only[St.rng] at l⊢;omega
  have U:∀id,(Z 0).rng σ' id->∃j,j<ops.size/\(Z j).rng (Z (j+1)) id:=by
   intro id l;have:∀n,n<=ops.size->(Z 0).next<=id->id<(Z n).next->∃j,j<n/\(Z j).rng (Z (j+1)) id:=by
    intro n
    induction n with
    |zero=>intro _ h1 J;omega
    |succ n R=>
     intro B h1 J;by_cases I:id<(Z n).next
     ·obtain⟨j,b,l⟩:=R (by omega) h1 I;exact⟨j,by omega,l⟩
     ·exact⟨n,by omega,by simp only[St.rng];omega⟩
   exact this ops.size (Nat.le_refl _) l.1 (by rw[A];exact l.2)
  refine hR.any hE hC (by rw[A];exact hokf) (ds:=a.defers) (ι0:=ι) (D:=D) (w0:=w) (T:=BP recs) (λj id b hf=>(f3 id).2 ⟨_,(c _).2 ⟨j,b,rfl⟩,hf⟩) (λj id k b hf=>(f4 id k).2 ⟨_,(c _).2 ⟨j,b,rfl⟩,hf⟩)
   Y hG (λj id b l=>hd id (L j id b l)) ?_ ops.size _ ι (Z 0).H (λ_=>False) .nil a w (by simp) (Su _ _ (Nat.le_refl _)) ?_ ?_
  ·intro dn ι' g N φ W w' hall q;have hN:N=(Z 0).rng σ':=by
    funext id;apply propext;rw[q.hN];constructor
    ·rintro⟨j,b,l⟩;exact L j id (q.lt j b) l
    ·intro l;obtain⟨j,b,hr'⟩:=U id l;exact⟨j,hall j b,hr'⟩
   subst hN;have u:∀f:Nat->Prop,∀m,Ka f (· <ops.size) m->Ka f dn m:=λf m h=>
    Fb h λj _=>⟨λb=>q.lt j b,λb=>hall j b⟩
   have hg1:∀id,g.hdr id=σ'.H.hdr id:=by
    intro id;obtain⟨m,h1,J⟩:=Dq (tH Z F id) (λj=>(Z j).H.hdr id) ops.size λj b B=>
     (hR.afr hE hC b).1 id (λx=>B (.inr x)) λx=>B (.inl x)
    rw[q.vh id m (u _ m h1),<-J,A]
   have hg2:∀id k,g.cell id k=σ'.H.cell id k:=by
    intro id k;obtain⟨m,h1,J⟩:=Dq (tC Z F id k) (λj=>(Z j).H.cell id k) ops.size λj b B=>
     (hR.afr hE hC b).2 id k (λx=>B (.inr x)) λx=>B (.inl x)
    rw[q.vc id k m (u _ m h1),<-J,A]
   refine hQ ι' w' W ⟨q.sz,λt v V=> ?_⟩ q.df ?_
   ·obtain⟨m,h1,J⟩:=Dq (tS ops t) (λj=>(S j).get t) ops.size λj b B=>by
     obtain⟨x,p⟩:=Bt b;obtain⟨_,_,v,hp,_⟩:=CQ hE hC (hR.step j x p);cases hd:x.dst with
     |none=>simp only[hp.1 hd]
     |some d=>
      show(S (j+1)).get t=(S j).get t;rw[(hp.2 d hd).2 t,if_neg];intro e;exact B ⟨x,p,by rw[hd,e]⟩
    have J:(S ops.size).get t=(S m).get t:=J;rw[<-e3,J] at V;exact q.vs t m (u _ m h1) v V
   ·refine(q.post.same_foot (λid=> ?_) (λid k=> ?_) λid hf=>by
     obtain⟨j,b,p⟩:=q.fi id hf;exact(f3 id).2 ⟨_,(c _).2 ⟨j,q.lt j b,rfl⟩,p⟩).same_heap (λid=>(hg1 id).symm) λid k=>(hg2 id k).symm
    ·rw[f1,q.wi];constructor
     ·rintro⟨r,l,p⟩;obtain⟨j,b,rfl⟩:=(c r).1 l;exact⟨j,hall j b,p⟩
     ·rintro⟨j,b,p⟩;exact⟨_,(c _).2 ⟨j,q.lt j b,rfl⟩,p⟩
    ·rw[f2,q.wc];constructor
     ·rintro⟨r,l,p⟩;obtain⟨j,b,rfl⟩:=(c r).1 l;exact⟨j,hall j b,p⟩
     ·rintro⟨j,b,p⟩;exact⟨_,(c _).2 ⟨j,q.lt j b,rfl⟩,p⟩
  ·intro j o e _ hd;exact absurd hd (Sv j)
  ·have C:∀j,¬((Array.replicate ops.size false).getD j false=true):=Sv;have z:∀(f:Nat->Prop) m,Ka f (λj=>(Array.replicate ops.size false).getD j false=true) m->m=0:=by
    intro f m h;rcases h with⟨e,_⟩|⟨j,_,b,_⟩
    ·exact e
    ·exact absurd b (C j)
   exact {
    lt:=λj b=>absurd b (C j)
    hN:=λid=>⟨λh=>h.elim,λ⟨j,b,_⟩=>absurd b (C j)⟩
    post:=Post.refl _ _ _ _ _ _ λ_=>not_false
    wi:=λid=>⟨λh=>by simp[Foot.Wi,Foot.nil] at h,λ⟨j,b,_⟩=>absurd b (C j)⟩
    wc:=λid k=>⟨λh=>by simp[Foot.Wc,Foot.nil] at h,λ⟨j,b,_⟩=>absurd b (C j)⟩
    fi:=λid h=>by simp[Foot.Fi,Foot.nil] at h
    fc:=λid k h=>by simp[Foot.Fc,Foot.nil] at h
    vh:=λid m hm=>by rw[z _ m hm]
    vc:=λid k m hm=>by rw[z _ m hm]
    vs:=λt m hm v V=>by
     rw[z _ m hm] at V;exact⟨(hs.2 t v V).1,(hs.2 t v V).2.mono (λ_=>.inl) λ_ _=>rfl⟩
    sz:=hs.1
    df:=rfl}
