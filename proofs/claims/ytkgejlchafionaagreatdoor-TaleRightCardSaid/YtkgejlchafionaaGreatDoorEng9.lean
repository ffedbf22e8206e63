/-
  The engine, part 9: an abstract evaluator over the model's code, proved sound. No condition.
-/
import Derived.Test.YtkgejlchafionaaGreatDoorEng8
open Bool renaming true->AD
open Go renaming Program->Ao,Value->AJ,World->AN
open Option renaming some->AC
open _root_ renaming List->AE,Nat->AB
section
noncomputable section
noncomputable section
namespace Go.Eng
open Go
def IC:AE (AB×AE AJ)->Tr AO
 |[]=>.lf
 |p::a=>(IC a).set p.1 (AC (.row p.2 0 AD))
theorem Fl:∀{gl:AE (AB×AE AJ)} {id:AB} {o:AO},(IC gl).get id=AC o->∃p,p∈gl/\p.1=id/\o=.row p.2 0 AD
 |[],_,_,h=>by rw[IC,Tr.get_lf]at h;cases h
 |p::d,id,o,h=>by
  rw[IC,Tr.set_get]at h;by_cases e:id=p.1
  ·rw[if_pos e]at h;cases h;exact⟨p,by simp,e.symm,rfl⟩
  ·rw[if_neg e]at h;obtain⟨q,a,b,c⟩:=Fl h;exact⟨q,by simp[a],b,c⟩
def Bj(E:Env):St:=⟨IC E.gl,E.G,[],[]⟩
def EX(w:AN)(id:AB):Reg:=rg id 0 (match w.heap[id]? with|some (.cells c _ _)=>c.size|_=>0) 0
theorem Rp{gl:AE (AB×AE AJ)}{w:AN}(a:NP gl w){g:AB}(p:AB×AE AJ)(b:p∈gl)(e:p.1=g):(EX w g).room=p.2.length:=by
 obtain⟨c,t,fr,d,f⟩:=a.2 p b;subst e;simp only[EX,d,rg];exact f
theorem AN6{w:AN}{p:AB×AE AJ}(h:∀(i:AB) c,p.2[i]?=AC c->∃u,w.cell? ⟨p.1,i,none⟩=AC u/\lU c u)(b:p.2≠[]):∃c e fr,w.heap[p.1]?=AC (.cells c e fr)/\p.2.length<=c.size:=by
 obtain⟨v,d⟩:∃v,p.2[p.2.length-1]?=AC v:=by
  have:p.2.length-1<p.2.length:=by
   have:=List.length_pos_iff.2 b;omega
  exact⟨_,List.getElem?_eq_getElem this⟩
 obtain⟨u,a, -⟩:=h _ v d;simp only[World.cell?]at a
 split at a
 ·rename_i c e fr f;refine⟨c,e,fr,f,?_⟩;simp only[Option.isSome_none,Bool.false_eq_true,if_false]at a;rcases Nat.lt_or_ge (p.2.length-1) c.size with h|h
  ·omega
  ·rw[Array.getElem?_eq_none h]at a;cases a
 ·cases a
theorem ABK{P:Ao}{E:Env}(J:E.OK P)(y:∀p,p∈E.gl->p.2≠[]){n:AB}{f:FuncId}{args:AE AJ}{v:AJ}{σ':St}{φ:Foot}(K:vB P E n f args (Bj E)=AC (v,σ',φ))(z:σ'.Ok)(M:Au 8 v=AD)(N:args.all (Au 8)=AD)(w:AN)(A:NP E.gl w):Calls P f args.toArray w λe w'=>e=.returned v/\DU w w':=by
 rw[vC]at K;obtain⟨-, -,O⟩:=(Nz J n).ok _ _ _ _ _ _ K;have B:(Bj E).wf:=by
  intro id hid;cases m:(IC E.gl).get id with
  |none=>exact m
  |some o=>
   obtain⟨p,d,q,_⟩:=Fl m;have:=(J.gl p d).1;have hid:E.G<=id:=hid;omega
 have r:∀id x,(Bj E).H.hdr id=AC x->∃p,p∈E.gl/\p.1=id/\(Bj E).heap.get id=AC (.row p.2 0 AD)/\x=.row p.2.length 0 true:=by
  intro id x l;cases m:(IC E.gl).get id with
  |none=>
   have:(Bj E).H.hdr id=none:=by simp[St.H,Bj,m]
   rw[this]at l;cases l
  |some o=>
   obtain⟨p,d,q,rfl⟩:=Fl m;have:(Bj E).H.hdr id=AC (.row p.2.length 0 AD):=St.hdr_of (σ:=Bj E) m;rw[this]at l;cases l;exact⟨p,d,q,m,rfl⟩
 have s:∀id,¬Wr (Bj E).H id:=by
  rintro id ⟨x,l,C⟩;obtain⟨p,_,_,_,rfl⟩:=r id x l;cases C
 have key:=O z (λid=>id<E.G) (EX w) w args.toArray B (λg m=>⟨m,rfl,rfl,Rp A⟩) (λid hid h=>by simp only[St.rng,Bj]at hid;omega)
  ⟨rfl,λi a b d q=>by
   rw[d]at q;cases q;exact Bk 8 a (List.all_eq_true.1 N a (List.mem_of_getElem? (by simpa using d)))⟩
  ⟨λid x _ l=>by
   obtain⟨p,d,rfl,q,rfl⟩:=r id x l;obtain⟨c,e,fr,g1,D⟩:=AN6 (A.1 p d) (y p d);refine⟨c,e,fr,g1,?_,?_,⟨rfl,Kl _ _ _ _⟩,λh=>by cases h⟩
   ·simp[EX,g1]
   ·simpa[EX,g1]using D,
  λid k u _ Q L=>by
   obtain⟨x,l⟩:=Q;obtain⟨p,d,rfl,q,rfl⟩:=r id x l;rw[St.cell_of q]at L;obtain⟨R,g1,D⟩:=A.1 p d k u L;refine⟨rfl,R,?_,D.vr⟩;simpa[EX]using g1,
  λi j _ _ _ _ F b S=>⟨λT=>F (S.2.trans T.2.symm),Kl _ _ _ _ b⟩⟩
 refine key.mono λe w' ⟨v',ι',U,I,t⟩=> ?_
 refine⟨by rw[U,GT 8 v v' M I],t.size,t.os,t.out,λb V=> ?_⟩;exact(t.cfr b V λid _ hid=>absurd hid (s id)).eq λk ⟨id,_,_,hid,_⟩=>s id hid
def QS(P:Ao)(E:Env)(n:AB)(f:FuncId)(args:AE AJ):Bool:=
 match vB P E n f args (Bj E)with
 |some (.bool AD,σ',_)=>match σ'.pc with
  |[]=>AD
  |_=>false
 |_=>false
theorem MQ{P:Ao}{E:Env}(d:E.OK P)(b:∀p,p∈E.gl->p.2≠[]){n:AB}{f:FuncId}{args:AE AJ}(a:QS P E n f args=AD)(g:args.all (Au 8)=AD)(w:AN)(i:NP E.gl w):Calls P f args.toArray w λe w'=>e=.returned (.bool AD)/\DU w w':=by
 unfold QS at a
 split at a
 ·rename_i σ' φ h
  split at a
  ·rename_i c;exact ABK d b h (by unfold St.Ok;rw[c];trivial) rfl g w i
  ·cases a
 ·cases a
end Go.Eng
end
end
end
section
noncomputable section
noncomputable section
namespace Go.Eng
open Go
inductive Kt where
 |seq (c:Code)
 |block (id:AB)
 |loop (b:Code)
 |scope (b:Code)
def me(P:Ao):AE Kt->(Exit->Act->AN->Prop)->Exit->Act->AN->Prop
 |[],Q=>Q
 | .seq d::a,Q=>Exit.then (d.wp P (me P a Q)) (me P a Q)
 | .block id::a,Q=>Exit.inBlock id (me P a Q)
 | .loop b::a,Q=>Exit.then (wpL P b (me P a Q)) (me P a Q)
 | .scope b::a,Q=>Exit.inScope P b (me P a Q)
inductive Pl where
 |run (c:Code) (ks:AE Kt)
 |head (b:Code) (ks:AE Kt)
 |out (e:Exit) (ks:AE Kt)
def Pl.wp(P:Ao)(Q:Exit->Act->AN->Prop):Pl->Act->AN->Prop
 | .run c a=>c.wp P (me P a Q)
 | .head b a=>wpL P b (me P a Q)
 | .out e a=>me P a Q e
def St.pop(σ:St)(ds:AE AB):St:=⟨σ.heap,σ.next,σ.pc,ds⟩
structure HAll(P:Ao)(D:AB->Prop)(ι:AB->Reg)(h:H)(w:AN):Prop where
 hd:∀id x,h.hdr id=AC x->BI P ι id w x
 ce:∀id k v,Lv h id->h.cell id k=AC v->Cl D ι id w k v
 inj:∀i j,Wr h i->Lv h j->i≠j->∀b,(ι i).Own b->¬(ι j).Own b/\¬(ι j).Fz b
theorem HAll.on{P:Ao}{D:AB->Prop}{ι:AB->Reg}{h:H}{w:AN}(a:HAll P D ι h w)(φ:Foot):HOn P D ι h φ w:=
 ⟨λid x _=>a.hd id x,λid k v _=>a.ce id k v,λi j _ _=>a.inj i j⟩
theorem Post.hall{P:Ao}{D N:AB->Prop}{ι ι1:AB->Reg}{h e:H}{w f:AN}{φ:Foot}(a:HAll P D ι h w)(p:Post P D N ι h w φ ι1 e f)(b:∀id,N id->¬D id):HAll P (λi=>D i\/N i) ι1 e f where
 hd:=λid x c=>(p.hon (ψ:=⟨[],[id],[],[]⟩) (a.on _) b).hd id x (.inr (.inl (by simp))) c
 ce:=λid k v g c=>(p.hon (ψ:=⟨[],[id],[],[]⟩) (a.on _) b).ce id k v (.inr (.inl (by simp))) g c
 inj:=λi j l m d=>(p.hon (ψ:=⟨[],[i,j],[],[]⟩) (a.on _) b).inj i j (.inr (.inl (by simp))) (.inr (.inl (by simp))) l m d
def Hl(P:Ao)(E:Env)(nt:AB)(pin:AE (AB×Reg))(w0:AN)(own0 z0:AB->Prop)(s:Tr AJ)(σ:St)(a:Act)(w:AN):Prop:=
 ∃(D:AB->Prop) (ι:AB->Reg),σ.wf/\GI E D ι/\(∀id,D id->id<σ.next)/\JD nt D ι s a/\HAll P D ι σ.H w/\a.defers=[]/\
  w0.heap.size<=w.heap.size/\w.os=w0.os/\w.output=w0.output/\(∀b,b<w0.heap.size->¬own0 b->w.heap[b]?=w0.heap[b]?)/\
  (∀id,Wr σ.H id->∀b,(ι id).Own b->w0.heap.size<=b\/own0 b)/\(∀id,Lv σ.H id->∀b,(ι id).Fz b->w0.heap.size<=b\/own0 b\/z0 b)/\∀p,p∈pin->D p.1/\ι p.1=p.2
section
variable {P:Ao} {E:Env} {nt:AB} {pin:AE (AB×Reg)} {w0:AN} {own0 z0:AB->Prop} {s s':Tr AJ} {σ σ':St} {a a':Act} {w w':AN} {φ:Foot}
theorem Hl.step{D:AB->Prop}{ι ι':AB->Reg}(_hwf:σ.wf)(y:GI E D ι)(r:∀id,D id->id<σ.next)(hall:HAll P D ι σ.H w)(m:a.defers=[])(s:w0.heap.size<=w.heap.size)(z:w.os=w0.os)(A:w.output=w0.output)(B:∀b,b<w0.heap.size->¬own0 b->w.heap[b]?=w0.heap[b]?)(g:∀id,Wr σ.H id->∀b,(ι id).Own b->w0.heap.size<=b\/own0 b)(t:∀id,Lv σ.H id->∀b,(ι id).Fz b->w0.heap.size<=b\/own0 b\/z0 b)(C:∀p,p∈pin->D p.1/\ι p.1=p.2)(F:σ.next<=σ'.next)(j:σ'.wf)(n:JD nt (λi=>D i\/σ.rng σ' i) ι' s' a')(l:a'.defers=a.defers)(p:Post P D (σ.rng σ') ι σ.H w φ ι' σ'.H w'):Hl P E nt pin w0 own0 z0 s' σ' a' w':=by
 have hd:∀id,σ.rng σ' id->¬D id:=λid o hx=>by have:=r id hx;simp only[St.rng]at o;omega
 refine⟨λi=>D i\/σ.rng σ' i,ι',j,y.next hd p.io,λid hx=> ?_,n,p.hall hall hd,l.trans m,Nat.le_trans s p.size,p.os.trans z,p.out.trans A,λb c d=> ?_,λid u b c=> ?_,λid v b c=> ?_,λq G=> ?_⟩
 ·rcases hx with hx|hx
  ·have:=r id hx;omega
  ·exact hx.2
 ·rw[<-B b c d];exact(p.cfr b (Nat.lt_of_lt_of_le c s) λid _ wr e=>(g id wr b e).elim (λh=>by omega) d).eq λk ⟨id,_,_,wr,e,_⟩=>(g id wr b e).elim (λh=>by omega) d
 ·by_cases f:σ.rng σ' id
  ·rcases p.fresh id f u.lv b c with⟨h,_⟩|⟨k,_,_,wr,_,e⟩
   ·exact .inl (by omega)
   ·exact g k wr b e
  ·rw[p.io id f]at c;exact g id (p.wrm id f u) b c
 ·by_cases f:σ.rng σ' id
  ·rcases p.freshF id f v b c with⟨h,_⟩|⟨k,_,_,wr,_,e⟩|⟨k,_,_,I,J⟩
   ·exact .inl (by omega)
   ·exact(g k wr b e).imp_right .inl
   ·exact t k I b J
  ·rw[p.io id f]at c;exact t id (p.lv f v) b c
 ·obtain⟨x,K⟩:=C q G;exact⟨.inl x,by rw[p.io q.1 λo=>hd q.1 o x];exact K⟩
theorem Hl.pop{ds:AE AB}(h:Hl P E nt pin w0 own0 z0 s σ a w):Hl P E nt pin w0 own0 z0 s (σ.pop ds) a w:=h
end
def At(P:Ao)(E:Env)(nt:AB)(pin:AE (AB×Reg))(Q:AN->Exit->Act->AN->Prop)(own0 z0:AN->AB->Prop)(p:Pl)(s:Tr AJ)(σ:St):Prop:=
 ∀w0 a w,Hl P E nt pin w0 (own0 w0) (z0 w0) s σ a w->p.wp P (Q w0) a w
