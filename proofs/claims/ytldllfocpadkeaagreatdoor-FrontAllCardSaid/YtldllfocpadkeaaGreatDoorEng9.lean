/-
  The engine, part 9: an abstract evaluator over the model's code, proved sound. No condition.
-/
import Derived.Test.YtldllfocpadkeaaGreatDoorEng8
section
noncomputable section
noncomputable section
namespace Go.Eng
open Go
def glHeap:List (Nat×List Value)->Tr AO
 |[]=>.lf
 |p::ps=>(glHeap ps).set p.1 (some (.row p.2 0 true))
theorem glHeap_get:∀{gl:List (Nat×List Value)} {id:Nat} {o:AO},(glHeap gl).get id=some o->∃p,p∈gl/\p.1=id/\o=.row p.2 0 true
 |[],_,_,h=>by rw[glHeap,Tr.get_lf] at h;cases h
 |p::ps,id,o,h=>by
  rw[glHeap,Tr.set_get] at h;by_cases e:id=p.1
  ·rw[if_pos e] at h;cases h;exact⟨p,by simp,e.symm,rfl⟩
  ·rw[if_neg e] at h;obtain⟨q,h1,h2,h3⟩:=glHeap_get h;exact⟨q,by simp[h1],h2,h3⟩
def glSt (E:Env):St:=⟨glHeap E.gl,E.G,[],[]⟩
def glReg (w:World) (id:Nat):Reg:=rg id 0 (match w.heap[id]? with|some (.cells c _ _)=>c.size|_=>0) 0
theorem gl_room {gl:List (Nat×List Value)} {w:World} (hw:GlW gl w) {g:Nat} (p:Nat×List Value) (hp:p∈gl) (e:p.1=g):(glReg w g).room=p.2.length:=by
 obtain⟨c,t,fr,h1,h2⟩:=hw.2 p hp;subst e;simp only[glReg,h1,rg];exact h2
theorem gl_row {w:World} {p:Nat×List Value} (h:∀(i:Nat) c,p.2[i]?=some c->∃u,w.cell? ⟨p.1,i,none⟩=some u/\glR c u) (h0:p.2≠[]):∃c e fr,w.heap[p.1]?=some (.cells c e fr)/\p.2.length<=c.size:=by
 obtain⟨v,hv⟩:∃v,p.2[p.2.length-1]?=some v:=by
  have:p.2.length-1<p.2.length:=by
   have:=List.length_pos_iff.2 h0;omega
  exact⟨_,List.getElem?_eq_getElem this⟩
 obtain⟨u,hc, -⟩:=h _ v hv;simp only[World.cell?] at hc
 split at hc
 ·rename_i c e fr hh;refine⟨c,e,fr,hh,?_⟩;simp only[Option.isSome_none,Bool.false_eq_true,if_false] at hc;rcases Nat.lt_or_ge (p.2.length-1) c.size with h|h
  ·omega
  ·rw[Array.getElem?_eq_none h] at hc;cases hc
 ·cases hc
theorem run_of {P:Program} {E:Env} (hE:E.OK P) (hne:∀p,p∈E.gl->p.2≠[]) {n:Nat} {f:FuncId} {args:List Value} {v:Value} {σ':St} {φ:Foot} (hr:kRun P E n f args (glSt E)=some (v,σ',φ)) (hok:σ'.Ok) (hv:plainN 8 v=true) (ha:args.all (plainN 8)=true)
  (w:World) (hw:GlW E.gl w):Calls P f args.toArray w λe w'=>e=.returned v/\Same w w':=by
 rw[kRun_eq] at hr;obtain⟨-, -,h3⟩:=(evCall_sound hE n).ok _ _ _ _ _ _ hr;have hwf:(glSt E).wf:=by
  intro id hid;cases hg:(glHeap E.gl).get id with
  |none=>exact hg
  |some o=>
   obtain⟨p,h1,h2,_⟩:=glHeap_get hg;have:=(hE.gl p h1).1;have hid:E.G<=id:=hid;omega
 have hro:∀id x,(glSt E).H.hdr id=some x->∃p,p∈E.gl/\p.1=id/\(glSt E).heap.get id=some (.row p.2 0 true)/\x=.row p.2.length 0 true:=by
  intro id x hx;cases hg:(glHeap E.gl).get id with
  |none=>
   have:(glSt E).H.hdr id=none:=by simp[St.H,glSt,hg]
   rw[this] at hx;cases hx
  |some o=>
   obtain⟨p,h1,h2,rfl⟩:=glHeap_get hg;have:(glSt E).H.hdr id=some (.row p.2.length 0 true):=St.hdr_of (σ:=glSt E) hg;rw[this] at hx;cases hx;exact⟨p,h1,h2,hg,rfl⟩
 have hnw:∀id,¬Wr (glSt E).H id:=by
  rintro id ⟨x,hx,hxw⟩;obtain⟨p,_,_,_,rfl⟩:=hro id x hx;cases hxw
 have key:=h3 hok (λid=>id<E.G) (glReg w) w args.toArray hwf (λg hg=>⟨hg,rfl,rfl,gl_room hw⟩) (λid hid h=>by simp only[St.rng,glSt] at hid;omega)
  ⟨rfl,λi a b h1 h2=>by
   rw[h1] at h2;cases h2;exact plain_refl 8 a (List.all_eq_true.1 ha a (List.mem_of_getElem? (by simpa using h1)))⟩
  ⟨λid x _ hx=>by
   obtain⟨p,h1,rfl,h2,rfl⟩:=hro id x hx;obtain⟨c,e,fr,g1,g2⟩:=gl_row (hw.1 p h1) (hne p h1);refine⟨c,e,fr,g1,?_,?_,⟨rfl,rg_fz _ _ _ _⟩,λh=>by cases h⟩
   ·simp[glReg,g1]
   ·simpa[glReg,g1] using g2,
  λid k u _ hl hu=>by
   obtain⟨x,hx⟩:=hl;obtain⟨p,h1,rfl,h2,rfl⟩:=hro id x hx;rw[St.cell_of h2] at hu;obtain⟨u',g1,g2⟩:=hw.1 p h1 k u hu;refine⟨rfl,u',?_,g2.vr⟩;simpa[glReg] using g1,
  λi j _ _ _ _ hij b hi=>⟨λhj=>hij (hi.2.trans hj.2.symm),rg_fz _ _ _ _ b⟩⟩
 refine key.mono λe w' ⟨v',ι',he,hvr,hp⟩=> ?_
 refine⟨by rw[he,plain_eq 8 v v' hv hvr],hp.size,hp.os,hp.out,λb hb=> ?_⟩;exact(hp.cfr b hb λid _ hid=>absurd hid (hnw id)).eq λk ⟨id,_,_,hid,_⟩=>hnw id hid
def kTrue (P:Program) (E:Env) (n:Nat) (f:FuncId) (args:List Value):Bool:=
 match kRun P E n f args (glSt E) with
 |some (.bool true,σ',_)=>match σ'.pc with
  |[]=>true
  |_=>false
 |_=>false
theorem true_of {P:Program} {E:Env} (hE:E.OK P) (hne:∀p,p∈E.gl->p.2≠[]) {n:Nat} {f:FuncId} {args:List Value} (hr:kTrue P E n f args=true) (ha:args.all (plainN 8)=true)
  (w:World) (hw:GlW E.gl w):Calls P f args.toArray w λe w'=>e=.returned (.bool true)/\Same w w':=by
 unfold kTrue at hr
 split at hr
 ·rename_i σ' φ h
  split at hr
  ·rename_i hpc;exact run_of hE hne h (by unfold St.Ok;rw[hpc];trivial) rfl ha w hw
  ·cases hr
 ·cases hr
end Go.Eng
end
end
end
section
noncomputable section
noncomputable section
namespace Go.Eng
open Go
inductive Kt where
 |seq (c:Code)
 |block (id:Nat)
 |loop (b:Code)
 |scope (b:Code)
def aft (P:Program):List Kt->(Exit->Act->World->Prop)->Exit->Act->World->Prop
 |[],Q=>Q
 | .seq d::ks,Q=>Exit.then (d.wp P (aft P ks Q)) (aft P ks Q)
 | .block id::ks,Q=>Exit.inBlock id (aft P ks Q)
 | .loop b::ks,Q=>Exit.then (wpL P b (aft P ks Q)) (aft P ks Q)
 | .scope b::ks,Q=>Exit.inScope P b (aft P ks Q)
inductive Pl where
 |run (c:Code) (ks:List Kt)
 |head (b:Code) (ks:List Kt)
 |out (e:Exit) (ks:List Kt)
def Pl.wp (P:Program) (Q:Exit->Act->World->Prop):Pl->Act->World->Prop
 | .run c ks=>c.wp P (aft P ks Q)
 | .head b ks=>wpL P b (aft P ks Q)
 | .out e ks=>aft P ks Q e
def St.pop (σ:St) (ds:List Nat):St:=⟨σ.heap,σ.next,σ.pc,ds⟩
structure HAll (P:Program) (D:Nat->Prop) (ι:Nat->Reg) (h:H) (w:World):Prop where
 hd:∀id x,h.hdr id=some x->HdrOK P ι id w x
 ce:∀id k v,Lv h id->h.cell id k=some v->CellOK D ι id w k v
 inj:∀i j,Wr h i->Lv h j->i≠j->∀b,(ι i).Own b->¬(ι j).Own b/\¬(ι j).Fz b
theorem HAll.on {P:Program} {D:Nat->Prop} {ι:Nat->Reg} {h:H} {w:World} (a:HAll P D ι h w) (φ:Foot):HOn P D ι h φ w:=
 ⟨λid x _=>a.hd id x,λid k v _=>a.ce id k v,λi j _ _=>a.inj i j⟩
theorem Post.hall {P:Program} {D N:Nat->Prop} {ι ι1:Nat->Reg} {h h1:H} {w w1:World} {φ:Foot} (a:HAll P D ι h w) (p:Post P D N ι h w φ ι1 h1 w1) (hD:∀id,N id->¬D id):HAll P (λi=>D i\/N i) ι1 h1 w1 where
 hd:=λid x hx=>(p.hon (ψ:=⟨[],[id],[],[]⟩) (a.on _) hD).hd id x (.inr (.inl (by simp))) hx
 ce:=λid k v hl hx=>(p.hon (ψ:=⟨[],[id],[],[]⟩) (a.on _) hD).ce id k v (.inr (.inl (by simp))) hl hx
 inj:=λi j li lj hij=>(p.hon (ψ:=⟨[],[i,j],[],[]⟩) (a.on _) hD).inj i j (.inr (.inl (by simp))) (.inr (.inl (by simp))) li lj hij
def Asrt (P:Program) (E:Env) (nt:Nat) (pin:List (Nat×Reg)) (w0:World) (own0 z0:Nat->Prop) (s:Tr Value) (σ:St) (a:Act) (w:World):Prop:=
 ∃(D:Nat->Prop) (ι:Nat->Reg),σ.wf/\GI E D ι/\(∀id,D id->id<σ.next)/\SRel nt D ι s a/\HAll P D ι σ.H w/\a.defers=[]/\
  w0.heap.size<=w.heap.size/\w.os=w0.os/\w.output=w0.output/\(∀b,b<w0.heap.size->¬own0 b->w.heap[b]?=w0.heap[b]?)/\
  (∀id,Wr σ.H id->∀b,(ι id).Own b->w0.heap.size<=b\/own0 b)/\(∀id,Lv σ.H id->∀b,(ι id).Fz b->w0.heap.size<=b\/own0 b\/z0 b)/\∀p,p∈pin->D p.1/\ι p.1=p.2
section
variable {P:Program} {E:Env} {nt:Nat} {pin:List (Nat×Reg)} {w0:World} {own0 z0:Nat->Prop} {s s':Tr Value} {σ σ':St} {a a':Act} {w w':World} {φ:Foot}
theorem Asrt.step {D:Nat->Prop} {ι ι':Nat->Reg} (_hwf:σ.wf) (hG:GI E D ι) (hD:∀id,D id->id<σ.next) (hall:HAll P D ι σ.H w) (hdf:a.defers=[])
  (h1:w0.heap.size<=w.heap.size) (h2:w.os=w0.os) (h3:w.output=w0.output) (h4:∀b,b<w0.heap.size->¬own0 b->w.heap[b]?=w0.heap[b]?)
  (h5:∀id,Wr σ.H id->∀b,(ι id).Own b->w0.heap.size<=b\/own0 b) (h6:∀id,Lv σ.H id->∀b,(ι id).Fz b->w0.heap.size<=b\/own0 b\/z0 b) (h7:∀p,p∈pin->D p.1/\ι p.1=p.2)
  (hle:σ.next<=σ'.next) (hwf':σ'.wf) (hs':SRel nt (λi=>D i\/σ.rng σ' i) ι' s' a') (hdf':a'.defers=a.defers) (p:Post P D (σ.rng σ') ι σ.H w φ ι' σ'.H w'):Asrt P E nt pin w0 own0 z0 s' σ' a' w':=by
 have hd:∀id,σ.rng σ' id->¬D id:=λid hr hx=>by have:=hD id hx;simp only[St.rng] at hr;omega
 refine⟨λi=>D i\/σ.rng σ' i,ι',hwf',hG.next hd p.io,λid hx=> ?_,hs',p.hall hall hd,hdf'.trans hdf,Nat.le_trans h1 p.size,p.os.trans h2,p.out.trans h3,λb hb hno=> ?_,λid hw b hb=> ?_,λid hl b hb=> ?_,λq hq=> ?_⟩
 ·rcases hx with hx|hx
  ·have:=hD id hx;omega
  ·exact hx.2
 ·rw[<-h4 b hb hno];exact(p.cfr b (Nat.lt_of_lt_of_le hb h1) λid _ wr ho=>(h5 id wr b ho).elim (λh=>by omega) hno).eq λk ⟨id,_,_,wr,ho,_⟩=>(h5 id wr b ho).elim (λh=>by omega) hno
 ·by_cases hn:σ.rng σ' id
  ·rcases p.fresh id hn hw.lv b hb with⟨h,_⟩|⟨k,_,_,wr,_,ho⟩
   ·exact .inl (by omega)
   ·exact h5 k wr b ho
  ·rw[p.io id hn] at hb;exact h5 id (p.wrm id hn hw) b hb
 ·by_cases hn:σ.rng σ' id
  ·rcases p.freshF id hn hl b hb with⟨h,_⟩|⟨k,_,_,wr,_,ho⟩|⟨k,_,_,lk,hf⟩
   ·exact .inl (by omega)
   ·exact(h5 k wr b ho).imp_right .inl
   ·exact h6 k lk b hf
  ·rw[p.io id hn] at hb;exact h6 id (p.lv hn hl) b hb
 ·obtain⟨k1,k2⟩:=h7 q hq;exact⟨.inl k1,by rw[p.io q.1 λhr=>hd q.1 hr k1];exact k2⟩
theorem Asrt.pop {ds:List Nat} (h:Asrt P E nt pin w0 own0 z0 s σ a w):Asrt P E nt pin w0 own0 z0 s (σ.pop ds) a w:=h
end
def At (P:Program) (E:Env) (nt:Nat) (pin:List (Nat×Reg)) (Q:World->Exit->Act->World->Prop) (own0 z0:World->Nat->Prop) (p:Pl) (s:Tr Value) (σ:St):Prop:=
 ∀w0 a w,Asrt P E nt pin w0 (own0 w0) (z0 w0) s σ a w->p.wp P (Q w0) a w
