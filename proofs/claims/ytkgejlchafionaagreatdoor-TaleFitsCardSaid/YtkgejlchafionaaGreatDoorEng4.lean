/-
  The engine, part 4: an abstract evaluator over the model's code, proved sound. No condition.
-/
import Derived.Test.YtkgejlchafionaaGreatDoorEng3
import Derived.Laws.StructEq
section
noncomputable section
noncomputable section
namespace Go.Eng
open Go
inductive DC where
 |v (x:Value)
 |s (t:Ty) (xs:List t.Den)
 |e (b:Bool)
 |k (v:Value)
 |j
def X8:(t:Ty)->t.Den->List DC
 | .int k,n=>[.v (sy (.int k n))]
 | .byte,b=>[.v (sy (.int .u8 b.toNat))]
 | .bool,b=>[.v (sy (.bool b))]
 | .str,s=>[.v (sy (.string (bs s)))]
 | .unit,_=>[]
 | .pair a b,x=>X8 a x.1++X8 b x.2
 | .slice a,c=>[.s a c]
 | .err,b=>[.e b]
 | .fn f,_=>[.k (.func (.func f) #[] #[])]
 | .fv,f=>[.k (.func (.func f) #[] #[])]
 | .f64,n=>[.v (sy (.float .f64 n))]
 | .cx,x=>[.v (sy (.complex .f64 x.1 x.2))]
 | .ref _,_=>[.j]
 | .clo _ _,_=>[.j]
def Ty.dflt:(t:Ty)->t.Den
 | .int _=>(0:Int)
 | .byte=>(0:UInt8)
 | .bool=>false
 | .str=>([]:L8)
 | .unit=>()
 | .pair a b=>(a.dflt,b.dflt)
 | .slice _=>[]
 | .err=>true
 | .fn _=>()
 | .fv=>(0:Nat)
 | .f64=>(0:Nat)
 | .cx=>((0:Nat),(0:Nat))
 | .ref a=>a.dflt
 | .clo _ a=>a.dflt
def oJ (fz:Nat->Option (Array Value)):DC->Value->Prop
 | .v x,u=>x=sy u/\IX u=true
 | .s t a,u=>gy fz t a u
 | .e b,u=>ew b u=true
 | .k v,u=>u=v/\AW 2 v=true
 | .j,_=>True
theorem I5 {fz:Nat->Option (Array Value)}:∀(t:Ty) (x:t.Den) (c:List Value),Bj fz t x c->c.length=t.sz/\(X8 t x).length=t.sz/\∀(k:Nat) d u,(X8 t x)[k]?=some d->c[k]?=some u->oJ fz d u:=by
 intro t;have one:∀(d:DC) (u:Value),oJ fz d u->∀(k:Nat) q l,[d][k]?=some q->[u][k]?=some l->oJ fz q l:=by
  intro d u h k q l e i;rcases k with _|k
  ·simp only[List.getElem?_cons_zero,Option.some.injEq] at e i;subst e i;exact h
  ·simp at e
 induction t with
 |int k=>intro x c h;simp only[Bj] at h;subst h;exact⟨rfl,rfl,one _ _ ⟨rfl,rfl⟩⟩
 |byte=>intro x c h;simp only[Bj] at h;subst h;exact⟨rfl,rfl,one _ _ ⟨rfl,rfl⟩⟩
 |bool=>intro x c h;simp only[Bj] at h;subst h;exact⟨rfl,rfl,one _ _ ⟨rfl,rfl⟩⟩
 |str=>intro x c h;simp only[Bj] at h;subst h;exact⟨rfl,rfl,one _ _ ⟨rfl,rfl⟩⟩
 |unit=>intro x c h;simp only[Bj] at h;subst h;exact⟨rfl,rfl,λk d u h=>by simp[X8] at h⟩
 |pair a b m n=>
  intro x c h;simp only[Bj] at h;obtain⟨c1,c2,rfl,e,i⟩:=h;obtain⟨p,a2,a3⟩:=m _ _ e;obtain⟨q,r,s⟩:=n _ _ i;refine⟨by simp[Ty.sz,p,q],by simp[X8,Ty.sz,a2,r],λk d u hd g=> ?_⟩;simp only[X8] at hd;by_cases z:k<a.sz
  ·rw[List.getElem?_append_left (by omega)] at hd g;exact a3 k d u hd g
  ·rw[List.getElem?_append_right (by omega)] at hd g;rw[a2] at hd;rw[p] at g;exact s _ d u hd g
 |slice a=>
  intro x c h;simp only[Bj] at h;obtain⟨sv,rfl,h⟩:=h;exact⟨rfl,rfl,one _ _ h⟩
 |err=>intro x c h;simp only[Bj] at h;obtain⟨v,rfl,h⟩:=h;exact⟨rfl,rfl,one _ _ h⟩
 |fn f=>intro x c h;simp only[Bj] at h;subst h;exact⟨rfl,rfl,one _ _ ⟨rfl,rfl⟩⟩
 |fv=>intro x c h;simp only[Bj] at h;subst h;exact⟨rfl,rfl,one _ _ ⟨rfl,rfl⟩⟩
 |f64=>intro x c h;simp only[Bj] at h;subst h;exact⟨rfl,rfl,one _ _ ⟨rfl,rfl⟩⟩
 |cx=>intro x c h;simp only[Bj] at h;subst h;exact⟨rfl,rfl,one _ _ ⟨rfl,rfl⟩⟩
 |ref a w=>intro x c h;simp only[Bj] at h;obtain⟨b,o,y,rfl,_⟩:=h;exact⟨rfl,rfl,one _ _ trivial⟩
 |clo f a w=>intro x c h;simp only[Bj] at h;obtain⟨A,rfl,_⟩:=h;exact⟨rfl,rfl,one _ _ trivial⟩
def P2 {α:Type}:List α->Nat->Option (List α)
 |_,0=>some []
 |[],_+1=>none
 |x::a,n+1=>match P2 a n with
  |some l=>some (x::l)
  |none=>none
def Kx {α:Type}:List α->Nat->Nat->Option (List α)
 |cs,0,n=>P2 cs n
 |[],_+1,_=>none
 |_::cs,o+1,n=>Kx cs o n
theorem Nx {α:Type}:∀(a:List α) (n:Nat) (l:List α),P2 a n=some l->l=a.take n/\n<=a.length
 |_,0,l,h=>by simp[P2] at h;subst h;simp
 |[],n+1,l,h=>by simp[P2] at h
 |x::b,n+1,l,h=>by
  simp only[P2] at h
  split at h
  ·rename_i c d;cases h;obtain⟨e,f⟩:=Nx b n c d;exact⟨by simp[e],by simp;omega⟩
  ·cases h
theorem LX {α:Type}:∀(cs:List α) (o n:Nat) (l:List α),Kx cs o n=some l->l=(cs.drop o).take n/\o+n<=cs.length
 |cs,0,n,l,h=>by
  obtain⟨a,b⟩:=Nx cs n l (by simpa[Kx] using h);exact⟨by simpa using a,by omega⟩
 |[],o+1,n,l,h=>by simp[Kx] at h
 |x::c,o+1,n,l,h=>by
  obtain⟨a,b⟩:=LX c o n l (by simpa[Kx] using h);exact⟨by simpa using a,by simp;omega⟩
def EM:List DC->St->List Value×St
 |[],σ=>([],σ)
 | .v x::r,σ=>match EM r σ with
   |(vs,σ')=>(x::vs,σ')
 | .s t a::r,σ=>match EM r (σ.new (.dat t a)) with
   |(vs,σ')=>(dt σ.next::vs,σ')
 | .e b::r,σ=>match EM r σ with
   |(vs,σ')=>(er b::vs,σ')
 | .k x::r,σ=>match EM r σ with
   |(vs,σ')=>(x::vs,σ')
 | .j::r,σ=>match EM r σ with
   |(vs,σ')=>(junk::vs,σ')
def WN (t:Ty) (fz:Nat->Option (Array Value)) (u:Value):Reg:=⟨0,0,0,t.sz,false,fz,u⟩
theorem gy.shape {fz:Nat->Option (Array Value)} {t:Ty} {d:List t.Den} {u:Value} (h:gy fz t d u):∃a l c,u=.slice a l c:=by
 rcases h with⟨⟨q,c,rfl⟩,_⟩|⟨b,o,c,e,rfl,_⟩<;>exact⟨_,_,_,rfl⟩
structure MatOK (fz:Nat->Option (Array Value)) (ι:Nat->Reg) (σ σ':St) (ι':Nat->Reg):Prop where
 le:σ.next<=σ'.next
 pc:σ'.pc=σ.pc
 old:∀id,¬σ.rng σ' id->σ'.heap.get id=σ.heap.get id
 io:∀id,¬σ.rng σ' id->ι' id=ι id
 new:∀id,σ.rng σ' id->∃t xs u,σ'.heap.get id=some (.dat t xs)/\gy fz t xs u/\ι' id=WN t fz u
theorem AA4 {fz:Nat->Option (Array Value)}:∀(l:List DC) (f:List Value) (D:Nat->Prop) (ι:Nat->Reg) (σ σ':St) (vs:List Value),EM l σ=(vs,σ')->l.length=f.length->(∀(k:Nat) d u,l[k]?=some d->f[k]?=some u->oJ fz d u)->
  ∃ι',MatOK fz ι σ σ' ι'/\vs.length=f.length/\∀(k:Nat) v u,vs[k]?=some v->f[k]?=some u->VR (λi=>D i\/σ.rng σ' i) ι' v u
 |[],f,D,ι,σ,σ',vs,h,n,_=>by
  simp only[EM,Prod.mk.injEq] at h;obtain⟨rfl,rfl⟩:=h;exact⟨ι,⟨Nat.le_refl _,rfl,λ_ _=>rfl,λ_ _=>rfl,λid p=>absurd p (St.rng_self σ id)⟩,n,λk v u g=>by simp at g⟩
 | .v x::r,f,D,ι,σ,σ',vs,h,n,hd=>by
   simp only[EM] at h;rcases hm:EM r σ with⟨vs',σ1⟩
   rw[hm] at h;simp only[Prod.mk.injEq] at h;obtain⟨rfl,rfl⟩:=h;cases f with
   |nil=>simp at n
   |cons u f=>
    obtain⟨ι',o,q,w⟩:=AA4 r f D ι σ σ1 vs' hm (by simpa using n) (λk d u y z=>hd (k+1) d u (by simpa using y) (by simpa using z));refine⟨ι',o,by simp[q],λk v A g m=> ?_⟩;rcases k with _|k
    ·simp only[List.getElem?_cons_zero,Option.some.injEq] at g m;subst g m;obtain⟨G,H⟩:=hd 0 _ _ rfl rfl;rw[G];exact .sym _ H
    ·exact w k v A (by simpa using g) (by simpa using m)
 | .e b::r,f,D,ι,σ,σ',vs,h,n,hd=>by
   simp only[EM] at h;rcases hm:EM r σ with⟨vs',σ1⟩
   rw[hm] at h;simp only[Prod.mk.injEq] at h;obtain⟨rfl,rfl⟩:=h;cases f with
   |nil=>simp at n
   |cons u f=>
    obtain⟨ι',o,q,w⟩:=AA4 r f D ι σ σ1 vs' hm (by simpa using n) (λk d u y z=>hd (k+1) d u (by simpa using y) (by simpa using z));refine⟨ι',o,by simp[q],λk v A g m=> ?_⟩;rcases k with _|k
    ·simp only[List.getElem?_cons_zero,Option.some.injEq] at g m;subst g m;exact .err b _ (hd 0 _ _ rfl rfl)
    ·exact w k v A (by simpa using g) (by simpa using m)
 | .k x::r,f,D,ι,σ,σ',vs,h,n,hd=>by
   simp only[EM] at h;rcases hm:EM r σ with⟨vs',σ1⟩
   rw[hm] at h;simp only[Prod.mk.injEq] at h;obtain⟨rfl,rfl⟩:=h;cases f with
   |nil=>simp at n
   |cons u f=>
    obtain⟨ι',o,q,w⟩:=AA4 r f D ι σ σ1 vs' hm (by simpa using n) (λk d u y z=>hd (k+1) d u (by simpa using y) (by simpa using z));refine⟨ι',o,by simp[q],λk v A g m=> ?_⟩;rcases k with _|k
    ·simp only[List.getElem?_cons_zero,Option.some.injEq] at g m;subst g m;obtain⟨G,H⟩:=hd 0 _ _ rfl rfl;rw[G];exact Ar 2 _ H
    ·exact w k v A (by simpa using g) (by simpa using m)
 | .j::r,f,D,ι,σ,σ',vs,h,n,hd=>by
   simp only[EM] at h;rcases hm:EM r σ with⟨vs',σ1⟩
   rw[hm] at h;simp only[Prod.mk.injEq] at h;obtain⟨rfl,rfl⟩:=h;cases f with
   |nil=>simp at n
   |cons u f=>
    obtain⟨ι',o,q,w⟩:=AA4 r f D ι σ σ1 vs' hm (by simpa using n) (λk d u y z=>hd (k+1) d u (by simpa using y) (by simpa using z));refine⟨ι',o,by simp[q],λk v A g m=> ?_⟩;rcases k with _|k
    ·simp only[List.getElem?_cons_zero,Option.some.injEq] at g m;subst g m;exact .junk _
    ·exact w k v A (by simpa using g) (by simpa using m)
 | .s t E::r,f,D,ι,σ,σ',vs,h,n,hd=>by
   simp only[EM] at h;rcases hm:EM r (σ.new (.dat t E)) with⟨vs',σ1⟩
   rw[hm] at h;simp only[Prod.mk.injEq] at h;obtain⟨rfl,rfl⟩:=h;cases f with
   |nil=>simp at n
   |cons u f=>
    have m:gy fz t E u:=hd 0 _ _ rfl rfl;obtain⟨ι',o,q,w⟩:=AA4 r f (λi=>D i\/i=σ.next) (EG ι σ.next (WN t fz u)) (σ.new (.dat t E)) σ1 vs' hm (by simpa using n) (λk d u y z=>hd (k+1) d u (by simpa using y) (by simpa using z));have I:σ.next+1<=σ1.next:=o.le;have F:∀id,¬σ.rng σ1 id->¬(σ.new (.dat t E)).rng σ1 id/\id≠σ.next:=λid p=>by simp only[St.rng,St.new] at p⊢;omega
    have B:¬(σ.new (.dat t E)).rng σ1 σ.next:=by simp only[St.rng,St.new];omega
    refine⟨ι',⟨by omega,o.pc,λid p=> ?_,λid p=> ?_,λid p=> ?_⟩,by simp[q],λk v A g C=> ?_⟩
    ·rw[o.old id (F id p).1];simp only[St.new,Tr.set_get,if_neg (F id p).2]
    ·rw[o.io id (F id p).1,Dz _ _ (F id p).2]
    ·by_cases e:id=σ.next
     ·subst e;refine⟨t,E,u,?_,m,?_⟩
      ·rw[o.old _ B];simp only[St.new,Tr.set_get,if_true]
      ·rw[o.io _ B,AV]
     ·exact o.new id (by simp only[St.rng,St.new] at p⊢;omega)
    ·rcases k with _|k
     ·simp only[List.getElem?_cons_zero,Option.some.injEq] at g C;subst g C;obtain⟨a,l,c,rfl⟩:=m.shape;refine .dat σ.next a l c (.inr (by simp only[St.rng];omega)) ?_;rw[o.io _ B,AV];rfl
     ·refine(w k v A (by simpa using g) (by simpa using C)).mono (λi hi=> ?_) λ_ _=>rfl
      rcases hi with(hi|rfl)|hi
      ·exact .inl hi
      ·exact .inr (by simp only[St.rng];omega)
      ·exact .inr (by simp only[St.rng,St.new] at hi⊢;omega)
section
variable {P:Program} {T:TE} (hT:T.OK P) {D:Nat->Prop} {ι ι':Nat->Reg} {σ σ':St} {w w':World} {φ:Foot}
theorem Post.mats {fz:Nat->Option (Array Value)} (z:σ.wf) (m:MatOK fz ι σ σ' ι') (A:w.heap.size<=w'.heap.size) (q:w'.os=w.os) (l:w'.output=w.output) (B:∀b,b<w.heap.size->w'.heap[b]?=w.heap[b]?) (y:Bs fz w')
  (C:∀b c,fz b=some c->w.heap.size<=b\/∃k,φ.Fi k/\¬σ.rng σ' k/\Lv σ.H k/\(ι k).Fz b) (r:φ.wc=[]) (o:φ.wh=[]):Post P D (σ.rng σ') ι σ.H w φ ι' σ'.H w':=by
 have f:∀id,¬σ.rng σ' id->σ'.H.hdr id=σ.H.hdr id:=λid s=>by simp only[St.H,m.old id s]
 have g:∀id k,¬σ.rng σ' id->σ'.H.cell id k=σ.H.cell id k:=λid k s=>by simp only[St.H,m.old id s]
 exact {
  io:=m.io
  size:=A
  os:=q
  out:=l
  hdr:=λid x hx e=>by
   rcases hx with hx|hx
   ·simp[Foot.Wi,o] at hx
   ·obtain⟨t,p,u,g1,n,g3⟩:=m.new id hx;rw[St.hdr_of g1] at e;cases e;refine⟨?_,?_,?_,?_⟩
    ·rw[g3];exact n
    ·rw[g3];rfl
    ·rw[g3];rfl
    ·rw[g3];exact y
  cel:=λid k v hx lv e=>by
   rcases hx with hx|hx
   ·simp[Foot.Wc,r,o] at hx
   ·obtain⟨t,p,u,g1,n,g3⟩:=m.new id hx;simp only[St.H,g1,DH] at e;cases e
  ahdr:=λid d _=>f id d
  acel:=λid k d _=>g id k d
  cfr:=λb a _=>by rw[B b a];exact BC.refl _ _
  fresh:=λid d _ b a=>by
   obtain⟨t,p,u,g1,n,g3⟩:=m.new id d;rw[g3] at a;cases a.1
  freshF:=λid d _ b a=>by
   obtain⟨t,p,u,g1,n,g3⟩:=m.new id d;rw[g3] at a;obtain⟨c,a⟩:=a;rcases C b c a with h|h
   ·obtain⟨e,fr,E⟩:=y b c a;exact .inl ⟨h,Ap E⟩
   ·exact .inr (.inr h)
  dist:=λi j F _ _ _ _ b a=>by
   obtain⟨t,p,u,g1,n,g3⟩:=m.new i F;rw[g3] at a;cases a.1
  nl:=λid d=>St.hdr_none z id d.1
  wl:=λid k hx=>by simp[Foot.Wc,r,o] at hx
  wrm:=λid d hx=>hx.of_hdr (f id d)
  wrow:=λid k hx=>by simp[Foot.Wc,r,o] at hx}
theorem MatOK.wf {fz:Nat->Option (Array Value)} (m:MatOK fz ι σ σ' ι') (a:σ.wf):σ'.wf:=λid h=>by
 rw[m.old id (by simp only[St.rng];omega)];exact a id (by have:=m.le;omega)
theorem MatOK.afr {fz:Nat->Option (Array Value)} (m:MatOK fz ι σ σ' ι') (φ:Foot):AFr σ σ' φ:=
 ⟨λid a _=>by simp only[St.H,m.old id a],λid k a _=>by simp only[St.H,m.old id a],λh=>by unfold St.Ok at h⊢;rw[m.pc] at h;exact h⟩
theorem IL:∀(l:List DC) (σ σ':St) (vs:List Value),EM l σ=(vs,σ')->σ.next<=σ'.next/\σ'.pc=σ.pc/\σ'.ora=σ.ora/\∀id,¬σ.rng σ' id->σ'.heap.get id=σ.heap.get id
 |[],σ,σ',vs,h=>by
  simp only[EM,Prod.mk.injEq] at h;obtain⟨rfl,rfl⟩:=h;exact⟨Nat.le_refl _,rfl,rfl,λ_ _=>rfl⟩
 | .v x::r,σ,σ',vs,h=>by
   simp only[EM] at h;rcases hm:EM r σ with⟨vs',σ1⟩
   rw[hm] at h;simp only[Prod.mk.injEq] at h;obtain⟨rfl,rfl⟩:=h;exact IL r σ σ1 vs' hm
 | .e b::r,σ,σ',vs,h=>by
   simp only[EM] at h;rcases hm:EM r σ with⟨vs',σ1⟩
   rw[hm] at h;simp only[Prod.mk.injEq] at h;obtain⟨rfl,rfl⟩:=h;exact IL r σ σ1 vs' hm
 | .k x::r,σ,σ',vs,h=>by
   simp only[EM] at h;rcases hm:EM r σ with⟨vs',σ1⟩
   rw[hm] at h;simp only[Prod.mk.injEq] at h;obtain⟨rfl,rfl⟩:=h;exact IL r σ σ1 vs' hm
 | .j::r,σ,σ',vs,h=>by
   simp only[EM] at h;rcases hm:EM r σ with⟨vs',σ1⟩
   rw[hm] at h;simp only[Prod.mk.injEq] at h;obtain⟨rfl,rfl⟩:=h;exact IL r σ σ1 vs' hm
 | .s t a::r,σ,σ',vs,h=>by
   simp only[EM] at h;rcases hm:EM r (σ.new (.dat t a)) with⟨vs',σ1⟩
   rw[hm] at h;simp only[Prod.mk.injEq] at h;obtain⟨rfl,rfl⟩:=h;obtain⟨c,a2,a3,a4⟩:=IL r _ σ1 vs' hm;have c:σ.next+1<=σ1.next:=c;refine⟨by omega,a2,a3,λid f=> ?_⟩;have d:¬(σ.new (.dat t a)).rng σ1 id/\id≠σ.next:=by simp only[St.rng,St.new] at f⊢;omega
   rw[a4 id d.1];simp only[St.new,Tr.set_get,if_neg d.2]
end
end Go.Eng
end
end
end
section
noncomputable section
noncomputable section
namespace Go.Eng
open Go
section
variable {P:Program} {T:TE} (hT:T.OK P) {D:Nat->Prop} {ι ι':Nat->Reg} {σ σ':St} {w w':World} {φ:Foot}
def Fh:Option AO->Option ((t:Ty)×List t.Den)
 |some (.dat t a)=>some ⟨t,a⟩
 |some (.vec t a _)=>some ⟨t,a⟩
 |_=>none
structure Mem (w:World) (r:Reg) (t:Ty) (xs:List t.Den):Prop where
 esz:r.esz=t.sz
 fz:Bs r.fz w
 rd:((∃q c,r.sv=.slice q 0 c)/\xs=[])\/∃(b o c:Nat) (arr:Array Value) (e:TypeId) (fr:Nat×Nat),r.sv=.slice (some ⟨b,o,none⟩) xs.length c/\w.heap[b]?=some (.cells arr e fr)/\o+xs.length*t.sz<=arr.size/\
  xs.length<=c/\(∀i x,xs[i]?=some x->Bj r.fz t x ((arr.toList.drop (o+i*t.sz)).take t.sz))/\(r.Own b\/r.Fz b)
theorem Ho {id:Nat} {y} (h:Fh (σ.heap.get id)=some y):Lv σ.H id:=by
 cases a:σ.heap.get id with
 |none=>rw[a] at h;cases h
 |some o=>exact St.lv_of a
theorem AA8 {id:Nat} {t:Ty} {n:List t.Den} (h:Fh (σ.heap.get id)=some ⟨t,n⟩) (p:φ.Fi id) (r:HOn P D ι σ.H φ w):Mem w (ι id) t n:=by
 unfold Fh at h
 split at h
 ·rename_i v j k;cases h;obtain⟨y,l,E,g⟩:=r.hd id _ p (St.hdr_of k);refine⟨l,g,y.imp_right ?_⟩;rintro⟨b,o,c,a,f,d,m,s,u⟩;obtain⟨e,fr,z⟩:=g b a d;exact⟨b,o,c,a,e,fr,f,z,m,s,u,.inr ⟨a,d⟩⟩
 ·rename_i v j A k;cases h;obtain⟨l,g,h⟩:=r.hd id _ p (St.hdr_of k);refine⟨l,g,h.imp (λ⟨_,f,q,d⟩=>⟨⟨_,_,d⟩,f⟩) ?_⟩;rintro⟨g1,F,cap,c,fr,f,d,m,s,u,G,I,B⟩;have J:=Nat.mul_le_mul_right t.sz d;refine⟨_,_,_,c,A,fr,f,m,by omega,d,λi x C=> ?_,.inl ⟨g1,rfl⟩⟩;have:=(B i x C).2
  rwa[List.drop_drop] at this
 ·cases h
theorem Cz {id:Nat} {b:Value} (h:VR D ι (dt id) b):∃a l c,b=.slice a l c/\D id/\(ι id).sv=.slice a l c:=by
 cases h with
 |dat _ a l c d e=>exact⟨a,l,c,rfl,d,e⟩
 |tuple as bs f h=>
  have g:bs[0]?=some (bs[0]'(by rw[<-f];exact Nat.succ_pos _)):=Array.getElem?_eq_getElem _;exact(h 0 _ _ rfl g).no_chan.elim
theorem oK {id m:Nat} {b:Value} (h:VR D ι (pf id m) b):∃a l c,b=.slice a m c/\D id/\(ι id).sv=.slice a l c/\m<=l:=by
 cases h with
 |pfx _ _ a l c d e f=>exact⟨a,l,c,rfl,d,e,f⟩
 |tuple as bs g h=>
  have i:bs[0]?=some (bs[0]'(by rw[<-g];exact Nat.succ_pos _)):=Array.getElem?_eq_getElem _;exact(h 0 _ _ rfl i).no_chan.elim
theorem Jv {id i j:Nat} {a:Value} (h:VR D ι (.pointer (some ⟨id,i,some j⟩)) a):∃b o l c,a=.pointer (some ⟨b,o+i*(ι id).esz+j,none⟩)/\D id/\(ι id).sv=.slice (some ⟨b,o,none⟩) l c:=by
 cases h with
 |pel _ _ _ b o l c d e=>exact⟨b,o,l,c,rfl,d,e⟩
def WO (t:Ty) (a:List t.Den) (i j n:Nat):Option (List DC):=Kx (X8 t (a.getD i t.dflt)) j n
theorem LY {t:Ty} {a:List t.Den} {i j n:Nat} {l:List DC} {r:Reg} {b o len c:Nat} (A:Mem w r t a) (B:r.sv=.slice (some ⟨b,o,none⟩) len c) (p:i<a.length) (C:WO t a i j n=some l):
  ∃s:List Value,s.length=n/\l.length=n/\(∀k,k<n->∃u,s[k]?=some u/\w.cell? ⟨b,o+i*t.sz+j+k,none⟩=some u)/\∀(k:Nat) d u,l[k]?=some d->s[k]?=some u->oJ r.fz d u:=by
 rcases A.rd with⟨_,h⟩|⟨J,K,L,f,e,fr,x,D,M,N,E,_⟩
 ·subst h;simp at p
 ·rw[B] at x;cases x;obtain⟨rfl,g⟩:=LX _ _ _ _ C;have F:=E i a[i] (List.getElem?_eq_getElem p);have G:a.getD i t.dflt=a[i]:=by rw[List.getD_eq_getElem?_getD,List.getElem?_eq_getElem p];rfl
  rw[G] at g⊢;obtain⟨H,y,I⟩:=I5 t _ _ F;rw[y] at g;have z:i*t.sz+t.sz<=a.length*t.sz:=by
   have:=Nat.mul_le_mul_right t.sz p;rwa[Nat.succ_mul] at this
  refine⟨((((f.toList.drop (o+i*t.sz)).take t.sz).drop j).take n),?_,?_,λk v=> ?_,λk d u hd q=> ?_⟩
  ·rw[List.length_take,List.length_drop,H];omega
  ·rw[List.length_take,List.length_drop,y];omega
  ·have m:o+i*t.sz+j+k<f.size:=by omega
   refine⟨f[o+i*t.sz+j+k],?_,?_⟩
   ·rw[List.getElem?_take,if_pos v,List.getElem?_drop,List.getElem?_take,if_pos (by omega),List.getElem?_drop,Array.getElem?_toList,show o+i*t.sz+(j+k)=o+i*t.sz+j+k by omega];exact Array.getElem?_eq_getElem m
   ·simp only[World.cell?,D,Option.isSome_none,Bool.false_eq_true,if_false];exact Array.getElem?_eq_getElem m
  ·rw[List.getElem?_take] at hd q
   split at hd
   ·rename_i v;rw[if_pos v] at q;rw[List.getElem?_drop] at hd q;exact I _ d u hd q
   ·cases hd
def Tk (T:TE) (σ:St) (t:TypeId) (a:Value):Option R:=
 match a with
 | .pointer (some ⟨id,i,some j⟩)=>match Fh (σ.heap.get id) with
   |some ⟨c,b⟩=>match T.und t with
    |some d=>bif GC d then
     match T.inf t with
     |some e=>match WO c b i j e.size with
      |some l=>match EM l σ with
       |(vs,σ')=>some ⟨.agg vs.toArray,σ'.assume (decide (i<b.length)),⟨[],[id],[],[]⟩⟩
      |none=>none
     |none=>none
     else match WO c b i j 1 with
      |some l=>match EM l σ with
       |([v],σ')=>some ⟨v,σ'.assume (decide (i<b.length)),⟨[],[id],[],[]⟩⟩
       |_=>none
      |none=>none
    |none=>none
   |none=>none
 |_=>none
theorem Rr {id:Nat} (a:Lv σ.H id) (d:σ.wf) (h:(⟨[],[id],[],[]⟩:Foot).Fi id) (b:Nat) (c:Array Value) (e:(ι id).fz b=some c):w.heap.size<=b\/∃k,(⟨[],[id],[],[]⟩:Foot).Fi k/\¬σ.rng σ' k/\Lv σ.H k/\(ι k).Fz b:=
 .inr ⟨id,h,λf=>by have:=St.lv_lt d a;simp only[St.rng] at f;omega,a,c,e⟩
theorem AF.assume {e:Sem Value} {v:Value} {φ:Foot} {p:Bool} (h:AF P D ι σ w e ⟨v,σ',φ⟩):AF P D ι σ w e ⟨v,σ'.assume p,φ⟩:=
 ⟨h.1,λa=>⟨(h.2.1 a).1,(h.2.1 a).2.assume p⟩,h.2.2⟩
theorem CY {l:List DC} {vs:List Value} {φ:Foot} (b:EM l σ=(vs,σ')):σ.next<=σ'.next/\(σ.wf->σ'.wf/\AFr σ σ' φ):=by
 obtain⟨c,a2,a3,a4⟩:=IL _ _ _ _ b;refine⟨c,λd=>⟨λid h=> ?_,⟨λid a _=>by simp only[St.H,a4 id a],λid k a _=>by simp only[St.H,a4 id a],λh=>by unfold St.Ok at h⊢;rw[a2] at h;exact h⟩⟩⟩;rw[a4 id (by simp only[St.rng];omega)];exact d id (by omega)
include hT
theorem Tl {t:TypeId} {a Q:Value} {r:R} (h:Tk T σ t a=some r) (p:r.σ.Ok) (X:VR D ι a Q):AF P D ι σ w (Instr.loadAt t Q) r:=by
 unfold Tk at h
 split at h
 ·rename_i id i j;obtain⟨b,o,len,c,rfl,hD,q⟩:=Jv X;have z:(⟨[],[id],[],[]⟩:Foot).Fi id:=.inr (.inl (by simp))
  split at h
  ·rename_i te S B;have s:=Ho B
   split at h
   ·rename_i d hd;cases f:GC d
    ·rw[f,cond_false] at h
     split at h
     ·rename_i l C
      split at h
      ·rename_i v σ1 m;cases h;have E:i<S.length:=of_decide_eq_true p.1;refine AF.assume ⟨(CY (φ:=.nil) m).1,(CY m).2,λx F G=> ?_⟩;have e:=AA8 B z G;obtain⟨y,U,Y,H,I⟩:=LY e q E C;obtain⟨ι',J,V,K⟩:=AA4 l y D ι σ σ1 [v] m (by omega) I;obtain⟨u,n,A⟩:=H 0 (by omega)
       refine⟨u,ι',w,?_,K 0 v u rfl n,Post.mats x J (Nat.le_refl _) rfl rfl (λ_ _=>rfl) e.fz (λb c L=>Rr s x z b c L) rfl rfl⟩;rw[Nat.add_zero,<-e.esz] at A;simp only[Instr.loadAt,Instr.sureAddr,loadVar,Sem.run_bind,Sem.run_pure,Result.andThen_ok,CW hT hd,f,Bool.false_eq_true,if_false,run_load,A]
      ·cases h
     ·cases h
    ·rw[f,cond_true] at h
     split at h
     ·rename_i W M
      split at h
      ·rename_i l C;rcases m:EM l σ with⟨vs,σ1⟩
       rw[m] at h;cases h;have E:i<S.length:=of_decide_eq_true p.1;refine AF.assume ⟨(CY (φ:=.nil) m).1,(CY m).2,λx F G=> ?_⟩;have e:=AA8 B z G;obtain⟨y,U,Y,H,I⟩:=LY e q E C;obtain⟨ι',J,V,K⟩:=AA4 l y D ι σ σ1 vs m (by omega) I;refine⟨.agg y.toArray,ι',w,?_,.agg _ _ (by simp[V]) λk v u Z n=>K k v u (by simpa using Z) (by simpa using n),Post.mats x J (Nat.le_refl _) rfl rfl (λ_ _=>rfl) e.fz (λb c L=>Rr s x z b c L) rfl rfl⟩
       have g:=run_loadCells_list (P:=P) w ⟨b,o+i*(ι id).esz+j,none⟩ y λk v N=>by
        have O:k<W.size:=by
         rcases Nat.lt_or_ge k W.size with h|h
         ·exact h
         ·rw[List.getElem?_eq_none (by omega)] at N;cases N
        obtain⟨u,n,A⟩:=H k O;rw[N] at n;cases n;rw[BF,e.esz];exact A
       rw[U] at g;simp only[Instr.loadAt,Instr.sureAddr,loadVar,Sem.run_bind,Sem.run_pure,Result.andThen_ok,CW hT hd,f,if_true,Ao hT M,g]
      ·cases h
     ·cases h
   ·cases h
  ·cases h
 ·cases h
omit hT
def DE (T:TE) (σ:St) (t:TypeId) (x c:Value):Option R:=
 match x with
 | .tuple a=>match a.toList with
   |[.chan (some 2),.pointer (some ⟨id,0,none⟩)]=>match Fh (σ.heap.get id),T.und t,Bm c with
    |some ⟨d,f⟩,some (.slice b),some (.int _ i)=>match T.inf b with
     |some e=>bif Nat.beq e.size d.sz then some ⟨.pointer (some ⟨id,i.toNat,some 0⟩),(σ.assume (decide (i<f.length))).assume (decide (0<=i)),⟨[],[id],[],[]⟩⟩ else none
     |none=>none
    |_,_,_=>none
   |_=>none
 |_=>none
include hT
theorem Ky {t:TypeId} {x p q f:Value} {r:R} (h:DE T σ t x q=some r) (g:r.σ.Ok) (s:VR D ι x p) (n:VR D ι q f):AF P D ι σ w (Instr.indexAt t p f) r:=by
 unfold DE at h
 split at h
 ·rename_i a
  split at h
  ·rename_i id A;rw[BG A] at s;obtain⟨a,l,c,rfl,B,j⟩:=Cz s
   split at h
   ·rename_i C u v k i E F G;obtain⟨rfl,_⟩:=AZ G n
    split at h
    ·rename_i e H;cases m:Nat.beq e.size C.sz
     ·rw[m] at h;cases h
     rw[m,cond_true] at h;have m:=Nat.eq_of_beq_eq_true m;cases h;have I:0<=i:=of_decide_eq_true g.1;have y:i<u.length:=of_decide_eq_true g.2.1;refine AF.assume (AF.assume ⟨Nat.le_refl _,λz=>⟨z,AFr.refl _ _⟩,λz _ J=> ?_⟩);have d:=AA8 E (.inr (.inl (by simp))) J;rcases d.rd with⟨_,K⟩|⟨b,o,M,L,N,fr,g1,O,g3,g4,Q,_⟩
     ·subst K;simp at y;omega
     ·rw[j] at g1;cases g1;refine⟨.pointer (some ⟨b,o+i.toNat*e.size,none⟩),ι,w,?_,?_,Post.same (St.rng_self σ) rfl rfl rfl rfl rfl⟩
      ·simp only[Instr.indexAt,asIntOf,Sem.run_bind,Sem.run_pure,Result.andThen_ok,AK hT F,I,y,and_self,if_true,Ao hT H,BF]
      ·have:=VR.pel (D:=λi=>D i\/σ.rng σ i) (ι:=ι) id i.toNat 0 b o u.length c (.inl B) j;rw[d.esz,<-m,Nat.add_zero] at this;exact this
    ·cases h
   ·cases h
  ·cases h
 ·cases h
omit hT
def Eo (T:TE) (σ:St) (s:TypeId) (a:Value) (f:Nat):Option R:=
 match a with
 | .pointer (some ⟨id,i,some j⟩)=>match T.und s with
   |some (.struct c)=>match c[f]? with
    |some b=>match T.inf b.type with
     |some d=>bif Nat.beq d.size 0 then none else some ⟨.pointer (some ⟨id,i,some (j+b.offset)⟩),σ,.nil⟩
     |none=>none
    |none=>none
   |_=>none
 |_=>none
include hT
theorem Kz {s:TypeId} {a k:Value} {f:Nat} {r:R} (h:Eo T σ s a f=some r) (m:VR D ι a k):AF P D ι σ w (Instr.fieldAt s k f) r:=by
 unfold Eo at h
 split at h
 ·rename_i id i j;obtain⟨b,o,len,c,rfl,n,g⟩:=Jv m
  split at h
  ·rename_i x p
   split at h
   ·rename_i q t
    split at h
    ·rename_i l u;cases d:Nat.beq l.size 0
     ·rw[d] at h;cases h;have v:l.size≠0:=λe=>by rw[e] at d;cases d
      refine AF.pure (v':=.pointer (some ⟨b,o+i*(ι id).esz+(j+q.offset),none⟩)) ?_ (.pel id i _ b o len c n g);simp only[Instr.fieldAt,Sem.run_bind,AK hT p,Result.andThen_ok,t,Instr.sureAddr,Sem.run_pure,fieldPlace,Ao hT u,if_neg v,BF,Nat.add_assoc]
     ·rw[d] at h;cases h
    ·cases h
   ·cases h
  ·cases h
 ·cases h
omit hT
def sLen (T:TE) (σ:St) (argTypes:List TypeId) (x:Value):Option R:=
 match x with
 | .tuple a=>match a.toList with
   |[.chan (some 2),.pointer (some ⟨id,0,none⟩)]=>match Fh (σ.heap.get id),argTypes with
    |some ⟨_,b⟩,t::_=>match T.und t with
     |some (.slice _)=>some ⟨sy (.int .i64 b.length),σ,⟨[],[id],[],[]⟩⟩
     |_=>none
    |_,_=>none
   |_=>none
 |_=>none
include hT
theorem ABJ {argTypes:Array TypeId} {ty:TypeId} {x g:Value} {r:R} (h:sLen T σ argTypes.toList x=some r) (i:VR D ι x g):AF P D ι σ w (Builtin.len_ argTypes ty #[g]) r:=by
 have n:∀t l,argTypes.toList=t::l->argTypes[0]?=some t:=λt l e=>by rw[<-Array.getElem?_toList,e];rfl
 unfold sLen at h
 split at h
 ·rename_i a
  split at h
  ·rename_i id p;rw[BG p] at i;obtain⟨a,l,c,rfl,E,d⟩:=Cz i
   split at h
   ·rename_i F j t s u v
    split at h
    ·rename_i e y;cases h;refine⟨Nat.le_refl _,λk=>⟨k,AFr.refl _ _⟩,λk _ z=> ?_⟩;have f:=AA8 u (.inr (.inl (by simp))) z;have A:l=j.length:=by
      rcases f.rd with⟨⟨q,c1,m⟩,B⟩|⟨b,o,G,C,H,fr,g1,I,g3,g4,J,_⟩
      ·rw[d] at m;cases m;subst B;rfl
      ·rw[d] at g1;cases g1;rfl
     subst A;refine⟨.int .i64 j.length,ι,w,?_,.sym _ rfl,Post.same (St.rng_self σ) rfl rfl rfl rfl rfl⟩;simp only[Builtin.len_,n _ _ v,List.getElem?_toArray,List.getElem?_cons_zero,Sem.run_bind,AK hT y,Result.andThen_ok,Sem.run_pure,goInt]
    ·cases h
   ·cases h
  ·cases h
 ·cases h
end
end Go.Eng
end
end
end
section
noncomputable section
noncomputable section
namespace Go.Eng
open Go
section
variable {P:Program} {T:TE} (hT:T.OK P) {D:Nat->Prop} {ι ι':Nat->Reg} {σ σ':St} {w w':World} {φ:Foot}
def dE (len:Nat) (lo a:Option Value):Option (Option Int×Option Int×List Bool):=
 match lo,a with
 |none,none=>some (none,none,[])
 |some l,none=>match Bm l with
  |some (.int _ n)=>some (some n,none,[decide (0<=n),decide (n<=len)])
  |_=>none
 |none,some h=>match Bm h with
  |some (.int _ m)=>some (none,some m,[decide (0<=m),decide (m<=len)])
  |_=>none
 |some l,some h=>match Bm l,Bm h with
  |some (.int _ n),some (.int _ m)=>some (some n,some m,[decide (0<=n),decide (n<=m),decide (m<=len)])
  |_,_=>none
def Bw {α:Type} (a:List α) (lo b:Option Int):List α:=
 match lo,b with
 |none,none=>a
 |some n,none=>a.drop n.toNat
 |none,some m=>a.take m.toNat
 |some n,some m=>(a.take m.toNat).drop n.toNat
theorem P3 {len cap:Nat} {lo v d f:Option Value} {n m:Option Int} {x:List Bool} {α:Type} (r:List α) (z:r.length=len) (h:dE len lo v=some (n,m,x)) (a:C5 x) (C:len<=cap) (p:OR D ι lo d) (q:OR D ι v f) (w:World):
  ∃l h,(Instr.sliceBounds true len cap d f none).run P w=.ok (l,h,cap) w/\l<=h/\h<=len/\Bw r n m=(r.take h).drop l:=by
 unfold dE at h
 split at h
 ·cases h;cases p;cases q;exact⟨0,len,by simp[Instr.sliceBounds],Nat.zero_le _,Nat.le_refl _,by simp[Bw,<-z]⟩
 ·rename_i l
  split at h
  ·rename_i k n0 g;cases h;cases q;cases p with
   |some _ b i=>
    obtain⟨rfl,_⟩:=AZ g i;have j:(0:Int)<=n0:=of_decide_eq_true a.1;have s:n0<=len:=of_decide_eq_true a.2.1;have e:=λc=>CX (P:=P) (k:=k) (code:=c) j (y:=len) s w
    exact⟨n0.toNat,len,by simp[Instr.sliceBounds,e],by omega,Nat.le_refl _,by simp[Bw,<-z]⟩
  ·cases h
 ·rename_i l
  split at h
  ·rename_i k n0 g;cases h;cases p;cases q with
   |some _ b i=>
    obtain⟨rfl,_⟩:=AZ g i;have j:(0:Int)<=n0:=of_decide_eq_true a.1;have s:n0<=len:=of_decide_eq_true a.2.1;have e:=λc=>CX (P:=P) (k:=k) (code:=c) j (y:=cap) (by omega) w
    exact⟨0,n0.toNat,by simp[Instr.sliceBounds,e],Nat.zero_le _,by omega,by simp[Bw]⟩
  ·cases h
 ·rename_i l E
  split at h
  ·rename_i k n0 A o g t;cases h;cases p with
   |some _ b i=>
    cases q with
    |some _ F u=>
     obtain⟨rfl,_⟩:=AZ g i;obtain⟨rfl,_⟩:=AZ t u;have j:(0:Int)<=n0:=of_decide_eq_true a.1;have s:n0<=o:=of_decide_eq_true a.2.1;have G:o<=len:=of_decide_eq_true a.2.2.1;have e:=λc=>CX (P:=P) (k:=A) (code:=c) (by omega:0<=o) (y:=cap) (by omega) w
     have B:=λc=>CX (P:=P) (k:=k) (code:=c) j (y:=o.toNat) (by omega) w
     exact⟨n0.toNat,o.toNat,by simp[Instr.sliceBounds,e,B],by omega,by omega,by simp[Bw]⟩
  ·cases h
def St.assumes (σ:St) (a:List Bool):St:=a.foldr (λp σ=>σ.assume p) σ
theorem BT:∀(a:List Bool) (σ:St),(σ.assumes a).Ok↔C5 a/\σ.Ok
 |[],σ=>by simp[St.assumes,C5]
 |p::a,σ=>by
  show((σ.assumes a).assume p).Ok↔_;rw[St.assume_ok,BT a σ,C5,and_assoc]
theorem AF.assumes {e:Sem Value} {v:Value} {φ:Foot}:∀(a:List Bool) {σ':St},AF P D ι σ w e ⟨v,σ',φ⟩->AF P D ι σ w e ⟨v,σ'.assumes a,φ⟩
 |[],_,h=>h
 |_::a,_,h=>(AF.assumes a h).assume
def Tm (T:TE) (σ:St) (t:TypeId) (x:Value) (lo f:Option Value):Option R:=
 match x with
 | .tuple a=>match a.toList with
   |[.chan (some 2),.pointer (some ⟨id,0,none⟩)]=>match σ.heap.get id,T.und t with
    |some (.dat c d),some (.slice b)=>match T.inf b with
     |some e=>bif Nat.beq e.size c.sz then match dE d.length lo f with
      |some (n,m,g)=>some ⟨dt σ.next,(σ.new (.dat c (Bw d n m))).assumes g,⟨[],[id],[],[]⟩⟩
      |none=>none
      else none
     |none=>none
    |_,_=>none
   |_=>none
 |_=>none
include hT
theorem Tn {t:TypeId} {x J:Value} {lo V g j:Option Value} {r:R} (h:Tm T σ t x lo V=some r) (M:r.σ.Ok) (v:VR D ι x J) (W:OR D ι lo g) (X:OR D ι V j):AF P D ι σ w (Instr.sliceAt t J g j none) r:=by
 have N:∀e,T.und t=some (.slice e)->∀w,(Instr.sliceAt t J g j none).run P w=(Instr.slice t J g j none).run P w:=λe A w=>by
  simp only[Instr.sliceAt,Sem.run_bind,AK hT A,Result.andThen_ok]
 unfold Tm at h
 split at h
 ·rename_i a
  split at h
  ·rename_i id ha;rw[BG ha] at v;obtain⟨a,len,c,rfl,hD,B⟩:=Cz v
   split at h
   ·rename_i p y Y O A
    split at h
    ·rename_i e Z;cases z:Nat.beq e.size p.sz
     ·rw[z] at h;cases h
     rw[z,cond_true] at h;have z:=Nat.eq_of_beq_eq_true z
     split at h
     ·rename_i n m ps C;cases h;obtain⟨hp, -⟩:=(BT _ _).1 M;refine AF.assumes ps ?_;have Q:EM [.s p (Bw y n m)] σ=([dt σ.next],σ.new (.dat p (Bw y n m))):=rfl;refine⟨(CY (φ:=.nil) Q).1,(CY Q).2,λhw hDn ho=> ?_⟩;have S:(⟨[],[id],[],[]⟩:Foot).Fi id:=.inr (.inl (by simp))
      have hmem:=AA8 (show Fh (σ.heap.get id)=some ⟨p,y⟩ by rw[O];rfl) S ho;obtain⟨g1, -, -,g4⟩:=ho.hd id _ S (St.hdr_of O);have key:∃u,(Instr.slice t (.slice a len c) g j none).run P w=.ok u w/\gy (ι id).fz p (Bw y n m) u:=by
       rcases g1 with⟨⟨q,c1,E⟩,rfl⟩|⟨b,o,c',F,E,e2,e3,e4,e5⟩
       ·rw[B] at E;cases E;obtain⟨l,h,G,r2,K,L⟩:=P3 (P:=P) (cap:=c) ([]:List p.Den) rfl C hp (Nat.zero_le _) W X w;have K:h<=0:=K;have G:(Instr.sliceBounds true 0 c g j none).run P w=.ok (l,h,c) w:=G;have:l=0:=by omega
        have:h=0:=by omega
        subst l h;exact⟨.slice (if c=0 then a else a.map (·.add (0*e.size))) (0-0) (c-0),by simp only[Instr.slice,Sem.run_bind,AK hT A,Result.andThen_ok,G,Ao hT Z,Sem.run_pure],.inl ⟨⟨_,_,rfl⟩,by rw[L];rfl⟩⟩
       ·rw[B] at E;cases E;obtain⟨l,h,G,r2,K,L⟩:=P3 (P:=P) (cap:=c) y rfl C hp e4 W X w;have f:(Bw y n m).length=h-l:=by rw[L,List.length_drop,List.length_take];omega
        refine⟨.slice (if c=l then some ⟨b,o,none⟩ else(some ⟨b,o,none⟩:Option Addr).map (·.add (l*e.size))) (h-l) (c-l),by simp only[Instr.slice,Sem.run_bind,AK hT A,Result.andThen_ok,G,Ao hT Z,Sem.run_pure],?_⟩;by_cases hc:c=l
        ·subst hc;refine .inr ⟨b,o,0,F,by rw[if_pos rfl,f];simp,e2,by rw[f,show h-c=0 by omega];omega,by rw[f];omega,λi x v=> ?_⟩;rw[List.getElem?_eq_none (by omega)] at v;cases v
        ·refine .inr ⟨b,o+l*p.sz,c-l,F,by rw[if_neg hc,f,Option.map_some,BF,z],e2,?_,by rw[f];omega,λi x v=> ?_⟩
         ·rw[f];have:l*p.sz+(h-l)*p.sz=h*p.sz:=by rw[<-Nat.add_mul];congr 1;omega
          have:h*p.sz<=y.length*p.sz:=Nat.mul_le_mul_right _ K;omega
         ·rw[L,List.getElem?_drop,List.getElem?_take] at v
          split at v
          ·have:=e5 (l+i) x v;rwa[Nat.add_mul,<-Nat.add_assoc] at this
          ·cases v
      obtain⟨u,H,U⟩:=key;obtain⟨ι',m1,m2,m3⟩:=AA4 [.s p (Bw y n m)] [u] D ι σ _ _ Q rfl λk d u' hd I=>by
       rcases k with _|k
       ·simp only[List.getElem?_cons_zero,Option.some.injEq] at hd I;subst hd I;exact U
       ·simp at hd
      exact⟨u,ι',w,(N _ A w).trans H,m3 0 _ u rfl rfl,Post.mats hw m1 (Nat.le_refl _) rfl rfl (λ_ _=>rfl) g4 (λb c z=>Rr (St.lv_of O) hw S b c z) rfl rfl⟩
     ·cases h
    ·cases h
   ·cases h
  ·cases h
 ·cases h
end
end Go.Eng
end
end
end
section
noncomputable section
noncomputable section
namespace Go.Eng
open Go
def oL:Value->Bool
 | .tuple a=>match a.toList with
   |[.chan (some 3),.bool _]=>true
   |_=>false
 |_=>false
def oM:Value->Bool
 | .tuple a=>match a.toList with
   |[.chan (some 4),.int _ 0]=>true
   |_=>false
 |_=>false
def rV (c:Value):Bool:=AW 8 c||oL c||oM c
def bC (c u:Value):Prop:=(AW 8 c=true/\u=c)\/(∃b,c=er b/\ew b u=true)\/∃k n,c=ai k/\u=.int k n
theorem Z3 {c:Value} (h:oM c=true):∃k,c=ai k:=by
 unfold oM at h
 split at h
 ·rename_i a
  split at h
  ·rename_i k b;refine⟨k,?_⟩;cases a;simp only at b;rw[b]
  ·cases h
 ·cases h
theorem oN {D:Nat->Prop} {ι:Nat->Reg} {k:IntKind} {a:Value} (h:VR D ι (ai k) a):∃n,a=.int k n:=by
 cases h with
 |aint _ n=>exact⟨n,rfl⟩
 |tuple as bs b h=>
  have c:bs[0]?=some (bs[0]'(by rw[<-b];exact Nat.succ_pos _)):=Array.getElem?_eq_getElem _;exact(h 0 _ _ rfl c).no_chan.elim
theorem Z4 {c:Value} (h:oL c=true):∃b,c=er b:=by
 unfold oL at h
 split at h
 ·rename_i a
  split at h
  ·rename_i b d;refine⟨b,?_⟩;cases a;simp only at d;rw[d]
  ·cases h
 ·cases h
theorem dF {D:Nat->Prop} {ι:Nat->Reg} {b:Bool} {a:Value} (h:VR D ι (er b) a):ew b a=true:=by
 cases h with
 |err _ _ h=>exact h
 |tuple as bs c h=>
  have d:bs[0]?=some (bs[0]'(by rw[<-c];exact Nat.succ_pos _)):=Array.getElem?_eq_getElem _;exact(h 0 _ _ rfl d).no_chan.elim
theorem bC.vr {D:Nat->Prop} {ι:Nat->Reg} {c u:Value} (h:bC c u):VR D ι c u:=by
 rcases h with⟨h,rfl⟩|⟨b,rfl,h⟩|⟨k,n,rfl,rfl⟩
 ·exact Ar 8 _ h
 ·exact .err b u h
 ·exact .aint k n
theorem bC.of {D:Nat->Prop} {ι:Nat->Reg} {c u:Value} (h:rV c=true) (a:VR D ι c u):bC c u:=by
 unfold rV at h;rw[Bool.or_eq_true,Bool.or_eq_true] at h;rcases h with(h|h)|h
 ·exact .inl ⟨h,Df 8 _ _ h a⟩
 ·obtain⟨b,rfl⟩:=Z4 h;exact .inr (.inl ⟨b,rfl,dF a⟩)
 ·obtain⟨k,rfl⟩:=Z3 h;obtain⟨n,rfl⟩:=oN a;exact .inr (.inr ⟨k,n,rfl,rfl⟩)
def I6 (gl:List (Nat×List Value)) (w:World):Prop:=(∀p,p∈gl->∀(i:Nat) c,p.2[i]?=some c->∃u,w.cell? ⟨p.1,i,none⟩=some u/\bC c u)/\
 ∀p,p∈gl->∃(c:Array Value) (e:TypeId) (fr:Nat×Nat),w.heap[p.1]?=some (.cells c e fr)/\c.size=p.2.length
def Bx (w w':World):Prop:=w.heap.size<=w'.heap.size/\w'.os=w.os/\w'.output=w.output/\∀b,b<w.heap.size->w'.heap[b]?=w.heap[b]?
def Gk (P:Program) (gl:List (Nat×List Value)) (f:FuncId) (S:PSpec):Prop:=
 ∀(fz:Nat->Option (Array Value)) (w:World) (args:Array Value) (x:AA S.ts),Bs fz w->I6 gl w->Bc fz S.ts x args.toList->S.pre x->
  Calls P f args w λe w'=>∃vs a,e=.returned (De vs)/\(∀b c,fz b=some c->a b=some c)/\Bs a w'/\(∀b c,a b=some c->fz b=some c\/w.heap.size<=b)/\Bc a S.rs (S.g x) vs/\Bx w w'
def jB (P:Program) (S:OSpec) (fz:Nat->Option (Array Value)) (w:World) (r:Reg) (own:List Nat) (z:S.root.Den×Bz S.rs) (e:Ending) (w':World):Prop:=
 ∃vs f a d,e=.returned (De vs)/\(∀b c,fz b=some c->f b=some c)/\Bs f w'/\(∀b c,f b=some c->fz b=some c\/w.heap.size<=b\/b∈own)/\
  (FF S.rb r++(a++d)).Nodup/\(∀b,b∈FF S.rb r++(a++d)->f b=none)/\(∀b,b∈a++d->b∈own\/w.heap.size<=b)/\
  (S.rb=true->OW P w' f r S.root S.re z.1 a)/\(S.rb=false->a=[])/\OX P w' f S.rs z.2 vs d/\
  w.heap.size<=w'.heap.size/\w'.os=w.os/\w'.output=w.output/\∀b,b<w.heap.size->b∉FF S.rb r++own->w'.heap[b]?=w.heap[b]?
def Rs (P:Program) (gl:List (Nat×List Value)) (f:FuncId) (S:OSpec):Prop:=
 ∀(fz:Nat->Option (Array Value)) (w:World) (r:Reg) (a c:List Nat) (args:List Value) (x:S.root.Den) (y:Bz S.ts),Bs fz w->I6 gl w->(FF S.rb r++(a++c)).Nodup->(∀b,b∈FF S.rb r++(a++c)->fz b=none)->(∀p,p∈gl->p.1∉FF S.rb r++(a++c))->
  (S.rb=true->OW P w fz r S.root S.re x a)->(S.rb=false->a=[])->OX P w fz S.ts y args c->S.pre x y=true->
  Calls P f (Dm S.ri (aV S.rb r) args).toArray w (jB P S fz w r (a++c) (S.g x y))
def dG (P:Program) (t:TypeId) (l:List (TypeId×Nat)):Prop:=
 ∃a:Array Field,P.underlying t=some (.struct a)/\a.toList.map (λf=>(f.type,f.offset))=l/\(∀f,f∈a.toList->f.name≠ "_")/\P.stoodInHeld t=false/\P.eqGuardType P.depth t=false
structure VSpec where
 t:Ty
 e:TypeId
 pre:List t.Den->Bool
 g:List t.Den->List t.Den
def WQ (P:Program) (gl:List (Nat×List Value)) (f:FuncId) (S:VSpec):Prop:=
 ∀(r:Reg) (w:World) (a:List S.t.Den),I6 gl w->Am P (λ_=>r) 0 w (.vec S.t a S.e)->(∀p,p∈gl->¬r.Own p.1)->S.pre a=true->
  Calls P f #[r.sv] w λe w'=>e=.returned (.tuple #[])/\Am P (λ_=>r) 0 w' (.vec S.t (S.g a) S.e)/\w.heap.size<=w'.heap.size/\w'.os=w.os/\w'.output=w.output/\∀b,b<w.heap.size->¬r.Own b->w'.heap[b]?=w.heap[b]?
structure Env where
 T:TE
 G:Nat
 fn:FuncId->Option Func
 ext:FuncId->List Value->Option Value
 sum:FuncId->List Value->Option Value
 gl:List (Nat×List Value)
 spec:FuncId->Option PSpec
 mnz:FuncId->Option TypeId:=λ_=>none
 vt:TypeId->Option Ty:=λ_=>none
 cmp:TypeId->Option (List (TypeId×Nat)):=λ_=>none
 osp:FuncId->Option OSpec:=λ_=>none
 vsp:FuncId->Option VSpec:=λ_=>none
structure Env.OK (E:Env) (P:Program):Prop where
 T:E.T.OK P
 fn:∀f x,E.fn f=some x->P.funcs[f]?=some x/\x.body.isSome=true/\(x.name== "runtime.NumGoroutine")=false
 ext:∀f a v,E.ext f a=some v->∀(D:Nat->Prop) (ι:Nat->Reg) (a':Array Value) (w:World),AR D ι a.toArray a'->∃v',VR D ι v v'/\(callFunc f a').run P w=.ok (.value v') w
 sum:∀f a v,E.sum f a=some v->AW 8 v=true/\a.all (AW 8)=true/\∀w,I6 E.gl w->Calls P f a.toArray w λe w'=>e=.returned v/\Bx w w'
 gl:∀p,p∈E.gl->p.1<E.G/\p.2.all rV=true
 mixed:P.follows .mixedOrders=true
 spec:∀f S,E.spec f=some S->Gk P E.gl f S
 mnz:∀f e,E.mnz f=some e->∀(n:Nat) (w:World),n<=281474976710656->∃cs:Array Value,(callFunc f #[.int .i64 n]).run P w=.ok (.value (.slice (some ⟨w.heap.size,0,none⟩) n cs.size)) (w.drew.drew.alloc (.cells cs e))/\n<=cs.size
 cmp:∀t l,E.cmp t=some l->dG P t l
 osp:∀f S,E.osp f=some S->Rs P E.gl f S
 vsp:∀f S,E.vsp f=some S->WQ P E.gl f S
def GI (E:Env) (D:Nat->Prop) (ι:Nat->Reg):Prop:=∀g,g<E.G->D g/\(ι g).blk=g/\(ι g).base=0/\∀p,p∈E.gl->p.1=g->(ι g).room=p.2.length
theorem GI.b {E:Env} {D:Nat->Prop} {ι:Nat->Reg} (h:GI E D ι):∀g,g<E.G->D g/\(ι g).blk=g/\(ι g).base=0:=λg x=>⟨(h g x).1,(h g x).2.1,(h g x).2.2.1⟩
inductive OpR where
 |val (r:R)
 |enter (f:FuncId) (args:List Value)
def av (G:Nat) (s:Tr Value):Operand->Option Value
 | .tmp t=>s.get t
 | .const v=>bif AW 8 v then some v else none
 | .global g=>bif Nat.blt g G then some (.pointer (some ⟨g,0,none⟩)) else none
 | .func f=>some (.func (.func f) #[] #[])
def bD (G:Nat) (s:Tr Value):List Operand->Option (List Value)
 |[]=>some []
 |x::a=>match av G s x with
  |some v=>match bD G s a with
   |some l=>some (v::l)
   |none=>none
  |none=>none
def bE (G:Nat) (s:Tr Value):Option Operand->Option (Option Value)
 |none=>some none
 |some x=>match av G s x with
  |some v=>some (some v)
  |none=>none
def avp (G:Nat) (s:Tr Value):List (Nat×Operand)->Option (List (Nat×Value))
 |[]=>some []
 |(i,x)::a=>match av G s x with
  |some v=>match avp G s a with
   |some l=>some ((i,v)::l)
   |none=>none
  |none=>none
def A6 (σ:St):Option Value->Option OpR
 |some v=>some (.val ⟨v,σ,.nil⟩)
 |none=>none
def B6:Option R->Option OpR
 |some r=>some (.val r)
 |none=>none
def jC (P:Program) (T:TE) (op:BinOp) (t:TypeId) (ox oy:Operand) (x y:Value):Option Value:=
 match x,y with
 | .int k a,.int c b=>match op with
   | .shl=>Ps .shl k a b
   | .shr=>Ps .shr k a b
   |_=>if k=c then NL op k a b else none
 | .string a,.string b=>RZ op a b
 |_,_=>match cI T t x y,op with
  |some b,.eql=>some (.bool b)
  |some b,.neq=>some (.bool (!b))
  |_,_=>bif AW 8 x&&AW 8 y then
    match Kj P (do eqGuard op t ox oy x y;binOp op t x y) with
    |some v=>bif AW 8 v then some v else none
    |none=>none
   else none
def Ny (P:Program) (e:Sem Value):Option Value:=
 match Kj P e with
 |some v=>bif AW 8 v then some v else none
 |none=>none
def L1:Option TypeDesc->Bool
 |some (.int .u8)=>true
 |_=>false
def P4 (P:Program) (T:TE) (σ:St) (src dst:TypeId) (x:Value):Option R:=
 match T.und src,T.und dst,x with
 |some _,some (.int k),.int _ n=>some ⟨.int k (k.wrap n),σ,.nil⟩
 |some _,some .string,.string s=>some ⟨.string s,σ,.nil⟩
 |some _,some (.slice e),.string s=>bif L1 (T.und e) then Cm T σ e s else none
 |some (.slice e),some .string,.slice a l c=>bif L1 (T.und e) then Cl σ (.slice a l c) else none
 |some (.pointer t),some .unsafePointer,.pointer a=>NM T σ t (.pointer a)
 |some .unsafePointer,some (.pointer t),.pointer a=>Hh T σ t (.pointer a)
 |_,_,_=>bif AW 8 x then match Ny P (convert src dst x) with
   |some v=>some ⟨v,σ,.nil⟩
   |none=>none
  else none
def Fj (P:Program) (T:TE) (σ:St) (b:Builtin) (argTypes:Array TypeId) (ty:TypeId) (consts:Array Bool) (args:List Value):Option R:=
 match b,args with
 | .len,[.slice _ n _]=>match argTypes.toList with
   |t::_=>match T.und t with
    |some (.slice _)=>some ⟨goInt n,σ,.nil⟩
    |_=>none
   |_=>none
 | .len,[.string s]=>match argTypes.toList with
   |t::_=>match T.und t with
    |some .string=>some ⟨goInt s.size,σ,.nil⟩
    |_=>none
   |_=>none
 | .cap,[.slice _ _ c]=>match argTypes.toList with
   |t::_=>match T.und t with
    |some (.slice _)=>bif Nat.beq c Ew then none else some ⟨goInt c,σ,.nil⟩
    |_=>none
   |_=>none
 | .append,[s,x]=>GE T σ argTypes s x
 | .copy,[d,x]=>S9 T σ argTypes d x
 | .unsafeSliceData,[x]=>match Ix x with
   |some v=>some ⟨v,σ,.nil⟩
   |none=>none
 | .unsafeString,[x,.int _ n]=>match argTypes.toList with
   |a::_=>Hi T σ a x n
   |_=>none
 |_,_=>bif args.all (AW 8) then match Kj P (builtin b argTypes ty consts args.toArray) with
   |some (.value v)=>bif AW 8 v then some ⟨v,σ,.nil⟩ else none
   |_=>none
  else none
def X9 (P:Program) (E:Env) (s:Tr Value) (σ:St) (o:Oper):Option OpR:=
 match o.op with
 | .move x=>A6 σ (av E.G s x)
 | .assign x=>A6 σ (av E.G s x)
 | .pick c a b=>match av E.G s c with
   |some (.bool true)=>A6 σ (av E.G s a)
   |some (.bool false)=>A6 σ (av E.G s b)
   |_=>none
 | .alloc e=>B6 (Kg E.T σ e)
 | .box e x=>match av E.G s x with
   |some v=>bif Lu v then B6 (S6 E.T σ e v.cells.toList) else none
   |none=>none
 | .build t j=>match avp E.G s j.toList with
   |some l=>A6 σ (RV E.T t l)
   |none=>none
 | .buildSlice t n j=>match avp E.G s j.toList with
   |some l=>B6 (DL E.T σ t n l)
   |none=>none
 | .load t a=>match av E.G s a with
   |some v=>B6 (Ia E.T σ t v)
   |none=>none
 | .store t a x=>match av E.G s a,av E.G s x with
   |some v,some u=>B6 (Kh E.T σ t v u)
   |_,_=>none
 | .nilCheck x=>match av E.G s x with
   |some (.pointer (some a))=>A6 σ (some (.pointer (some a)))
   |some (.iface t v)=>A6 σ (some (.iface t v))
   |some (.func (.func f) a b)=>A6 σ (some (.func (.func f) a b))
   |_=>none
 | .binOp op t x y _=>match av E.G s x,av E.G s y with
   |some a,some b=>A6 σ (jC P E.T op t x y a b)
   |_,_=>none
 | .unOp op _ x=>match av E.G s x with
   |some (.bool b)=>match op with
    | .not=>A6 σ (some (.bool (!b)))
    |_=>none
   |some v=>A6 σ (bif AW 8 v then Ny P (Op.unary op v) else none)
   |none=>none
 | .convert src dst x=>match av E.G s x with
   |some v=>B6 (P4 P E.T σ src dst v)
   |none=>none
 | .makeInterface t x=>match av E.G s x,E.T.und t with
   |some v,some d=>match d with
    | .interface _=>none
    |_=>A6 σ (some (.iface t v))
   |_,_=>none
 | .makeFunc fn first captured=>match bD E.G s first.toList,bD E.G s captured.toList with
   |some l,some m=>A6 σ (some (.func fn l.toArray m.toArray))
   |_,_=>none
 | .makeSlice t l c=>match av E.G s l,av E.G s c with
   |some a,some b=>B6 (Dt E.T σ t a b)
   |_,_=>none
 | .slice t x lo k p=>match av E.G s x,bE E.G s lo,bE E.G s k,bE E.G s p with
   |some v,some l,some h,some m=>B6 (Kk E.T σ t v l h m)
   |_,_,_,_=>none
 | .fieldAddr t x f=>match av E.G s x with
   |some v=>B6 (Ds E.T σ t v f)
   |none=>none
 | .field t x f=>match av E.G s x with
   |some v=>A6 σ (RP E.T t v f)
   |none=>none
 | .indexAddr t x i=>match av E.G s x,av E.G s i with
   |some v,some u=>B6 (CG E.T σ t v u)
   |_,_=>none
 | .index t x i=>match av E.G s x,av E.G s i with
   |some v,some u=>A6 σ (RR E.T t v u)
   |_,_=>none
 | .range t x=>match av E.G s x with
   |some v=>B6 (Ko E.T σ t v)
   |none=>none
 | .next q isS=>match av E.G s q with
   |some v=>B6 (Pr σ v isS)
   |none=>none
 | .extract x i=>match av E.G s x with
   |some v=>A6 σ (Jd v i)
   |none=>none
 | .call c=>match bD E.G s c.args.toList with
   |some args=>match c.callee with
    | .builtin b=>B6 (Fj P E.T σ b c.argTypes o.type (c.args.map λ| .const _=>true|_=>false) args)
    | .value f=>match av E.G s f with
      |some (.func (.func g) first captured)=>match E.fn g with
       |some _=>some (.enter g (first.toList++args++captured.toList))
       |none=>A6 σ (E.ext g (first.toList++args++captured.toList))
      |_=>none
    |_=>none
   |none=>none
 |_=>none
section
variable {P:Program} {E:Env} (hE:E.OK P) {D:Nat->Prop} {ι:Nat->Reg} {σ:St} {w:World} {s:Tr Value} {ρ:Operand->Value}
def B8 (P:Program) (D:Nat->Prop) (ι:Nat->Reg) (σ:St) (w:World) (e:Sem Next) (r:R):Prop:=
 σ.next<=r.σ.next/\(σ.wf->r.σ.wf/\AFr σ r.σ r.φ)/\(σ.wf->(∀id,σ.rng r.σ id->¬D id)->HOn P D ι σ.H r.φ w->
  ∃a v' ι' w',e.run P w=.ok a w'/\(a=.value v'\/(a=.skip/\v'=undef))/\VR (λi=>D i\/σ.rng r.σ i) ι' r.v v'/\Post P D (σ.rng r.σ) ι σ.H w r.φ ι' r.σ.H w')
theorem AF.next {e:Sem Value} {r:R} (h:AF P D ι σ w e r):B8 P D ι σ w (do Pure.pure (.value (<-e))) r:=by
 obtain⟨d,f,g⟩:=h;refine⟨d,f,λa b c=> ?_⟩;obtain⟨v',ι',w',g1,i,g3⟩:=g a b c;exact⟨.value v',v',ι',w',by simp only[Sem.run_bind,g1,Result.andThen_ok,Sem.run_pure],.inl rfl,i,g3⟩
theorem AF.nextU {e:Sem Unit} {r:R} (h:AF P D ι σ w (do e;Pure.pure undef) r):B8 P D ι σ w (do e;Pure.pure .skip) r:=by
 obtain⟨g,i,j⟩:=h;refine⟨g,i,λa b c=> ?_⟩;obtain⟨v',ι',w',g1,k,g3⟩:=j a b c;simp only[Sem.run_bind] at g1;cases d:e.run P w with
 |ok u f=>
  rw[d] at g1;simp only[Result.andThen_ok,Sem.run_pure,Result.ok.injEq] at g1;obtain⟨rfl,rfl⟩:=g1;exact⟨.skip,undef,ι',f,by simp only[Sem.run_bind,d,Result.andThen_ok,Sem.run_pure],.inr ⟨rfl,rfl⟩,k,g3⟩
 |halt l f=>rw[d] at g1;simp at g1
def YA (G:Nat) (D:Nat->Prop) (ι:Nat->Reg) (s:Tr Value) (ρ:Operand->Value) (x:Operand):Prop:=∀v,av G s x=some v->VR D ι v (ρ x)
theorem GP {G:Nat}:∀(c:List Operand) (l:List Value),bD G s c=some l->(∀x,x∈c->YA G D ι s ρ x)->AR D ι l.toArray (c.map ρ).toArray
 |[],l,h,_=>by
  simp only[bD,Option.some.injEq] at h;subst h;exact⟨rfl,by simp⟩
 |x::c,l,h,f=>by
  simp only[bD] at h
  split at h
  ·rename_i v g
   split at h
   ·rename_i j k;cases h;obtain⟨m,n⟩:=GP c j k λy o=>f y (by simp[o])
    refine⟨by simpa using m,λi a b d e=> ?_⟩;rcases i with _|i
    ·simp at d e;subst d e;exact f x (by simp) v g
    ·exact n i a b (by simpa using d) (by simpa using e)
   ·cases h
  ·cases h
theorem GQ {G:Nat} {x:Option Operand} {v:Option Value} (h:bE G s x=some v) (a:∀y,x=some y->YA G D ι s ρ y):OR D ι v (x.map ρ):=by
 unfold bE at h
 split at h
 ·cases h;exact .none
 ·rename_i y
  split at h
  ·rename_i u b;cases h;exact .some _ _ (a y rfl u b)
  ·cases h
theorem Rt {G:Nat}:∀(a:List (Nat×Operand)) (l:List (Nat×Value)),avp G s a=some l->(∀x,x∈a.map (·.2)->YA G D ι s ρ x)->PR D ι l (a.map λ(i,x)=>(i,ρ x))
 |[],l,h,_=>by
  simp only[avp,Option.some.injEq] at h;subst h;exact .nil
 |(i,x)::a,l,h,b=>by
  simp only[avp] at h
  split at h
  ·rename_i v d
   split at h
   ·rename_i c e;cases h;exact .cons i v (ρ x) c _ (b x (by simp) v d) (Rt a c e λy f=>b y (by
     simp only[List.map_cons,List.mem_cons];exact .inr f))
   ·cases h
  ·cases h
theorem Hp {e:Sem Value} {v:Value} (h:Ny P e=some v):AF P D ι σ w e ⟨v,σ,.nil⟩:=by
 unfold Ny at h
 split at h
 ·rename_i u b;cases a:AW 8 u
  ·rw[a] at h;cases h
  ·rw[a] at h;cases h;exact Vh b a
 ·cases h
theorem DP {op:BinOp} {t:TypeId} {ox oy:Operand} {x y:Value} (a:x=.nilIface->y≠ .nilIface) (b:∀c,x≠ .agg c) (w:World):(eqGuard op t ox oy x y).run P w=.ok () w:=by
 have:eqGuard op t ox oy x y=Pure.pure ():=by
  cases op<;>first
   |rfl
   |(cases x<;>first
    |rfl
    |exact absurd rfl (b _)
    |(cases y<;>first|rfl|exact absurd rfl (a rfl)))
 rw[this];rfl
def notNum:Value->Bool
 | .int .. | .float .. | .complex .. | .string _| .chan (some _)| .tuple _=>false
 |_=>true
theorem VR.notNum {x a:Value} (h:VR D ι x a) (b:notNum x=true):notNum a=true:=by cases h<;>first|rfl|cases b
theorem LZ {T:TE} {t:TypeId} {x y:Value} {b:Bool} (h:cI T t x y=some b):notNum x=true:=by
 cases x<;>first|rfl|simp[cI] at h
theorem K0 {t:TypeId} {x y:Value} (h:notNum x=true):binOp .eql t x y=(do Pure.pure (.bool (<-Op.equal t x y))):=by
 cases x<;>first|rfl|cases h
theorem K1 {t:TypeId} {x y:Value} (h:notNum x=true):binOp .neq t x y=(do Pure.pure (.bool (!(<-Op.equal t x y)))):=by
 cases x<;>first|rfl|cases h
include hE
theorem WR {op:BinOp} {t:TypeId} {ox oy:Operand} {x y m n v:Value} (h:jC P E.T op t ox oy x y=some v) (f:VR D ι x m) (g:VR D ι y n):
  AF P D ι σ w (do eqGuard op t ox oy m n;binOp op t m n) ⟨v,σ,.nil⟩:=by
 unfold jC at h
 split at h
 ·rename_i k a s b;cases f;cases g;have i:=λw=>DP (P:=P) (op:=op) (t:=t) (ox:=ox) (oy:=oy) (x:=.int k a) (y:=.int s b) (by simp) (by simp) w
  have z:∀u,NL op k a b=some u->VR D ι u u:=λu c=>by
   cases op<;>simp only[NL] at c<;>first|(cases c;done)|(cases c;exact .int _ _)|(cases c;exact .bool _)|(split at c<;>cases c<;>exact .int _ _)
  have j:∀op u,Ps op k a b=some u->VR D ι u u:=λop u c=>by
   unfold Ps at c
   split at c
   ·cases c
   ·cases op<;>simp only at c<;>cases c<;>exact .int _ _
  split at h
  ·exact AF.pure (v':=v) (by simp only[Sem.run_bind,i,Result.andThen_ok];exact Pt h w) (j _ v h)
  ·exact AF.pure (v':=v) (by simp only[Sem.run_bind,i,Result.andThen_ok];exact Pt h w) (j _ v h)
  ·split at h
   ·rename_i A;subst A;exact AF.pure (v':=v) (by simp only[Sem.run_bind,i,Result.andThen_ok];exact Vm h w) (z v h)
   ·cases h
 ·rename_i a b;cases f;cases g;have i:=λw=>DP (P:=P) (op:=op) (t:=t) (ox:=ox) (oy:=oy) (x:=.string a) (y:=.string b) (by simp) (by simp) w
  have B:VR D ι v v:=by
   cases op<;>simp only[RZ] at h<;>first|(cases h;done)|(cases h;exact .bool _)|skip
   cases d:Nat.ble (a.size+b.size) 1099511627776
   ·rw[d] at h;cases h
   ·rw[d] at h;cases h;exact .string _
  refine AF.pure (v':=v) ?_ B;have e:binOp op t (.string a) (.string b)=Op.stringOp op a b:=by cases op<;>rfl
  simp only[Sem.run_bind,i,Result.andThen_ok,e];exact Vl h w
 ·split at h
  ·rename_i b d;cases h;obtain⟨o,p,q⟩:=TF hE.T d f g w;refine AF.pure (v':=.bool b) ?_ (.bool _);have r:=f.notNum (LZ d);simp only[Sem.run_bind,DP p q,Result.andThen_ok,K0 r,o,Sem.run_pure]
  ·rename_i b d;cases h;obtain⟨o,p,q⟩:=TF hE.T d f g w;refine AF.pure (v':=.bool (!b)) ?_ (.bool _);have r:=f.notNum (LZ d);simp only[Sem.run_bind,DP p q,Result.andThen_ok,K1 r,o,Sem.run_pure]
  ·cases l:(AW 8 x&&AW 8 y)
   ·rw[l] at h;cases h
   ·rw[l,cond_true] at h;rw[Bool.and_eq_true] at l;have C:=Df 8 x m l.1 f;have F:=Df 8 y n l.2 g;subst C F;exact Hp h
end
end Go.Eng
end
end
end
section
noncomputable section
noncomputable section
namespace Go.Eng
open Go
def rW (d:TypeDesc) (u v:Value):Option Bool:=
 match d,u,v with
 | .bool,.bool a,.bool b=>some (a==b)
 | .int _,.int k a,.int c b=>bif decide (k=c) then some (a==b) else none
 | .string,.string a,.string b=>some (C8 a==C8 b)
 |_,_,_=>none
def I7 (T:TE) (e f:List Value):List (TypeId×Nat)->Option Bool
 |[]=>some true
 |x::r=>match T.und x.1,e[x.2]?,f[x.2]? with
  |some d,some a,some b=>match Bm a,Bm b with
   |some u,some v=>match rW d u v,I7 T e f r with
    |some c,some g=>some (c&&g)
    |_,_=>none
   |_,_=>none
  |_,_,_=>none
def oO (T:TE) (cmp:TypeId->Option (List (TypeId×Nat))) (op:BinOp) (t:TypeId) (a b:Value):Option SV:=
 match a,b,cmp t with
 | .agg d,.agg e,some l=>match op with
   | .eql=>match I7 T d.toList e.toList l with
     |some c=>some (.bool c,[])
     |none=>none
   | .neq=>match I7 T d.toList e.toList l with
     |some c=>some (.bool (!c),[])
     |none=>none
   |_=>none
 |_,_,_=>none
def P5 (T:TE) (l:List TypeId) (t:TypeId):Option (List (TypeId×Nat)):=bif l.any (Nat.beq t) then match T.und t with
 |some (.struct a)=>some (a.toList.map λf=>(f.type,f.offset))
 |_=>none else none
def oP (P:Program) (l:List TypeId):Bool:=l.all λt=>match P.underlying t with
 |some (.struct a)=>a.toList.all (λf=>f.name != "_")&&(!(P.stoodInHeld t)&& !(P.eqGuardType P.depth t))
 |_=>false
section
variable {P:Program} {T:TE} (hT:T.OK P) {D:Nat->Prop} {ι:Nat->Reg}
include hT
theorem jD {n:Nat} {t:TypeId} {d:TypeDesc} {u v:Value} {c:Bool} (hd:T.und t=some d) (h:rW d u v=some c) (w:World):GC d=false/\(Op.equalIn (n+1) t u v).run P w=.ok c w:=by
 unfold rW at h
 split at h
 ·cases h;exact⟨rfl,run_equalIn_bool' w n t _ _ (hT.und t _ hd)⟩
 ·rename_i g k a f b;by_cases e:k=f
  ·subst e;simp only[decide_true,cond_true,Option.some.injEq] at h;subst h;exact⟨rfl,run_equalIn_int w n t _ _ _ _ (hT.und t _ hd)⟩
  ·simp[e] at h
 ·rename_i a b;cases h;refine⟨rfl,(run_equalIn_string w n t _ _ (hT.und t _ hd)).trans ?_⟩;rw[El,El]
 ·cases h
theorem Nz {s t i j:Array Value} (x:AR D ι s i) (y:AR D ι t j) (n:Nat) (w:World):∀(k:List Field) (c:Bool),(∀f,f∈k->f.name≠ "_")->I7 T s.toList t.toList (k.map λf=>(f.type,f.offset))=some c->
  (Op.eqFields (n+1) i j k).run P w=.ok c w
 |[],c,_,h=>by
  simp only[List.map_nil,I7,Option.some.injEq] at h;subst h;rfl
 |f::k,c,A,h=>by
  simp only[List.map_cons,I7] at h
  split at h
  ·rename_i d a b hd E F
   split at h
   ·rename_i u v G H
    split at h
    ·rename_i c1 c2 l p;cases h;obtain⟨o,I⟩:=jD hT (n:=n) hd l w;have get:∀{q e:Array Value} {z u:Value},AR D ι q e->q.toList[f.offset]?=some z->Bm z=some u->e[f.offset]?=some u:=by
      intro q e z u B l p;rw[Array.getElem?_toList] at l;have r:=(Array.getElem?_eq_some_iff.1 l).1;have m:f.offset<e.size:=by rw[<-B.1];exact r
      have C:e[f.offset]?=some e[f.offset]:=Array.getElem?_eq_getElem m;have:=B.2 f.offset _ _ l C;rw[C,(AZ p this).1]
     have J:(part f.type i f.offset).run P w=.ok u w:=by
      simp only[part,Sem.run_bind,CW hT hd,o,Result.andThen_ok,Bool.false_eq_true,if_false,get x E G,Sem.run_pure]
     have K:(part f.type j f.offset).run P w=.ok v w:=by
      simp only[part,Sem.run_bind,CW hT hd,o,Result.andThen_ok,Bool.false_eq_true,if_false,get y F H,Sem.run_pure]
     have L:=Nz x y n w k c2 (λg o=>A g (List.mem_cons_of_mem _ o)) p;simp only[Op.eqFields,if_pos (A f (List.mem_cons_self ..)),Sem.run_bind,J,K,I,Result.andThen_ok];cases c1
     ·simp
     ·simp[L]
    ·cases h
   ·cases h
  ·cases h
theorem dH {cmp:TypeId->Option (List (TypeId×Nat))} (u:∀t l,cmp t=some l->dG P t l) {op:BinOp} {t:TypeId} {ox oy:Operand} {a b k m v:Value} {x:List Bool} (h:oO T cmp op t a b=some (v,x)) (y:VR D ι a k) (z:VR D ι b m) (w:World):
  (do eqGuard op t ox oy k m;binOp op t k m).run P w=.ok v w/\IX v=true:=by
 unfold oO at h
 split at h
 ·rename_i p q l A;obtain⟨n,r,rfl,B,i,C⟩:=u _ _ A;obtain⟨d,rfl,E⟩:∃d,k=.agg d/\AR D ι p d:=by
   cases y with|agg _ bs i o=>exact⟨bs,rfl,i,o⟩
  obtain⟨e,rfl,F⟩:∃e,m=.agg e/\AR D ι q e:=by
   cases z with|agg _ bs i o=>exact⟨bs,rfl,i,o⟩
  have s:P.fieldsOf t=n:=by unfold Program.fieldsOf;rw[r]
  have key:∀c,I7 T p.toList q.toList (n.toList.map λf=>(f.type,f.offset))=some c->(Op.equalIn 10000 t (.agg d) (.agg e)).run P w=.ok c w:=λc g=>by
   rw[show(10000:Nat)=9999+1 from rfl,run_equalIn_struct w 9999 t d e (by rw[s];exact r) i,s];exact Nz hT E F 9998 w n.toList c B g
  have j:∀op,(eqGuard op t ox oy (.agg d) (.agg e)).run P w=.ok () w:=λop=>run_eqGuard_agg w op t ox oy d e C
  split at h
  ·split at h
   ·rename_i c g;cases h;exact⟨by simp only[Sem.run_bind,j,Result.andThen_ok,run_eql_struct,key c g],rfl⟩
   ·cases h
  ·split at h
   ·rename_i c g;cases h;exact⟨by simp only[Sem.run_bind,j,Result.andThen_ok,run_neq_struct,key c g],rfl⟩
   ·cases h
  ·cases h
 ·cases h
theorem Jw {l:List TypeId} (h:oP P l=true):∀t b,P5 T l t=some b->dG P t b:=by
 intro t b a;unfold P5 at a;cases c:l.any (Nat.beq t)
 ·rw[c] at a;cases a
 rw[c,cond_true] at a
 split at a
 ·rename_i f d;cases a;obtain⟨x,g,e⟩:=List.any_eq_true.1 c;have e:=Nat.eq_of_beq_eq_true e;subst e;have:=List.all_eq_true.1 h t g;rw[hT.und t _ d] at this;simp only[Bool.and_eq_true,Bool.not_eq_true',List.all_eq_true,bne_iff_ne,ne_eq] at this;exact⟨f,hT.und t _ d,rfl,this.1,this.2.1,this.2.2⟩
 ·cases a
end
end Go.Eng
end
end
end
section
noncomputable section
noncomputable section
namespace Go.Eng
open Go
section
variable {P:Program} {E:Env} (hE:E.OK P) {D:Nat->Prop} {ι:Nat->Reg} {σ:St} {w:World} {s:Tr Value} {ρ:Operand->Value}
theorem Fk {d:Option TypeDesc} (h:L1 d=true):d=some (.int .u8):=by
 unfold L1 at h
 split at h
 ·rfl
 ·cases h
theorem K2 {l:List Value} {a:Array Value} (h:l.all (AW 8)=true) (b:AR D ι l.toArray a):a=l.toArray:=by
 refine Array.ext (by rw[<-b.1]) λi c d=> ?_
 rw[List.all_eq_true] at h;have e:i<l.length:=by simpa using d
 exact Df 8 _ _ (h l[i] (List.getElem_mem e)) (b.2 i l[i] a[i] (by simp) (Array.getElem?_eq_getElem c))
theorem AR.two {x y:Value} {a:Array Value} (h:AR D ι [x,y].toArray a):∃b c,a=#[b,c]/\VR D ι x b/\VR D ι y c:=by
 obtain⟨e,d⟩:=h;have f:a.size=2:=by simpa using e.symm
 refine⟨a[0],a[1],?_,d 0 x a[0] rfl (Array.getElem?_eq_getElem (by omega)),d 1 y a[1] rfl (Array.getElem?_eq_getElem (by omega))⟩;apply Array.ext
 ·simp[f]
 ·intro i g1 g
  match i,g with
  |0,_=>rfl
  |1,_=>rfl
theorem AR.one {x:Value} {a:Array Value} (h:AR D ι [x].toArray a):∃b,a=#[b]/\VR D ι x b:=by
 obtain⟨c,d⟩:=h;have e:a.size=1:=by simpa using c.symm
 refine⟨a[0],?_,d 0 x a[0] rfl (Array.getElem?_eq_getElem (by omega))⟩;apply Array.ext
 ·simp[e]
 ·intro i g1 f
  match i,f with
  |0,_=>rfl
include hE
theorem To {src dst:TypeId} {x m:Value} {r:R} (h:P4 P E.T σ src dst x=some r) (i:VR D ι x m):AF P D ι σ w (convert src dst m) r:=by
 unfold P4 at h
 split at h
 ·rename_i d k K n f g;cases h;cases i;refine AF.pure (v':=.int k (k.wrap n)) ?_ (.int _ _);simp only[convert,Sem.run_bind,AK hE.T f,AK hE.T g,Result.andThen_ok,Conv.intToInt,Sem.run_pure]
 ·rename_i d C f g;cases h;cases i;refine AF.pure (v':=.string C) ?_ (.string _);simp only[convert,Sem.run_bind,AK hE.T f,AK hE.T g,Result.andThen_ok,Sem.run_pure]
 ·rename_i d e C f g;cases i;cases j:L1 (E.T.und e)
  ·rw[j] at h;cases h
  ·rw[j,cond_true] at h;have o:=Fk j;obtain⟨g1,p,g3⟩:=Hf (w:=w) (D:=D) (ι:=ι) hE.T h;refine⟨g1,p,λa b c=> ?_⟩;obtain⟨v',ι',w',q,s,u⟩:=g3 a b c;refine⟨v',ι',w',?_,s,u⟩;simp only[convert,Sem.run_bind,AK hE.T f,AK hE.T g,Result.andThen_ok,AK hE.T o]
   exact q
 ·rename_i e a l c f g;cases j:L1 (E.T.und e)
  ·rw[j] at h;cases h
  ·rw[j,cond_true] at h;have o:=Fk j;obtain⟨g1,p,g3⟩:=He (P:=P) (w:=w) (D:=D) (ι:=ι) h i;refine⟨g1,p,λa b c=> ?_⟩;obtain⟨v',ι',w',q,s,u⟩:=g3 a b c;refine⟨v',ι',w',?_,s,u⟩;have y:∃F G H,m=.slice F G H:=by cases i<;>exact⟨_,_,_,rfl⟩
   obtain⟨F,G,H,rfl⟩:=y;simp only[convert,Sem.run_bind,AK hE.T f,AK hE.T g,Result.andThen_ok,AK hE.T o];exact q
 ·rename_i t a f g;have z:=hE.T.und _ _ f;have A:=hE.T.und _ _ g;exact Ra hE.T z A h i
 ·rename_i t a f g;have z:=hE.T.und _ _ f;have A:=hE.T.und _ _ g;exact NO hE.T z A h i
 ·rename_i x _ _ _ _ _ _ _ _ _;cases B:AW 8 x
  ·rw[B] at h;cases h
  ·rw[B,cond_true] at h;have I:=Df 8 x m B i;subst I
   split at h
   ·rename_i v J;cases h;exact Hp J
   ·cases h
theorem N0 {b:Builtin} {argTypes:Array TypeId} {ty:TypeId} {consts:Array Bool} {args:List Value} {f:Array Value} {r:R}
  (h:Fj P E.T σ b argTypes ty consts args=some r) (g:AR D ι args.toArray f):B8 P D ι σ w (builtin b argTypes ty consts f) r:=by
 have u:∀t l,argTypes.toList=t::l->argTypes[0]?=some t:=λt l e=>by rw[<-Array.getElem?_toList,e];rfl
 unfold Fj at h
 split at h
 ·rename_i a n c;obtain⟨i,rfl,d⟩:=g.one
  split at h
  ·rename_i t l j
   split at h
   ·rename_i e o;cases h;have k:∃m x,i=.slice m n x:=by cases d<;>exact⟨_,_,rfl⟩
    obtain⟨m,x,rfl⟩:=k;refine AF.next (e:=Builtin.len_ argTypes ty #[.slice m n x]) (AF.pure (v':=goInt n) ?_ (.int _ _));simp only[Builtin.len_,u _ _ j,List.getElem?_toArray,List.getElem?_cons_zero,Sem.run_bind,AK hE.T o,Result.andThen_ok,Sem.run_pure]
   ·cases h
  ·cases h
 ·rename_i B;obtain⟨i,rfl,d⟩:=g.one;cases d
  split at h
  ·rename_i t l j
   split at h
   ·rename_i o;cases h;refine AF.next (e:=Builtin.len_ argTypes ty #[.string B]) (AF.pure (v':=goInt B.size) ?_ (.int _ _));simp only[Builtin.len_,u _ _ j,List.getElem?_toArray,List.getElem?_cons_zero,Sem.run_bind,AK hE.T o,Result.andThen_ok,Sem.run_pure]
   ·cases h
  ·cases h
 ·rename_i a n c;obtain⟨i,rfl,d⟩:=g.one
  split at h
  ·rename_i t l j
   split at h
   ·rename_i e o;cases s:Nat.beq c Ew
    ·rw[s] at h;cases h;have p:c≠Ew:=λe=>by rw[Cc e] at s;cases s
     have k:∃m,i=.slice m n c:=by
      cases d with
      |slN _ _=>exact⟨_,rfl⟩
      |slK _ _ _ _ _ _=>exact⟨_,rfl⟩
      |slU _ _ _ _ _ _ _=>exact absurd rfl p
      |slE _ _ _ _ _ _ _=>exact absurd rfl p
     obtain⟨m,rfl⟩:=k;refine AF.next (e:=Builtin.cap_ argTypes ty #[.slice m n c]) (AF.pure (v':=goInt c) ?_ (.int _ _));simp only[Builtin.cap_,u _ _ j,List.getElem?_toArray,List.getElem?_cons_zero,Sem.run_bind,AK hE.T o,Result.andThen_ok,Sem.run_pure]
    ·rw[s] at h;cases h
   ·cases h
  ·cases h
 ·obtain⟨i,C,rfl,d,q⟩:=g.two;exact AF.next (FN hE.T h d q)
 ·obtain⟨i,C,rfl,d,q⟩:=g.two;exact AF.next (TA hE.T h d q)
 ·obtain⟨i,rfl,d⟩:=g.one
  split at h
  ·rename_i v y;cases h;exact AF.next (Kp y d)
  ·cases h
 ·obtain⟨i,C,rfl,d,q⟩:=g.two;cases q
  split at h
  ·rename_i H F j;exact AF.next (NP hE.T j h d)
  ·cases h
 ·cases z:args.all (AW 8)
  ·rw[z] at h;cases h
  ·rw[z,cond_true] at h;have e:=K2 z g;subst e
   split at h
   ·rename_i v y;cases A:AW 8 v
    ·rw[A] at h;cases h
    ·rw[A,cond_true] at h;cases h;refine⟨Nat.le_refl _,λG=>⟨G,AFr.refl _ _⟩,λ_ _ _=>⟨.value v,v,ι,w,ND P _ _ y w,.inl rfl,(Ar 8 v A).mono (λ_=>.inl) λ_ _=>rfl,Post.same (St.rng_self σ) rfl rfl rfl rfl rfl⟩⟩
   ·cases h
omit hE
theorem A5 {v:Option Value} {r:R} (h:A6 σ v=some (.val r)):∃u,v=some u/\r=⟨u,σ,.nil⟩:=by
 unfold A6 at h
 split at h
 ·cases h;exact⟨_,rfl,rfl⟩
 ·cases h
theorem AX {v:Option R} {r:R} (h:B6 v=some (.val r)):v=some r:=by
 unfold B6 at h
 split at h
 ·cases h;rfl
 ·cases h
theorem La {v:Option Value} {f:FuncId} {a:List Value}:A6 σ v≠some (.enter f a):=by
 unfold A6;split<;>simp
theorem GR {v:Option R} {f:FuncId} {a:List Value}:B6 v≠some (.enter f a):=by
 unfold B6;split<;>simp
theorem B8.value {v v':Value} {e:Sem Next} (h:e.run P w=.ok (.value v') w) (a:VR D ι v v'):B8 P D ι σ w e ⟨v,σ,.nil⟩:=
 ⟨Nat.le_refl _,λb=>⟨b,AFr.refl _ _⟩,λ_ _ _=>⟨.value v',v',ι,w,h,.inl rfl,a.mono (λ_=>.inl) λ_ _=>rfl,Post.same (St.rng_self σ) rfl rfl rfl rfl rfl⟩⟩
theorem GS {c:Call} {f:Operand} {ty:TypeId} {g:FuncId} {first captured:Array Value} (a:c.callee=.value f) (b:ρ f=.func (.func g) first captured) (w:World):
  (do let d<-resolve ρ c ty;invoke d.target d.args:Sem Next).run P w=(callFunc g (first++c.args.map ρ++captured)).run P w:=by
 simp only[resolve,a,Deferred.ofValue,b,Sem.run_bind,Sem.run_pure,Result.andThen_ok,invoke]
theorem AR.catN {a b c:List Value} {g h f:Array Value} (k:AR D ι a.toArray g) (l:AR D ι b.toArray h) (m:AR D ι c.toArray f):AR D ι (a++b++c).toArray (g++h++f):=by
 have p:a.length=g.size:=by simpa using k.1
 have q:b.length=h.size:=by simpa using l.1
 have r:c.length=f.size:=by simpa using m.1
 refine⟨by simp;omega,λi v v' e d=> ?_⟩;simp only[List.getElem?_toArray] at e;by_cases n:i<(a++b).length
 ·rw[List.getElem?_append_left n] at e;obtain⟨u,o,j⟩:=AR.append k l f i v e;rw[o] at d;cases d;exact j
 ·rw[List.getElem?_append_right (by omega)] at e;rw[Array.getElem?_append_right (by simp at n⊢;omega)] at d;refine m.2 _ v v' (by simpa using e) ?_;rw[<-d];congr 1;simp;omega
include hE
theorem jE {o:Oper} {r:R} (h:X9 P E s σ o=some (.val r)) (_hok:r.σ.Ok) (j:∀x,x∈o.op.operands->YA E.G D ι s ρ x):B8 P D ι σ w (execOp ρ o) r:=by
 have pv:∀(x:Operand) (r:R),A6 σ (av E.G s x)=some (.val r)->YA E.G D ι s ρ x->B8 P D ι σ w (Pure.pure (.value (ρ x))) r:=by
  intro x r h hr;obtain⟨u,p,rfl⟩:=A5 h;exact B8.value rfl (hr u p)
 unfold X9 at h;unfold execOp
 split at h
 ·rename_i x k;simp only[k,Op.operands] at j⊢;exact pv x r h (j x (by simp))
 ·rename_i x k;simp only[k,Op.operands] at j⊢;exact pv x r h (j x (by simp))
 ·rename_i c a b k;simp only[k,Op.operands] at j⊢
  split at h
  ·rename_i A;have e:=j c (by simp) _ A;obtain⟨u,p,rfl⟩:=A5 h;refine B8.value (v':=ρ a) ?_ (j a (by simp) u p);generalize ρ c=rc at e;cases e;simp only[Sem.run_bind,asBool,Sem.run_pure,Result.andThen_ok,if_true]
  ·rename_i A;have e:=j c (by simp) _ A;obtain⟨u,p,rfl⟩:=A5 h;refine B8.value (v':=ρ b) ?_ (j b (by simp) u p);generalize ρ c=rc at e;cases e;simp only[Sem.run_bind,asBool,Sem.run_pure,Result.andThen_ok,Bool.false_eq_true,if_false]
  ·cases h
 ·rename_i H k;simp only[k];exact AF.next (RM hE.T (AX h))
 ·rename_i H x k;simp only[k,Op.operands] at j⊢
  split at h
  ·rename_i v q;cases N:Lu v
   ·rw[N] at h;cases h
   ·rw[N,cond_true] at h;exact AF.next (Vg hE.T (AX h) (j x (by simp) v q) N)
  ·cases h
 ·rename_i t ps k;simp only[k,Op.operands] at j⊢
  split at h
  ·rename_i l B;obtain⟨u,p,rfl⟩:=A5 h;have C:=Rt _ _ B λx z=>j x (by simpa using z)
   exact AF.next (RW hE.T p (by simpa using C))
  ·cases h
 ·rename_i t n ps k;simp only[k,Op.operands] at j⊢
  split at h
  ·rename_i l B;have C:=Rt _ _ B λx z=>j x (by simpa using z)
   exact AF.next (Jg hE.T (AX h) (by simpa using C))
  ·cases h
 ·rename_i t a k;simp only[k,Op.operands] at j⊢
  split at h
  ·rename_i v q;exact AF.next (S7 hE.T (AX h) (j a (by simp) v q))
  ·cases h
 ·rename_i t a x k;simp only[k,Op.operands] at j⊢
  split at h
  ·rename_i v u q p;exact AF.nextU (RO hE.T (AX h) (j a (by simp) v q) (j x (by simp) u p))
  ·cases h
 ·rename_i x k;simp only[k,Op.operands] at j⊢
  split at h
  ·rename_i a q;have e:=j x (by simp) _ q;obtain⟨u,p,rfl⟩:=A5 h;cases p;obtain⟨I,J⟩:=e.ptr_shape;rw[J] at e;exact B8.value (v':=.pointer (some I)) (by rw[J];rfl) e
  ·rename_i t v q;have e:=j x (by simp) _ q;obtain⟨u,p,rfl⟩:=A5 h;cases p;generalize ρ x=rx at e;cases e with|iface _ _ v' h=>exact B8.value (v':=.iface t v') rfl (.iface _ _ _ h)
  ·rename_i f a b q;have e:=j x (by simp) _ q;obtain⟨u,p,rfl⟩:=A5 h;cases p;generalize ρ x=rx at e;cases e with|func _ _ I _ O Q S U V=>exact B8.value (v':=.func (.func f) I O) rfl (.func _ _ _ _ _ Q S U V)
  ·cases h
 ·rename_i op t x y ty k;simp only[k,Op.operands] at j⊢
  split at h
  ·rename_i a b W K;obtain⟨u,p,rfl⟩:=A5 h;exact AF.next (WR hE p (j x (by simp) a W) (j y (by simp) b K))
  ·cases h
 ·rename_i op t x k;simp only[k,Op.operands] at j⊢
  split at h
  ·rename_i b q
   split at h
   ·have e:=j x (by simp) _ q;obtain⟨u,p,rfl⟩:=A5 h;cases p;generalize ρ x=rx at e;cases e;exact B8.value (v':=.bool (!b)) rfl (.bool _)
   ·cases h
  ·rename_i v hno q;obtain⟨u,p,rfl⟩:=A5 h;cases C:AW 8 v
   ·rw[C] at p;cases p
   ·rw[C,cond_true] at p;have e:=Df 8 _ _ C (j x (by simp) v q);rw[e];exact AF.next (Hp p)
  ·cases h
 ·rename_i src dst x k;simp only[k,Op.operands] at j⊢
  split at h
  ·rename_i v q;exact AF.next (To hE (AX h) (j x (by simp) v q))
  ·cases h
 ·rename_i t x k;simp only[k,Op.operands] at j⊢
  split at h
  ·rename_i v d q hd;have L:(∀m,d≠ .interface m)/\A6 σ (some (.iface t v))=some (.val r):=by
    split at h
    ·cases h
    ·rename_i hn;exact⟨λm e=>hn m e,h⟩
   obtain⟨u,p,rfl⟩:=A5 L.2;cases p;refine AF.next (AF.pure (v':=.iface t (ρ x)) ?_ (.iface _ _ _ (j x (by simp) v q)));simp only[Instr.makeInterface,Sem.run_bind,AK hE.T hd,Result.andThen_ok]
   split
   ·rename_i m;exact absurd rfl (L.1 m)
   ·rfl
  ·cases h
 ·rename_i fn first captured k
  simp only[k,Op.operands] at j⊢
  split at h
  ·rename_i l m B X;obtain⟨u,p,rfl⟩:=A5 h;cases p;have Y:=GP (ρ:=ρ) _ _ B λx z=>j x (by simp at z⊢;exact .inl z)
   have Z:=GP (ρ:=ρ) _ _ X λx z=>j x (by simp at z⊢;exact .inr z)
   have q1:(first.toList.map ρ).toArray=first.map ρ:=by apply Array.ext';simp
   have q2:(captured.toList.map ρ).toArray=captured.map ρ:=by apply Array.ext';simp
   rw[q1] at Y;rw[q2] at Z;exact AF.next (AF.pure (v':=.func fn (first.map ρ) (captured.map ρ)) rfl (.func _ _ _ _ _ Y.1 Z.1 Y.2 Z.2))
  ·cases h
 ·rename_i t l c k;simp only[k,Op.operands] at j⊢
  split at h
  ·rename_i a b W K;exact AF.next (Km hE.T (AX h) (j l (by simp) a W) (j c (by simp) b K))
  ·cases h
 ·rename_i t x lo hi mx k;simp only[k,Op.operands] at j⊢
  split at h
  ·rename_i v l h' m q B hh X;exact AF.next (RT hE.T (AX h) (j x (by simp) v q) (GQ B λy e=>j y (by subst e;simp)) (GQ hh λy e=>j y (by subst e;simp)) (GQ X λy e=>j y (by subst e;simp)))
  ·cases h
 ·rename_i t x f k;simp only[k,Op.operands] at j⊢
  split at h
  ·rename_i v q;exact AF.next (Ki hE.T (AX h) (j x (by simp) v q))
  ·cases h
 ·rename_i t x f k;simp only[k,Op.operands] at j⊢
  split at h
  ·rename_i v q;obtain⟨u,p,rfl⟩:=A5 h;exact AF.next (RQ hE.T p (j x (by simp) v q))
  ·cases h
 ·rename_i t x i k;simp only[k,Op.operands] at j⊢
  split at h
  ·rename_i v u q p;exact AF.next (AA6 hE.T (AX h) (j x (by simp) v q) (j i (by simp) u p))
  ·cases h
 ·rename_i t x i k;simp only[k,Op.operands] at j⊢
  split at h
  ·rename_i v u q p;obtain⟨u',hu',rfl⟩:=A5 h;exact AF.next (RS hE.T hu' (j x (by simp) v q) (j i (by simp) u p))
  ·cases h
 ·rename_i t x k;simp only[k,Op.operands] at j⊢
  split at h
  ·rename_i v q;exact AF.next (RX hE.T (AX h) (j x (by simp) v q))
  ·cases h
 ·rename_i it isS k;simp only[k,Op.operands] at j⊢
  split at h
  ·rename_i v q;exact AF.next (TC (AX h) (j it (by simp) v q))
  ·cases h
 ·rename_i x i k;simp only[k,Op.operands] at j⊢
  split at h
  ·rename_i v q;obtain⟨u,p,rfl⟩:=A5 h;exact AF.next (ABE p (j x (by simp) v q))
  ·cases h
 ·rename_i c k;simp only[k,Op.operands,Call.operands] at j⊢
  split at h
  ·rename_i args F;have ea:=GP (ρ:=ρ) _ _ F λx z=>j x (by simp at z⊢;exact .inr z)
   have q1:(c.args.toList.map ρ).toArray=c.args.map ρ:=by apply Array.ext';simp
   rw[q1] at ea
   split at h
   ·rename_i b A;have K:=N0 hE (w:=w) (AX h) ea;have e:(do let d<-resolve ρ c o.type;invoke d.target d.args:Sem Next)=builtin b c.argTypes o.type (c.args.map λ| .const _=>true|_=>false) (c.args.map ρ):=by
     simp only[resolve,A];rfl
    rw[e];exact K
   ·rename_i f A
    split at h
    ·rename_i g first captured hf
     split at h
     ·cases h
     ·obtain⟨u,p,rfl⟩:=A5 h;have ef:=j f (by simp[A]) _ hf;generalize hrf:ρ f=rf at ef;cases ef with
      |func _ _ I _ O Q S U V=>
       have M:AR D ι (first.toList++args++captured.toList).toArray (I++c.args.map ρ++O):=AR.catN ⟨by simpa using Q,by simpa using U⟩ ea ⟨by simpa using S,by simpa using V⟩;obtain⟨u',x1,x2⟩:=hE.ext _ _ _ p D ι _ w M;refine B8.value (v':=u') ?_ x1;rw[GS A hrf];exact x2
    ·cases h
   ·cases h
  ·cases h
 ·cases h
theorem Z5 {o:Oper} {f:FuncId} {args:List Value} (h:X9 P E s σ o=some (.enter f args)) (e:∀x,x∈o.op.operands->YA E.G D ι s ρ x):
  ∃a fn,AR D ι args.toArray a/\E.fn f=some fn/\(execOp ρ o).run P w=.ok (.enter f a) w:=by
 unfold X9 at h;unfold execOp;simp only[Bool.cond_eq_ite] at h
 split at h
 case h_25 c ho=>
  simp only[ho,Op.operands,Call.operands] at e⊢
  split at h
  ·rename_i as b;have j:=GP (ρ:=ρ) _ _ b λx k=>e x (by simp at k⊢;exact .inr k)
   have n:(c.args.toList.map ρ).toArray=c.args.map ρ:=by apply Array.ext';simp
   rw[n] at j
   split at h
   ·exact absurd h GR
   ·rename_i g l
    split at h
    ·rename_i A first captured p
     split at h
     ·rename_i fn d;cases h;have m:=e g (by simp[l]) _ p;generalize i:ρ g=B at m;cases m with
      |func _ _ C _ F q r t u=>
       refine⟨_,fn,AR.catN ⟨by simpa using q,by simpa using t⟩ j ⟨by simpa using r,by simpa using u⟩,d,?_⟩;rw[GS l i];obtain⟨v,H,y⟩:=hE.fn _ _ d;have z:fn.body.isNone=false:=by cases I:fn.body<;>simp_all
       simp only[callFunc,Sem.run_bind,run_program,Result.andThen_ok,v,y,Bool.false_eq_true,if_false,z,Sem.run_pure]
     ·exact absurd h La
    ·cases h
   ·cases h
  ·cases h
 all_goals (repeat' split at h)<;>first|exact absurd h La|exact absurd h GR|cases h
