/-
  The engine, part 6: an abstract evaluator over the model's code, proved sound. No condition.
-/
import Derived.Test.YtikedhemjoljpaaGreatDoorEng5
section
noncomputable section
noncomputable section
namespace Go.Eng
open Go
def OT.dflt:(t:OT)→t.Den
 | .d t=>t.dflt
 | .vec t _=>([]:List t.Den)
 | .unit=>()
 | .pair a b=>(a.dflt,b.dflt)
 | .ptr a _=>a.dflt
 | .con _=>()
def matO:(t:OT)→t.Den→St→List Value×St
 | .d t,x,σ=>mat (dcs t x) σ
 | .vec t e,xs,σ=>([dt σ.next],σ.new (.vec t xs e))
 | .unit,_,σ=>([],σ)
 | .pair a b,x,σ=>match matO a x.1 σ with
   |(vs,σ1)=>match matO b x.2 σ1 with
    |(us,σ2)=>(vs++us,σ2)
 | .ptr a e,x,σ=>match matO a x σ with
   |(vs,σ1)=>([.pointer (some ⟨σ1.next,0,none⟩)],σ1.new (.row vs e false))
 | .con vs,_,σ=>(vs,σ)
def headV:List Value→Value
 |v::_=>v
 |[]=>undef
def matR:(rs:List OT)→DenO rs→St→List Value×St
 |[],_,σ=>([],σ)
 |r::rs,y,σ=>match matO r y.1 σ with
  |(vs,σ1)=>match matR rs y.2 σ1 with
   |(ws,σ2)=>((bif r.agg then .agg vs.toArray else headV vs)::ws,σ2)
structure MatA (σ σ':St):Prop where
 le:σ.next≤σ'.next
 pc:σ'.pc=σ.pc
 old:∀id,¬σ.rng σ' id→σ'.heap.get id=σ.heap.get id
theorem MatA.refl (σ:St):MatA σ σ:=⟨Nat.le_refl _,rfl,fun _ _=>rfl⟩
theorem MatA.trans {σ σ1 σ2:St} (a:MatA σ σ1) (b:MatA σ1 σ2):MatA σ σ2:=
 ⟨Nat.le_trans a.le b.le,b.pc.trans a.pc,fun id h=>by
  have h1:=a.le;have h2:=b.le;rw[b.old id fun hr=>h ⟨by have:=hr.1;omega,hr.2⟩,a.old id fun hr=>h ⟨hr.1,by have:=hr.2;omega⟩]⟩
theorem MatA.new (σ:St) (o:AO):MatA σ (σ.new o):=
 ⟨by simp[St.new],rfl,fun id h=>by
  have:id≠σ.next:=fun e=>h (by subst e;simp[St.rng,St.new])
  simp only[St.new,Tr.set_get,if_neg this]⟩
theorem MatA.wf {σ σ':St} (a:MatA σ σ') (h:σ.wf):σ'.wf:=fun id hid=>by
 have:=a.le;rw[a.old id fun hr=>by have:=hr.2;omega];exact h id (by omega)
theorem mat_a:∀(l:List DC) (σ:St),MatA σ (mat l σ).2
 |[],σ=>.refl σ
 | .v x::r,σ=>by simp only[mat];exact mat_a r σ
 | .s t xs::r,σ=>by simp only[mat];exact(MatA.new σ _).trans (mat_a r _)
 | .e b::r,σ=>by simp only[mat];exact mat_a r σ
 | .k x::r,σ=>by simp only[mat];exact mat_a r σ
 | .j::r,σ=>by simp only[mat];exact mat_a r σ
theorem matO_a:∀(t:OT) (x:t.Den) (σ:St),MatA σ (matO t x σ).2:=by
 intro t
 induction t with
 |d t=>intro x σ;exact mat_a _ _
 |vec t e=>intro x σ;exact .new _ _
 |unit=>intro x σ;exact .refl _
 |pair a b iha ihb=>intro x σ;exact(iha x.1 σ).trans (ihb x.2 _)
 |ptr a e ih=>intro x σ;exact(ih x σ).trans (.new _ _)
 |con vs=>intro x σ;exact .refl _
theorem matR_a:∀(rs:List OT) (y:DenO rs) (σ:St),MatA σ (matR rs y σ).2
 |[],_,_=>.refl _
 |r::rs,y,σ=>(matO_a r y.1 σ).trans (matR_a rs y.2 _)
section
variable {P:Program} {w:World} {fz:Nat→Option (Array Value)}
structure MatP (P:Program) (w:World) (fz:Nat→Option (Array Value)) (own:List Nat) (D:Nat→Prop) (ι:Nat→Reg) (σ σ':St) (ι':Nat→Reg):Prop where
 a:MatA σ σ'
 io:∀id,¬σ.rng σ' id→ι' id=ι id
 new:∀id,σ.rng σ' id→∃o,σ'.heap.get id=some o∧HdrOK P ι' id w o.hd∧∀k v,cellOf (some o) k=some v→CellOK (fun i=>D i∨σ.rng σ' i) ι' id w k v
 own:∀id,σ.rng σ' id→∀b,(ι' id).Own b→b∈own
 dist:∀i j,σ.rng σ' i→σ.rng σ' j→i≠j→∀b,(ι' i).Own b→¬(ι' j).Own b
 fz:∀id,σ.rng σ' id→∀b c,(ι' id).fz b=some c→fz b=some c
theorem HdrOK.as {ι ι0:Nat→Reg} {k c:Nat} {x:Hd} (h:HdrOK P ι k w x) (e:ι0 c=ι k):HdrOK P ι0 c w x:=by
 cases x<;>simp only[HdrOK,e] at h⊢ <;>exact h
theorem CellOK.into {D D':Nat→Prop} {ι ι':Nat→Reg} {id k:Nat} {v:Value} (h:CellOK D ι id w k v) (hi:ι' id=ι id) (hD:∀i,D i→D' i) (hiD:∀i,D i→ι' i=ι i):CellOK D' ι' id w k v:=by
 obtain⟨h1,v',h2,h3⟩:=h;exact⟨by rw[hi];exact h1,v',by rw[hi];exact h2,h3.mono hD hiD⟩
theorem MatP.refl {D:Nat→Prop} {ι:Nat→Reg} {σ:St}:MatP P w fz [] D ι σ σ ι:=
 ⟨.refl σ,fun _ _=>rfl,fun id h=>absurd h (St.rng_self σ id),fun id h=>absurd h (St.rng_self σ id),fun i _ h=>absurd h (St.rng_self σ i),fun id h=>absurd h (St.rng_self σ id)⟩
theorem MatP.trans {D:Nat→Prop} {ι ι1 ι2:Nat→Reg} {σ σ1 σ2:St} {o1 o2:List Nat} (hD:∀id,σ.rng σ2 id→¬D id) (p:MatP P w fz o1 D ι σ σ1 ι1) (q:MatP P w fz o2 (fun i=>D i∨σ.rng σ1 i) ι1 σ1 σ2 ι2) (hn:∀b,b∈o1→b∉o2):
  MatP P w fz (o1++o2) D ι σ σ2 ι2:=by
 have h1:=p.a.le;have h2:=q.a.le;have split:∀id,σ.rng σ2 id→(σ.rng σ1 id∧¬σ1.rng σ2 id)∨σ1.rng σ2 id:=fun id hr=>by
  simp only[St.rng] at hr⊢;omega
 have hDD:∀i,(D i∨σ.rng σ1 i)∨σ1.rng σ2 i→D i∨σ.rng σ2 i:=fun i hi=>by
  simp only[St.rng] at hi⊢;rcases hi with(hi|hi)|hi
  ·exact .inl hi
  ·exact .inr (by omega)
  ·exact .inr (by omega)
 refine⟨p.a.trans q.a,fun id hr=> ?_,fun id hr=> ?_,fun id hr b hb=> ?_,fun i j hi hj hij b hb hb'=> ?_,fun id hr b c hb=> ?_⟩
 ·rw[q.io id fun h=>hr (by simp only[St.rng] at h⊢;omega),p.io id fun h=>hr (by simp only[St.rng] at h⊢;omega)]
 ·rcases split id hr with⟨g1,g2⟩|g
  ·obtain⟨o,e1,e2,e3⟩:=p.new id g1;refine⟨o,by rw[q.a.old id g2];exact e1,e2.as (q.io id g2),fun k v hk=>(e3 k v hk).into (q.io id g2) (fun i hi=>hDD i (.inl hi)) fun i hi=>q.io i fun hr=> ?_⟩;rcases hi with hi|hi
   ·exact hD i (by simp only[St.rng] at hr⊢;omega) hi
   ·simp only[St.rng] at hr hi;omega
  ·obtain⟨o,e1,e2,e3⟩:=q.new id g;exact⟨o,e1,e2,fun k v hk=>(e3 k v hk).into rfl (fun i hi=>hDD i hi) fun _ _=>rfl⟩
 ·rcases split id hr with⟨g1,g2⟩|g
  ·rw[q.io id g2] at hb;exact List.mem_append_left _ (p.own id g1 b hb)
  ·exact List.mem_append_right _ (q.own id g b hb)
 ·rcases split i hi with⟨g1,g2⟩|g<;>rcases split j hj with⟨k1,k2⟩|k
  ·rw[q.io i g2] at hb;rw[q.io j k2] at hb';exact p.dist i j g1 k1 hij b hb hb'
  ·rw[q.io i g2] at hb;exact hn b (p.own i g1 b hb) (q.own j k b hb')
  ·rw[q.io j k2] at hb';exact hn b (p.own j k1 b hb') (q.own i g b hb)
  ·exact q.dist i j g k hij b hb hb'
 ·rcases split id hr with⟨g1,g2⟩|g
  ·rw[q.io id g2] at hb;exact p.fz id g1 b c hb
  ·exact q.fz id g b c hb
theorem MatP.of_mat {D:Nat→Prop} {ι ι':Nat→Reg} {σ σ':St} (hz:FzOK fz w) (ha:MatA σ σ') (m:MatOK fz ι σ σ' ι'):MatP P w fz [] D ι σ σ' ι':=by
 refine⟨ha,m.io,fun id hi=> ?_,fun id hi b hb=> ?_,fun i j hi _ _ b hb=> ?_,fun id hi b c hb=> ?_⟩
 ·obtain⟨t',xs,u,g1,g2,g3⟩:=m.new id hi;exact⟨_,g1,⟨by rw[g3];exact g2,by rw[g3];rfl,by rw[g3];rfl,by rw[g3];exact hz⟩,fun k v hk=>by cases hk⟩
 ·obtain⟨t',xs,u,g1,g2,g3⟩:=m.new id hi;rw[g3] at hb;cases hb.1
 ·obtain⟨t',xs,u,g1,g2,g3⟩:=m.new i hi;rw[g3] at hb;cases hb.1
 ·obtain⟨t',xs,u,g1,g2,g3⟩:=m.new id hi;rw[g3] at hb;exact hb
theorem MatP.one {D:Nat→Prop} {ι:Nat→Reg} {σ:St} {o:AO} {r:Reg} (hh:HdrOK P (fun _=>r) 0 w o.hd) (hc:∀k v,cellOf (some o) k=some v→CellOK D (upd ι σ.next r) σ.next w k v)
  (hf:∀b c,r.fz b=some c→fz b=some c):MatP P w fz (bif r.own then [r.blk] else []) D ι σ (σ.new o) (upd ι σ.next r):=by
 have hrng:∀id,σ.rng (σ.new o) id↔id=σ.next:=fun id=>by simp only[St.rng,St.new];omega
 refine⟨.new σ o,fun id hr=>upd_ne _ _ fun e=>hr ((hrng id).2 e),fun id hr=> ?_,fun id hr b hb=> ?_,fun i j hi hj hij=> ?_,fun id hr b c hb=> ?_⟩
 ·obtain rfl:=(hrng id).1 hr;exact⟨o,by simp[St.new,Tr.set_get],hh.as (by rw[upd_eq]),fun k v hk=>(hc k v hk).into rfl (fun _=>.inl) fun _ _=>rfl⟩
 ·obtain rfl:=(hrng id).1 hr;rw[upd_eq] at hb;rw[hb.1,cond_true,hb.2];exact List.mem_singleton.2 rfl
 ·exact absurd (((hrng i).1 hi).trans ((hrng j).1 hj).symm) hij
 ·obtain rfl:=(hrng id).1 hr;rw[upd_eq] at hb;exact hf b c hb
theorem matO_ok (hz:FzOK fz w):∀(t:OT) (x:t.Den) (us:List Value) (own:List Nat) (D:Nat→Prop) (ι:Nat→Reg) (σ:St),RdO P w fz t x us own→own.Nodup→(∀id,σ.rng (matO t x σ).2 id→¬D id)→
  ∃ι',MatP P w fz own D ι σ (matO t x σ).2 ι'∧(matO t x σ).1.length=us.length∧∀(k:Nat) v u,(matO t x σ).1[k]?=some v→us[k]?=some u→VR (fun i=>D i∨σ.rng (matO t x σ).2 i) ι' v u:=by
 intro t
 induction t with
 |d t=>
  intro x us own D ι σ hr _ _;obtain⟨rfl,hr⟩:=hr;obtain⟨d1,d2,d3⟩:=dcs_rd t x us hr;obtain⟨ι',m1,m2,m3⟩:=mat_ok (dcs t x) us D ι σ (mat (dcs t x) σ).2 (mat (dcs t x) σ).1 rfl (d2.trans d1.symm) d3;exact⟨ι',.of_mat hz (mat_a _ _) m1,m2,m3⟩
 |vec t e=>
  intro x us own D ι σ hr _ _;obtain⟨r,rfl,rfl,hh,hf⟩:=hr;refine⟨_,.one hh (fun k v hk=>by cases hk) hf,rfl,fun k v u hv hu=> ?_⟩;have hsv:∃q l c,r.sv=.slice q l c:=by
   obtain⟨_,_,h⟩:=hh;rcases h with⟨_,_,q,h⟩|⟨_,_,cap,c,fr,h,_⟩
   ·exact⟨_,_,_,h⟩
   ·exact⟨_,_,_,h⟩
  obtain⟨q,l,c,hsv⟩:=hsv;rcases k with _|k
  ·simp only[matO,List.getElem?_cons_zero,Option.some.injEq] at hv hu;subst hv hu;rw[hsv];exact .dat _ _ _ _ (.inr (by simp[St.rng,St.new,matO])) (by rw[upd_eq];exact hsv)
  ·simp at hu
 |unit=>
  intro x us own D ι σ hr _ _;obtain⟨rfl,rfl⟩:=hr;exact⟨ι,.refl,rfl,fun k v u hv=>by simp[matO] at hv⟩
 |pair a b iha ihb=>
  intro x us own D ι σ hr hn hD;obtain⟨c1,c2,o1,o2,rfl,rfl,h1,h2⟩:=hr;rw[List.nodup_append] at hn;obtain⟨n1,n2,n3⟩:=hn;have l1:=(matO_a a x.1 σ).le;have l2:=(matO_a b x.2 (matO a x.1 σ).2).le;have hD:∀id,σ.rng (matO b x.2 (matO a x.1 σ).2).2 id→¬D id:=hD;obtain⟨ι1,m1,m2,m3⟩:=iha x.1 c1 o1 D ι σ h1 n1 fun id hr=>hD id (by simp only[St.rng] at hr⊢;omega)
  have hD1:∀id,(matO a x.1 σ).2.rng (matO b x.2 (matO a x.1 σ).2).2 id→¬(D id∨σ.rng (matO a x.1 σ).2 id):=fun id hr hid=>by
   rcases hid with hid|hid
   ·exact hD id (by simp only[St.rng] at hr⊢;omega) hid
   ·simp only[St.rng] at hr hid;omega
  obtain⟨ι2,k1,k2,k3⟩:=ihb x.2 c2 o2 _ ι1 (matO a x.1 σ).2 h2 n2 hD1;refine⟨ι2,m1.trans hD k1 fun b hb hb'=>n3 b hb b hb' rfl,by simp only[matO,List.length_append,m2,k2],fun k v u hv hu=> ?_⟩;have up:∀i,(D i∨σ.rng (matO a x.1 σ).2 i)∨(matO a x.1 σ).2.rng (matO b x.2 (matO a x.1 σ).2).2 i→D i∨σ.rng (matO (.pair a b) x σ).2 i:=fun i hi=>by
   have h1:=m1.a.le;have h2:=k1.a.le;show D i∨σ.rng (matO b x.2 (matO a x.1 σ).2).2 i;simp only[St.rng] at hi⊢;rcases hi with(hi|hi)|hi
   ·exact .inl hi
   ·exact .inr (by omega)
   ·exact .inr (by omega)
  simp only[matO] at hv;by_cases hk:k<c1.length
  ·rw[List.getElem?_append_left (by omega)] at hv hu;exact(m3 k v u hv hu).mono (fun i hi=>up i (.inl hi)) fun i hi=>k1.io i fun hr=>hD1 i hr hi
  ·rw[List.getElem?_append_right (by omega)] at hv hu;rw[m2] at hv;exact(k3 _ v u hv hu).mono (fun i hi=>up i hi) fun _ _=>rfl
 |ptr a e ih=>
  intro x us own D ι σ hr hn hD;obtain⟨r,us',o1,rfl,rfl,hh,hcell,hr⟩:=hr;rw[List.nodup_cons] at hn;have l1:=(matO_a a x σ).le;have hD:∀id,σ.rng ((matO a x σ).2.new (.row (matO a x σ).1 e false)) id→¬D id:=hD;obtain⟨ι1,m1,m2,m3⟩:=ih x us' o1 D ι σ hr hn.2 fun id hr=>hD id (by simp only[St.rng,St.new] at hr⊢;omega)
  have hD1:∀id,D id∨σ.rng (matO a x σ).2 id→id≠(matO a x σ).2.next:=fun id hid e=>by
   rcases hid with hid|hid
   ·exact hD id (by simp only[St.rng,St.new];omega) hid
   ·simp only[St.rng] at hid;omega
  have hown:r.own=true:=by obtain⟨_,_,_,_,_,_,⟨h,_⟩,_⟩:=hh;exact h
  have hfz:∀b c,r.fz b=some c→fz b=some c:=fun b c h=>by
   obtain⟨_,_,_,_,_,_,⟨_,h'⟩,_⟩:=hh;exact absurd ⟨c,h⟩ (h' b)
  have one:MatP P w fz (bif r.own then [r.blk] else []) (fun i=>D i∨σ.rng (matO a x σ).2 i) ι1 (matO a x σ).2 ((matO a x σ).2.new (.row (matO a x σ).1 e false)) (upd ι1 (matO a x σ).2.next r):=by
   refine .one (by simpa only[AO.hd,m2] using hh) (fun k v hk=> ?_) hfz;have hk:(matO a x σ).1[k]?=some v:=hk;have hlt:k<us'.length:=by
    rcases Nat.lt_or_ge k us'.length with h|h
    ·exact h
    ·rw[List.getElem?_eq_none (by omega)] at hk;cases hk
   refine⟨by rw[upd_eq];exact hown,us'[k],by rw[upd_eq];exact .inl (hcell k _ (List.getElem?_eq_getElem hlt)),?_⟩;exact(m3 k v _ hk (List.getElem?_eq_getElem hlt)).mono (fun _ h=>h) fun i hi=>upd_ne _ _ (hD1 i hi)
  rw[hown,cond_true] at one;have all:=m1.trans hD one fun b hb hb'=>hn.1 (by rw[List.mem_singleton] at hb';subst hb';exact hb)
  refine⟨_,⟨all.a,all.io,all.new,fun id hr b hb=> ?_,all.dist,all.fz⟩,rfl,fun k v u hv hu=> ?_⟩
  ·have:=all.own id hr b hb;rcases List.mem_append.1 this with h|h
   ·exact List.mem_cons_of_mem _ h
   ·rw[List.mem_singleton] at h;subst h;exact List.mem_cons_self ..
  ·rcases k with _|k
   ·simp only[matO,List.getElem?_cons_zero,Option.some.injEq] at hv hu;subst hv hu;have:=VR.ptr (D:=fun i=>D i∨σ.rng ((matO a x σ).2.new (.row (matO a x σ).1 e false)) i) (ι:=upd ι1 (matO a x σ).2.next r) (matO a x σ).2.next 0 (.inr (by have:=m1.a.le;simp only[St.rng,St.new];omega));rw[upd_eq,Nat.add_zero] at this
    exact this
   ·simp at hu
 |con vs=>
  intro x us own D ι σ hr _ _;obtain⟨rfl,rfl,hp⟩:=hr;refine⟨ι,.refl,rfl,fun k v u hv hu=> ?_⟩;have hv:us[k]?=some v:=hv;rw[hv] at hu;cases hu;exact plain_refl 2 v (List.all_eq_true.1 hp v (List.mem_of_getElem? hv))
theorem plain_at {D:Nat→Prop} {ι:Nat→Reg} {vs:List Value} (h:vs.all (plainN 2)=true) {k:Nat} {v:Value} (hv:vs[k]?=some v):VR D ι v v:=
 plain_refl 2 v (List.all_eq_true.1 h v (List.mem_of_getElem? hv))
theorem RdO.len:∀(t:OT) (x:t.Den) (us:List Value) (own:List Nat),RdO P w fz t x us own→us.length=t.sz:=by
 intro t
 induction t with
 |d t=>intro x us own ⟨_,hr⟩;exact(dcs_rd t x us hr).1
 |vec t e=>intro x us own ⟨r,h,_⟩;rw[h];rfl
 |unit=>intro x us own ⟨h,_⟩;rw[h];rfl
 |pair a b iha ihb=>intro x us own ⟨c1,c2,o1,o2,e,_,h1,h2⟩;rw[e,List.length_append,iha _ _ _ h1,ihb _ _ _ h2];rfl
 |ptr a e ih=>intro x us own ⟨r,us',o1,h,_⟩;rw[h];rfl
 |con vs=>intro x us own ⟨_,h,_⟩;rw[h];rfl
theorem matR_ok (hz:FzOK fz w):∀(rs:List OT) (y:DenO rs) (us:List Value) (own:List Nat) (D:Nat→Prop) (ι:Nat→Reg) (σ:St),RdR P w fz rs y us own→own.Nodup→(∀id,σ.rng (matR rs y σ).2 id→¬D id)→
  ∃ι',MatP P w fz own D ι σ (matR rs y σ).2 ι'∧LR (fun i=>D i∨σ.rng (matR rs y σ).2 i) ι' (matR rs y σ).1 us
 |[],y,us,own,D,ι,σ,hr,_,_=>by
  obtain⟨rfl,rfl⟩:=hr;exact⟨ι,.refl,.nil⟩
 |r::rs,y,us,own,D,ι,σ,hr,hn,hD=>by
  obtain⟨v,rest,o1,o2,rfl,rfl,h1,h2⟩:=hr;rw[List.nodup_append] at hn;obtain⟨n1,n2,n3⟩:=hn;obtain⟨vs0,hv,hr0⟩:∃vs0:List Value,((r.agg=true∧v=.agg vs0.toArray)∨(r.agg=false∧vs0=[v]))∧RdO P w fz r y.1 vs0 o1:=by
   rcases h1 with⟨e,cs,rfl,g⟩|⟨e,g⟩
   ·exact⟨cs.toList,.inl ⟨e,rfl⟩,g⟩
   ·exact⟨[v],.inr ⟨e,rfl⟩,g⟩
  have l1:=(matO_a r y.1 σ).le;have l2:=(matR_a rs y.2 (matO r y.1 σ).2).le;have hD:∀id,σ.rng (matR rs y.2 (matO r y.1 σ).2).2 id→¬D id:=hD;obtain⟨ι1,m1,m2,m3⟩:=matO_ok hz r y.1 vs0 o1 D ι σ hr0 n1 fun id hr=>hD id (by simp only[St.rng] at hr⊢;omega)
  have hD1:∀id,(matO r y.1 σ).2.rng (matR rs y.2 (matO r y.1 σ).2).2 id→¬(D id∨σ.rng (matO r y.1 σ).2 id):=fun id hr hid=>by
   rcases hid with hid|hid
   ·exact hD id (by simp only[St.rng] at hr⊢;omega) hid
   ·simp only[St.rng] at hr hid;omega
  obtain⟨ι2,k1,k2⟩:=matR_ok hz rs y.2 rest o2 _ ι1 (matO r y.1 σ).2 h2 n2 hD1;have up:∀i,(D i∨σ.rng (matO r y.1 σ).2 i)∨(matO r y.1 σ).2.rng (matR rs y.2 (matO r y.1 σ).2).2 i→D i∨σ.rng (matR (r::rs) y σ).2 i:=fun i hi=>by
   have h1:=m1.a.le;have h2:=k1.a.le;show D i∨σ.rng (matR rs y.2 (matO r y.1 σ).2).2 i;simp only[St.rng] at hi⊢;rcases hi with(hi|hi)|hi
   ·exact .inl hi
   ·exact .inr (by omega)
   ·exact .inr (by omega)
  refine⟨ι2,m1.trans hD k1 fun b hb hb'=>n3 b hb b hb' rfl,.cons ?_ ?_⟩
  ·have hm:∀(k:Nat) a u,(matO r y.1 σ).1[k]?=some a→vs0[k]?=some u→VR (fun i=>D i∨σ.rng (matR (r::rs) y σ).2 i) ι2 a u:=fun k a u ha hu=>
    (m3 k a u ha hu).mono (fun i hi=>up i (.inl hi)) fun i hi=>k1.io i fun hr=>hD1 i hr hi
   rcases hv with⟨e,rfl⟩|⟨e,rfl⟩
   ·rw[e,cond_true];refine .agg _ _ (by simpa using m2) fun i a u ha hu=>hm i a u (by simpa using ha) (by simpa using hu)
   ·rw[e,cond_false];generalize (matO r y.1 σ).1=l at m2 hm;cases l with
    |nil=>simp at m2
    |cons a l=>exact hm 0 a v rfl rfl
  ·show LR _ _ (matR rs y.2 (matO r y.1 σ).2).1 rest;clear h2;generalize (matR rs y.2 (matO r y.1 σ).2).1=l at k2
   induction k2 with
   |nil=>exact .nil
   |cons h _ ih=>exact .cons (h.mono (fun i hi=>up i hi) fun _ _=>rfl) ih
end
end Go.Eng
end
end
end
section
noncomputable section
noncomputable section
namespace Go.Eng
open Go
structure CO (α:Type) where
 x:α
 r:List Value
 i:List Nat
 g:List Nat
 f:List Nat
 p:List Bool
def eqV1:Value→Value→Bool
 | .bool a,.bool b=>a==b
 | .int k n,.int k' n'=>(k==k')&&(n==n')
 |_,_=>false
def eqVs:List Value→List Value→Bool
 |[],[]=>true
 |a::as,b::bs=>bif eqV1 a b then eqVs as bs else false
 |_,_=>false
theorem eqV1_eq {a b:Value} (h:eqV1 a b=true):a=b:=by
 cases a<;>cases b<;>first|(simp only[eqV1] at h;cases h;done)|skip
 ·simp only[eqV1,beq_iff_eq] at h;rw[h]
 ·simp only[eqV1,Bool.and_eq_true,beq_iff_eq] at h;rw[h.1,h.2]
theorem eqVs_eq:∀{a b:List Value},eqVs a b=true→a=b
 |[],[],_=>rfl
 |a::as,b::bs,h=>by
  simp only[eqVs] at h;cases hc:eqV1 a b
  ·rw[hc] at h;cases h
  ·rw[hc,cond_true] at h;rw[eqV1_eq hc,eqVs_eq h]
 |[],_::_,h=>by cases h
 |_::_,[],h=>by cases h
def objD (σ:St):(t:OT)→List Value→Option (CO t.Den)
 | .d t,cs=>match cellsC σ t cs with
   |some ⟨x,r,i,f,p⟩=>some ⟨x,r,i,[],f,p⟩
   |none=>none
 | .vec t e,cs=>match cs with
   |v::r=>match vList σ t e v with
    |some (xs,gs)=>some ⟨xs,r,[],gs,[],[]⟩
    |none=>none
   |[]=>none
 | .unit,cs=>some ⟨(),cs,[],[],[],[]⟩
 | .pair a b,cs=>match objD σ a cs with
   |some ⟨x,r,i,g,f,p⟩=>match objD σ b r with
    |some ⟨y,r',j,h,k,q⟩=>some ⟨(x,y),r',i++j,g++h,f++k,p++q⟩
    |none=>none
   |none=>none
 | .ptr a e,cs=>match cs with
   |v::r=>match v with
    | .pointer (some ⟨id,0,none⟩)=>match σ.heap.get id with
      |some (.row us e' false)=>bif Nat.beq e' e then match objD σ a us with
       |some ⟨x,[],i,g,f,p⟩=>some ⟨x,r,i,id::g,f,p⟩
       |_=>none
       else none
      |_=>none
    |_=>none
   |[]=>none
 | .con vs,cs=>bif eqVs vs (cs.take vs.length)&&vs.all (plainN 2) then some ⟨(),cs.drop vs.length,[],[],[],[]⟩ else none
def resD (σ:St):(rs:List OT)→List Value→Option (CO (DenO rs))
 |[],[]=>some ⟨(),[],[],[],[],[]⟩
 |t::ts,v::vs=>match(bif t.agg then(match v with| .agg cs=>some cs.toList|_=>none) else some [v]) with
  |some cs=>match objD σ t cs with
   |some ⟨x,[],i,g,f,p⟩=>match resD σ ts vs with
    |some ⟨y,_,j,h,k,q⟩=>some ⟨(x,y),[],i++j,g++h,f++k,p++q⟩
    |none=>none
   |_=>none
  |none=>none
 |_,_=>none
def ownL (ι:Nat→Reg) (l:List Nat):List Nat:=l.flatMap fun id=>bif (ι id).own then [(ι id).blk] else []
theorem ownL_mem {ι:Nat→Reg} {l:List Nat} {b:Nat}:b∈ownL ι l↔∃id,id∈l∧(ι id).Own b:=by
 simp only[ownL,List.mem_flatMap];constructor
 ·rintro⟨id,h1,h2⟩;cases ho:(ι id).own
  ·rw[ho] at h2;cases h2
  ·rw[ho,cond_true,List.mem_singleton] at h2;exact⟨id,h1,ho,h2.symm⟩
 ·rintro⟨id,h1,ho,h2⟩;exact⟨id,h1,by rw[ho,cond_true,List.mem_singleton];exact h2.symm⟩
theorem ownL_append {ι:Nat→Reg} (l m:List Nat):ownL ι (l++m)=ownL ι l++ownL ι m:=by simp[ownL]
theorem ownL_one {ι:Nat→Reg} (id:Nat):ownL ι [id]=bif (ι id).own then [(ι id).blk] else []:=by simp[ownL]
theorem ownL_nodup {ι:Nat→Reg}:∀{l:List Nat},l.Nodup→(∀i j,i∈l→j∈l→i≠j→∀b,(ι i).Own b→¬(ι j).Own b)→(ownL ι l).Nodup
 |[],_,_=>by simp[ownL]
 |a::l,hn,hd=>by
  rw[List.nodup_cons] at hn;have ih:=ownL_nodup hn.2 fun i j hi hj=>hd i j (List.mem_cons_of_mem _ hi) (List.mem_cons_of_mem _ hj)
  have:ownL ι (a::l)=ownL ι [a]++ownL ι l:=ownL_append [a] l;rw[this,List.nodup_append];refine⟨?_,ih,fun x hx y hy e=> ?_⟩
  ·rw[ownL_one];cases(ι a).own<;>simp
  ·subst e;obtain⟨i,hi,h1⟩:=ownL_mem.1 hx;obtain⟨j,hj,h2⟩:=ownL_mem.1 hy;rw[List.mem_singleton] at hi;subst hi;exact hd i j (List.mem_cons_self ..) (List.mem_cons_of_mem _ hj) (fun e=>hn.1 (e▸hj)) x h1 h2
section
variable {P:Program} {D:Nat→Prop} {ι:Nat→Reg} {σ:St} {w:World} {fzX:Nat→Option (Array Value)} {is gs fs:List Nat}
theorem LR_plain:∀{vs us:List Value},vs.all (plainN 2)=true→LR D ι vs us→us=vs
 |_,_,_,.nil=>rfl
 |_,_,h,.cons hv ht=>by
  rw[List.all_cons,Bool.and_eq_true] at h;rw[plain_eq 2 _ _ h.1 hv,LR_plain h.2 ht]
theorem objD_rd (hX1:∀b c,fzC ι is fs w b=some c→fzX b=some c) (hX2:∀id,id∈gs→FzOK (ι id).fz w→∀b c,(ι id).fz b=some c→fzX b=some c)
  (hd:∀id,id∈is∨id∈gs∨id∈fs→∀x,σ.H.hdr id=some x→HdrOK P ι id w x) (hce:∀id,id∈gs∨id∈fs→∀k v,Lv σ.H id→σ.H.cell id k=some v→CellOK D ι id w k v):
  ∀(t:OT) (cs us:List Value) (c:CO t.Den),objD σ t cs=some c→(∀id,id∈c.i→id∈is)→(∀id,id∈c.g→id∈gs)→(∀id,id∈c.f→id∈fs)→AllP c.p→LR D ι cs us→
   ∃u1 u2,us=u1++u2∧RdO P w fzX t c.x u1 (ownL ι c.g)∧LR D ι c.r u2:=by
 intro t
 induction t with
 |d t=>
  intro cs us c h hi hg hf hp hl;simp only[objD] at h
  split at h
  ·rename_i x r i f p h1;cases h;obtain⟨u1,u2,rfl,k1,k2⟩:=cellsC_rd (is:=is) (gs:=fs) (fun id hid=>hd id (hid.imp_right .inr)) (fun id hid=>hce id (.inr hid)) t cs us ⟨x,r,i,f,p⟩ h1 hi hf hp hl;exact⟨u1,u2,rfl,⟨rfl,RdC.mono hX1 _ _ _ k1⟩,k2⟩
  ·cases h
 |vec t e=>
  intro cs us c h hi hg hf hp hl;cases hl with
  |nil=>simp[objD] at h
  |cons hv ht=>
   simp only[objD] at h
   split at h
   ·rename_i xs gs' h1;cases h;rcases vList_run h1 hv with⟨rfl,rfl,rfl⟩|⟨id,q,l,cp,rfl,h2,rfl,hsv⟩
    ·exact⟨[_],_,rfl,⟨⟨0,0,0,t.sz,false,fun _=>none,.slice none 0 0⟩,rfl,rfl,⟨rfl,fun b c h=>(by cases h),.inl ⟨rfl,rfl,none,rfl⟩⟩,fun b c h=>(by cases h)⟩,ht⟩
    ·have hm:=hg id (by simp);have hh:=hd id (.inr (.inl hm)) _ (St.hdr_of h2);exact⟨[_],_,rfl,⟨ι id,by rw[hsv],ownL_one id,HdrOK.as (ι0:=fun _=>ι id) hh rfl,hX2 id hm hh.2.1⟩,ht⟩
   ·cases h
 |unit=>
  intro cs us c h _ _ _ _ hl;simp only[objD,Option.some.injEq] at h;subst h;exact⟨[],us,rfl,⟨rfl,rfl⟩,hl⟩
 |pair a b iha ihb=>
  intro cs us c h hi hg hf hp hl;simp only[objD] at h
  split at h
  ·rename_i x1 r1 i1 g1 f1 p1 h1
   split at h
   ·rename_i x2 r2 i2 g2 f2 p2 h2;cases h;obtain⟨q1,q2⟩:=AllP_append hp;obtain⟨u1,u2,rfl,k1,k2⟩:=iha cs us ⟨x1,r1,i1,g1,f1,p1⟩ h1 (fun id h=>hi id (List.mem_append_left _ h)) (fun id h=>hg id (List.mem_append_left _ h)) (fun id h=>hf id (List.mem_append_left _ h)) q1 hl;obtain⟨v1,v2,rfl,k3,k4⟩:=ihb r1 u2 ⟨x2,r2,i2,g2,f2,p2⟩ h2 (fun id h=>hi id (List.mem_append_right _ h)) (fun id h=>hg id (List.mem_append_right _ h)) (fun id h=>hf id (List.mem_append_right _ h)) q2 k2
    exact⟨u1++v1,v2,by simp,⟨u1,v1,_,_,rfl,ownL_append _ _,k1,k3⟩,k4⟩
   ·cases h
  ·cases h
 |ptr a e ih=>
  intro cs us c h hi hg hf hp hl;cases hl with
  |nil=>simp[objD] at h
  |cons hv ht=>
   simp only[objD] at h
   split at h
   ·rename_i id;obtain⟨rfl,hD⟩:=hv.ptr_inv
    split at h
    ·rename_i us0 e' hgt;cases hb:Nat.beq e' e
     ·rw[hb] at h;cases h
     rw[hb,cond_true] at h;have hb:=Nat.eq_of_beq_eq_true hb;subst hb
     split at h
     ·rename_i x i g f p h1;cases h;have hm:id∈gs:=hg id (by simp);have hh:=hd id (.inr (.inl hm)) _ (St.hdr_of hgt);have hh2:=hh;obtain⟨arr,el,fr,e1,e2,e3,⟨e4,e5⟩,e6⟩:=hh2;have e3:us0.length≤(ι id).room:=e3;have hlen:((arr.toList.drop (ι id).base).take us0.length).length=us0.length:=by
       simp only[List.length_take,List.length_drop,Array.length_toList];omega
      have hcell:∀k,k<us0.length→∃u,arr.toList[(ι id).base+k]?=some u∧∃v,us0[k]?=some v∧VR D ι v u:=by
       intro k hk;obtain⟨_,u,hu,hvu⟩:=hce id (.inl hm) k us0[k] (St.lv_of hgt) (by rw[St.cell_of hgt];exact List.getElem?_eq_getElem hk);have hu:=hu.row e1;simp only[World.cell?,e1,Option.isSome_none,Bool.false_eq_true,if_false] at hu;exact⟨u,by rw[Array.getElem?_toList];exact hu,us0[k],List.getElem?_eq_getElem hk,hvu⟩
      have hlr:LR D ι us0 ((arr.toList.drop (ι id).base).take us0.length):=by
       refine LR.of_AR ⟨by simpa using hlen.symm,fun i a b ha hb=> ?_⟩;simp only[List.getElem?_toArray] at ha hb;rw[List.getElem?_take] at hb
       split at hb
       ·rename_i hi;obtain⟨u,hu,v,hv',hvu⟩:=hcell i hi;rw[List.getElem?_drop,hu] at hb;rw[hv'] at ha;cases ha;cases hb;exact hvu
       ·cases hb
      obtain⟨u1,u2,hu,k1,k2⟩:=ih us0 _ ⟨x,[],i,g,f,p⟩ h1 hi (fun id h=>hg id (List.mem_cons_of_mem _ h)) hf hp hlr;cases k2;rw[List.append_nil] at hu;refine⟨[_],_,rfl,⟨ι id,u1,ownL ι g,by rw[Nat.add_zero],?_,?_,fun k u hk=> ?_,k1⟩,ht⟩
      ·show ownL ι (id::g)=_;rw[show ownL ι (id::g)=ownL ι [id]++ownL ι g from ownL_append [id] g,ownL_one,e4];rfl
      ·rw[←hu,hlen];exact HdrOK.as (ι0:=fun _=>ι id) hh rfl
      ·rw[←hu,List.getElem?_take] at hk
       split at hk
       ·rw[List.getElem?_drop,Array.getElem?_toList] at hk;simp only[World.cell?,e1,Option.isSome_none,Bool.false_eq_true,if_false];exact hk
       ·cases hk
     ·cases h
    ·cases h
   ·cases h
 |con vs=>
  intro cs us c h _ _ _ _ hl;simp only[objD] at h;cases hb:(eqVs vs (cs.take vs.length)&&vs.all (plainN 2))
  ·rw[hb] at h;cases h
  rw[hb,cond_true] at h;rw[Bool.and_eq_true] at hb;cases h;have he:=eqVs_eq hb.1;have hlt:=LR.take vs.length hl;rw[←he] at hlt;have hu:us.take vs.length=vs:=LR_plain hb.2 hlt;exact⟨vs,us.drop vs.length,(List.take_append_drop vs.length us).symm.trans (by rw[hu]),⟨rfl,rfl,hb.2⟩,LR.drop _ hl⟩
theorem resD_rd (hX1:∀b c,fzC ι is fs w b=some c→fzX b=some c) (hX2:∀id,id∈gs→FzOK (ι id).fz w→∀b c,(ι id).fz b=some c→fzX b=some c)
  (hd:∀id,id∈is∨id∈gs∨id∈fs→∀x,σ.H.hdr id=some x→HdrOK P ι id w x) (hce:∀id,id∈gs∨id∈fs→∀k v,Lv σ.H id→σ.H.cell id k=some v→CellOK D ι id w k v):
  ∀(rs:List OT) (vs us:List Value) (c:CO (DenO rs)),resD σ rs vs=some c→(∀id,id∈c.i→id∈is)→(∀id,id∈c.g→id∈gs)→(∀id,id∈c.f→id∈fs)→AllP c.p→LR D ι vs us→RdR P w fzX rs c.x us (ownL ι c.g)
 |[],vs,us,c,h,_,_,_,_,hl=>by
  cases hl with
  |nil=>simp only[resD,Option.some.injEq] at h;subst h;exact⟨rfl,rfl⟩
  |cons _ _=>simp[resD] at h
 |t::ts,vs,us,c,h,hi,hg,hf,hp,hl=>by
  cases hl with
  |nil=>simp[resD] at h
  |cons hv ht=>
   rename_i v u vs us;simp only[resD] at h
   split at h
   ·rename_i cs hcs
    split at h
    ·rename_i x1 i1 g1 f1 p1 h1
     split at h
     ·rename_i y r j g2 f2 q h2;cases h;obtain⟨q1,q2⟩:=AllP_append hp;have tail:=resD_rd hX1 hX2 hd hce ts vs us ⟨y,r,j,g2,f2,q⟩ h2 (fun id h=>hi id (List.mem_append_right _ h)) (fun id h=>hg id (List.mem_append_right _ h)) (fun id h=>hf id (List.mem_append_right _ h)) q2 ht;have me:=objD_rd hX1 hX2 hd hce t
      refine⟨u,us,_,_,rfl,ownL_append _ _,?_,tail⟩;cases hagg:t.agg
      ·rw[hagg] at hcs;cases hcs;obtain⟨u1,u2,e1,k1,k2⟩:=me [v] [u] ⟨x1,[],i1,g1,f1,p1⟩ h1 (fun id h=>hi id (List.mem_append_left _ h)) (fun id h=>hg id (List.mem_append_left _ h)) (fun id h=>hf id (List.mem_append_left _ h)) q1 (.cons hv .nil);cases k2;rw[List.append_nil] at e1;rw[←e1] at k1;exact .inr ⟨rfl,k1⟩
      ·rw[hagg,cond_true] at hcs
       split at hcs
       ·rename_i as;cases hcs;cases hv with
        |agg _ bs hs hh=>
         obtain⟨u1,u2,e1,k1,k2⟩:=me as.toList bs.toList ⟨x1,[],i1,g1,f1,p1⟩ h1 (fun id h=>hi id (List.mem_append_left _ h)) (fun id h=>hg id (List.mem_append_left _ h)) (fun id h=>hf id (List.mem_append_left _ h)) q1 (LR.of_AR ⟨by simpa using hs,by simpa using hh⟩);cases k2;rw[List.append_nil] at e1;rw[←e1] at k1
         exact .inl ⟨rfl,bs,rfl,k1⟩
       ·cases hcs
     ·cases h
    ·cases h
   ·cases h
end
section
variable {P:Program} {w:World} {fz:Nat→Option (Array Value)}
theorem RdO.lt:∀(t:OT) (x:t.Den) (us:List Value) (own:List Nat),RdO P w fz t x us own→∀b,b∈own→b<w.heap.size:=by
 intro t
 induction t with
 |d t=>intro x us own ⟨h,_⟩ b hb;rw[h] at hb;cases hb
 |vec t e=>
  intro x us own ⟨r,_,h,hh,_⟩ b hb;rw[h] at hb;cases ho:r.own
  ·rw[ho] at hb;cases hb
  ·rw[ho,cond_true,List.mem_singleton] at hb;subst hb;exact hh.lt (.inl ⟨ho,rfl⟩)
 |unit=>intro x us own ⟨_,h⟩ b hb;rw[h] at hb;cases hb
 |pair a b iha ihb=>
  intro x us own ⟨c1,c2,o1,o2,_,e,h1,h2⟩ b hb;rw[e] at hb;exact(List.mem_append.1 hb).elim (iha _ _ _ h1 b) (ihb _ _ _ h2 b)
 |ptr a e ih=>
  intro x us own ⟨r,us',o1,_,h,hh,_,h1⟩ b hb;rw[h] at hb;rcases List.mem_cons.1 hb with rfl|hb
  ·exact hh.lt (.inl hh.own_row)
  ·exact ih _ _ _ h1 b hb
 |con vs=>intro x us own ⟨h,_⟩ b hb;rw[h] at hb;cases hb
theorem RdR.lt:∀(rs:List OT) (y:DenO rs) (us:List Value) (own:List Nat),RdR P w fz rs y us own→∀b,b∈own→b<w.heap.size
 |[],y,us,own,⟨_,h⟩,b,hb=>by rw[h] at hb;cases hb
 |r::rs,y,us,own,⟨v,rest,o1,o2,_,e,h1,h2⟩,b,hb=>by
  rw[e] at hb;rcases List.mem_append.1 hb with hb|hb
  ·rcases h1 with⟨_,cs,_,h⟩|⟨_,h⟩
   ·exact RdO.lt _ _ _ _ h b hb
   ·exact RdO.lt _ _ _ _ h b hb
  ·exact RdR.lt rs _ _ _ h2 b hb
end
def matB (rb:Bool) (t:OT) (x:t.Den) (σ:St):List Value×St:=bif rb then matO t x σ else([],σ)
def putR (σ:St) (rid:List Nat) (vs:List Value) (e:TypeId):St:=match rid with
 |[k]=>σ.put k (some (.row vs e false))
 |_=>σ
section
variable {P:Program} {D:Nat→Prop} {ι ι':Nat→Reg} {σ σ2:St} {w w':World} {rid gs rh:List Nat} {vs:List Value} {e:TypeId}
theorem putR_next:(putR σ2 rid vs e).next=σ2.next:=by unfold putR;split<;>rfl
theorem putR_pc:(putR σ2 rid vs e).pc=σ2.pc:=by unfold putR;split<;>rfl
theorem putR_in (h:∃k,rid=[k]) {id:Nat} (hid:id∈rid):(putR σ2 rid vs e).heap.get id=some (.row vs e false):=by
 obtain⟨k,rfl⟩:=h;rw[List.mem_singleton] at hid;subst hid;simp only[putR,St.put,Tr.set_get,if_true]
theorem putR_out {id:Nat} (hid:id∉rid):(putR σ2 rid vs e).heap.get id=σ2.heap.get id:=by
 unfold putR
 split
 ·simp only[St.put,Tr.set_get];rw[if_neg (by simpa using hid)]
 ·rfl
theorem putR_afr (hw:σ.wf) (ha:MatA (σ.puts gs) σ2) (_:rid=[]∨∃k,rid=[k]) (hrl:∀id,id∈rid→Lv σ.H id) {φ:Foot} (h1:∀id,id∈rid++gs→id∈φ.wh):(putR σ2 rid vs e).wf∧AFr σ (putR σ2 rid vs e) φ:=by
 have hle:σ.next≤σ2.next:=by have:=ha.le;rwa[St.puts_next] at this
 have hold:∀id,¬σ.rng (putR σ2 rid vs e) id→id∉rid→id∉gs→(putR σ2 rid vs e).heap.get id=σ.heap.get id:=fun id h h2 h3=>by
  rw[putR_out h2,ha.old id fun hr=>h (by simpa only[St.rng,putR_next,St.puts_next] using hr),St.puts_get,if_neg h3]
 refine⟨fun id hid=> ?_,fun id hn hx=> ?_,fun id k hn hx=> ?_,fun h=> ?_⟩
 ·rw[putR_next] at hid;have:id∉rid:=fun h=>by have:=St.lv_lt hw (hrl id h);omega
  rw[putR_out this];exact ha.wf (St.puts_wf hw gs) id hid
 ·have hx:id∉φ.wh:=hx;simp only[St.H];rw[hold id hn (fun h=>hx (h1 id (List.mem_append_left _ h))) fun h=>hx (h1 id (List.mem_append_right _ h))]
 ·have hx:id∉φ.wh:=fun h=>hx (.inr h)
  simp only[St.H];rw[hold id hn (fun h=>hx (h1 id (List.mem_append_left _ h))) fun h=>hx (h1 id (List.mem_append_right _ h))]
 ·unfold St.Ok at h⊢;rwa[putR_pc,ha.pc,St.puts_pc] at h
theorem objPost {rc:List (Nat×Nat)} {fz':Nat→Option (Array Value)} {own':List Nat} (hw:σ.wf) (m:MatP P w' fz' own' D ι (σ.puts gs) σ2 ι') (hr:rid=[]∨∃k,rid=[k])
  (hrid:∀k,k∈rid→(∃cs0 e0,σ.heap.get k=some (.row cs0 e0 false))∧k∉gs∧HdrOK P ι' k w' (.row vs.length e false)∧∀(j:Nat) v,vs[j]?=some v→CellOK (fun i=>D i∨(σ.puts gs).rng σ2 i) ι' k w' j v)
  (hgs:∀id,id∈gs→Wr σ.H id) (hs:w.heap.size≤w'.heap.size) (hos:w'.os=w.os) (hout:w'.output=w.output)
  (hc:∀b,b<w.heap.size→(∀id,id∈rid++gs→Wr σ.H id→¬(ι id).Own b)→w'.heap[b]?=w.heap[b]?)
  (ho:∀b,b∈own'→(w.heap.size≤b∧b<w'.heap.size)∨∃k,k∈gs∧Wr σ.H k∧(ι k).Own b)
  (hf:∀b c,fz' b=some c→(w.heap.size≤b∧b<w'.heap.size)∨(∃k,k∈gs∧Wr σ.H k∧(ι k).Own b)∨∃k,(k∈rh∨k∈gs)∧Lv σ.H k∧(ι k).Fz b)
  (hd:∀b,b∈own'→fz' b=none):Post P D (σ.rng (putR σ2 rid vs e)) ι σ.H w ⟨rc,rh,[],rid++gs⟩ ι' (putR σ2 rid vs e).H w':=by
 have hle:σ.next≤σ2.next:=by have:=m.a.le;rwa[St.puts_next] at this
 have hrng:∀id,σ.rng (putR σ2 rid vs e) id↔(σ.puts gs).rng σ2 id:=fun id=>by simp only[St.rng,putR_next,St.puts_next]
 have hwr:∀id,id∈rid++gs→Wr σ.H id:=fun id h=>(List.mem_append.1 h).elim (fun h=>by
  obtain⟨⟨cs0,e0,h1⟩,_⟩:=hrid id h;exact⟨_,St.hdr_of h1,rfl⟩) (hgs id)
 have hnew:∀id,id∈rid++gs→¬σ.rng (putR σ2 rid vs e) id:=fun id h hr=>by
  have:=St.lv_lt hw (hwr id h).lv;have:=hr.1;omega
 have hout':∀id,σ.rng (putR σ2 rid vs e) id→id∉rid:=fun id h h2=>hnew id (List.mem_append_left _ h2) h
 have hold:∀id,¬σ.rng (putR σ2 rid vs e) id→id∉rid→id∉gs→(putR σ2 rid vs e).heap.get id=σ.heap.get id:=fun id h h2 h3=>by
  rw[putR_out h2,m.a.old id fun hr=>h ((hrng id).2 hr),St.puts_get,if_neg h3]
 have hgone:∀id,id∈gs→id∉rid→(putR σ2 rid vs e).heap.get id=none:=fun id h h2=>by
  rw[putR_out h2,m.a.old id fun hr=>hnew id (List.mem_append_right _ h) ((hrng id).2 hr),St.puts_get,if_pos h]
 have hone:∀id,id∈rid→∃k,rid=[k]:=fun id h=>hr.elim (fun e=>by rw[e] at h;cases h) fun h=>h
 have hDr:(fun i=>D i∨σ.rng (putR σ2 rid vs e) i)=fun i=>D i∨(σ.puts gs).rng σ2 i:=by
  funext i;exact propext (or_congr_right (hrng i))
 have hdead:∀k,k∈gs→¬Lv (putR σ2 rid vs e).H k:=fun k hk ⟨y,hy⟩=>by
  have:k∉rid:=fun h=>(hrid k h).2.1 hk
  simp only[St.H,hgone k hk this] at hy;cases hy
 exact {
  io:=fun id hn=>m.io id fun h=>hn ((hrng id).2 h)
  size:=hs
  os:=hos
  out:=hout
  hdr:=fun id x hx hh=>by
   by_cases h1:id∈rid
   ·simp only[St.H,putR_in (hone id h1) h1,Option.map_some,Option.some.injEq] at hh;subst hh;exact(hrid id h1).2.2.1
   ·rcases hx with hx|hx
    ·have hx:id∈gs:=(List.mem_append.1 (show id∈rid++gs from hx)).resolve_left h1;simp only[St.H,hgone id hx h1] at hh;cases hh
    ·obtain⟨o,e1,e2,e3⟩:=m.new id ((hrng id).1 hx);simp only[St.H,putR_out h1,e1,Option.map_some,Option.some.injEq] at hh;subst hh;exact e2
  cel:=fun id k v hx _ hh=>by
   rw[hDr];by_cases h1:id∈rid
   ·simp only[St.H,putR_in (hone id h1) h1,cellOf] at hh;exact(hrid id h1).2.2.2 k v hh
   ·rcases hx with(hx|hx)|hx
    ·cases hx
    ·have hx:id∈gs:=(List.mem_append.1 (show id∈rid++gs from hx)).resolve_left h1;simp only[St.H,hgone id hx h1,cellOf] at hh;cases hh
    ·obtain⟨o,e1,e2,e3⟩:=m.new id ((hrng id).1 hx);simp only[St.H,putR_out h1,e1] at hh;exact e3 k v hh
  ahdr:=fun id hn hx=>by
   have hx:id∉rid++gs:=hx;simp only[List.mem_append,not_or] at hx;simp only[St.H,hold id hn hx.1 hx.2]
  acel:=fun id k hn hx=>by
   have hx:id∉rid++gs:=fun h=>hx (.inr h)
   simp only[List.mem_append,not_or] at hx;simp only[St.H,hold id hn hx.1 hx.2]
  cfr:=fun b hb hx=>by rw[hc b hb fun id h=>hx id h];exact ObjBut.refl _ _
  fresh:=fun id hn _ b hb=>by
   rcases ho b (m.own id ((hrng id).1 hn) b hb) with h|⟨k,k1,k2,k3⟩
   ·exact .inl h
   ·exact .inr ⟨k,List.mem_append_right _ k1,hnew k (List.mem_append_right _ k1),k2,hdead k k1,k3⟩
  freshF:=fun id hn _ b ⟨c,hb⟩=>by
   rcases hf b c (m.fz id ((hrng id).1 hn) b c hb) with h|⟨k,k1,k2,k3⟩|⟨k,k1,k2,k3⟩
   ·exact .inl h
   ·exact .inr (.inl ⟨k,List.mem_append_right _ k1,hnew k (List.mem_append_right _ k1),k2,hdead k k1,k3⟩)
   ·refine .inr (.inr ⟨k,?_,fun h=> ?_,k2,k3⟩)
    ·exact k1.elim (fun h=>.inr (.inl h)) fun h=>.inr (.inr (.inr (List.mem_append_right _ h)))
    ·have:=St.lv_lt hw k2;have:=h.1;omega
  dist:=fun i j hi hj _ _ hij b hb=>⟨m.dist i j ((hrng i).1 hi) ((hrng j).1 hj) hij b hb,fun⟨c,hb'⟩=>by
   have h1:=hd b (m.own i ((hrng i).1 hi) b hb);rw[m.fz j ((hrng j).1 hj) b c hb'] at h1;cases h1⟩
  nl:=fun id hn=>St.hdr_none hw id hn.1
  wl:=fun id k hx _=>by
   rcases hx with hx|hx
   ·cases hx
   ·exact(hwr id hx).lv
  wrm:=fun id hn hx=>by
   by_cases h1:id∈rid++gs
   ·exact hwr id h1
   ·simp only[List.mem_append,not_or] at h1;exact hx.of_hdr (by simp only[St.H,hold id hn h1.1 h1.2])
  wrow:=fun id k hx hn=>by
   rcases hx with hx|hx
   ·cases hx
   ·exact absurd hx hn}
end
def eqC:Value→Value→Bool
 | .int k n,.int k' n'=>(k==k')&&(n==n')
 | .string a,.string b=>beqL a.data.toList b.data.toList
 | .tuple a,.tuple b=>match a.toList,b.toList with
   |[.chan (some 3),.bool x],[.chan (some 3),.bool y]=>x==y
   |[.chan (some 4),.int k n],[.chan (some 4),.int k' n']=>(k==k')&&(n==n')
   |_,_=>false
 |_,_=>false
theorem eqC_eq {a b:Value} (h:eqC a b=true):a=b:=by
 cases a<;>cases b<;>first|(simp only[eqC] at h;cases h;done)|skip
 ·simp only[eqC,Bool.and_eq_true,beq_iff_eq] at h;rw[h.1,h.2]
 ·simp only[eqC,beqL_eq,beq_iff_eq] at h;congr 1;apply ByteArray.ext;exact Array.ext' h
 ·rename_i a b;simp only[eqC] at h
  split at h
  ·rename_i x y h1 h2;rw[beq_iff_eq] at h;subst h;congr 1;exact Array.ext' (h1.trans h2.symm)
  ·rename_i k n k' n' h1 h2;simp only[Bool.and_eq_true,beq_iff_eq] at h;obtain⟨rfl,rfl⟩:=h;congr 1;exact Array.ext' (h1.trans h2.symm)
  ·cases h
def eqCs:List Value→List Value→Bool
 |[],[]=>true
 |a::as,b::bs=>bif eqC a b then eqCs as bs else false
 |_,_=>false
theorem eqCs_eq:∀{a b:List Value},eqCs a b=true→a=b
 |[],[],_=>rfl
 |a::as,b::bs,h=>by
  simp only[eqCs] at h;cases hc:eqC a b
  ·rw[hc] at h;cases h
  ·rw[hc,cond_true] at h;rw[eqC_eq hc,eqCs_eq h]
 |[],_::_,h=>by cases h
 |_::_,[],h=>by cases h
def glOK (σ:St):List (Nat×List Value)→Bool
 |[]=>true
 |p::ps=>match σ.heap.get p.1 with
  |some (.row cs _ _)=>bif eqCs cs p.2 then glOK σ ps else false
  |_=>false
theorem glOK_spec {σ:St}:∀{gl:List (Nat×List Value)},glOK σ gl=true→∀p,p∈gl→∃e ro,σ.heap.get p.1=some (.row p.2 e ro)
 |[],_,p,hp=>by cases hp
 |q::qs,h,p,hp=>by
  simp only[glOK] at h
  split at h
  ·rename_i cs e ro hg;cases hc:eqCs cs q.2
   ·rw[hc] at h;cases h
   ·rw[hc,cond_true] at h;rcases List.mem_cons.1 hp with rfl|hp
    ·exact⟨e,ro,by rw[hg,eqCs_eq hc]⟩
    ·exact glOK_spec h p hp
  ·cases h
def nodupB:List Nat→Bool
 |[]=>true
 |a::l=>bif memL a l then false else nodupB l
theorem nodupB_spec:∀{l:List Nat},nodupB l=true→l.Nodup
 |[],_=>.nil
 |a::l,h=>by
  simp only[nodupB] at h;cases hm:memL a l
  ·rw[hm,cond_false] at h;exact List.nodup_cons.2 ⟨memL_spec hm,nodupB_spec h⟩
  ·rw[hm] at h;cases h
def rootV (σ:St) (S:OSpec) (v:Value):Option (CO S.root.Den×Nat):=
 match v with
 | .pointer (some ⟨id,0,none⟩)=>match σ.heap.get id with
   |some (.row cs e false)=>bif Nat.beq e S.re then match objD σ S.root cs with
    |some ⟨x,[],i,g,f,p⟩=>some (⟨x,[],i,g,f,p⟩,id)
    |_=>none
    else none
   |_=>none
 |_=>none
def rootD (σ:St) (S:OSpec) (args:List Value):Option (CO S.root.Den×List Nat×List Value):=
 bif S.rb then match getR S.ri args with
  |some (v,rest)=>match rootV σ S v with
   |some (c,id)=>some (c,[id],rest)
   |none=>none
  |none=>none
 else some (⟨S.root.dflt,[],[],[],[],[]⟩,[],args)
def callObj (E:Env) (S:OSpec) (args:List Value) (σ:St):Option (Value×St×Foot):=
 match rootD σ S args with
 |some (c,rid,rest)=>match resD σ S.ts rest with
  |some d=>bif glOK σ E.gl&&nodupB (rid++((c.g++d.g)++(c.f++d.f)))&&isWr σ ((c.g++d.g)++(c.f++d.f))&&isLive σ (c.i++d.i)&& !memAny (E.gl.map (·.1)) (rid++((c.g++d.g)++(c.f++d.f))) then
    match matB S.rb S.root (S.g c.x d.x).1 (σ.puts ((c.g++d.g)++(c.f++d.f))) with
    |(vs,σ1)=>match matR S.rs (S.g c.x d.x).2 σ1 with
     |(ws,σ2)=>some (resV ws,(putR σ2 rid vs S.re).assumes (S.pre c.x d.x::(c.p++d.p)),⟨[],(c.i++d.i)++E.gl.map (·.1),[],rid++((c.g++d.g)++(c.f++d.f))⟩)
   else none
  |none=>none
 |none=>none
section
variable {P:Program} {E:Env} (hE:E.OK P)
theorem rootV_spec {σ:St} {S:OSpec} {v:Value} {c:CO S.root.Den} {id:Nat} (h:rootV σ S v=some (c,id)):
  ∃cs,v=.pointer (some ⟨id,0,none⟩)∧σ.heap.get id=some (.row cs S.re false)∧objD σ S.root cs=some c∧c.r=[]:=by
 unfold rootV at h
 split at h
 ·rename_i id'
  split at h
  ·rename_i cs e hg;cases he:Nat.beq e S.re
   ·rw[he] at h;cases h
   rw[he,cond_true] at h;have he:=Nat.eq_of_beq_eq_true he;subst he
   split at h
   ·rename_i x i g f p ho;simp only[Option.some.injEq,Prod.mk.injEq] at h;obtain⟨rfl,rfl⟩:=h;exact⟨cs,rfl,hg,ho,rfl⟩
   ·cases h
  ·cases h
 ·cases h
theorem rootD_spec {σ:St} {S:OSpec} {args rest:List Value} {c:CO S.root.Den} {rid:List Nat} (h:rootD σ S args=some (c,rid,rest)):
  (S.rb=true∧∃id cs,getR S.ri args=some (.pointer (some ⟨id,0,none⟩),rest)∧rid=[id]∧σ.heap.get id=some (.row cs S.re false)∧objD σ S.root cs=some c∧c.r=[])∨(S.rb=false∧args=rest∧rid=[]∧c=⟨S.root.dflt,[],[],[],[],[]⟩):=by
 unfold rootD at h;cases hb:S.rb
 ·rw[hb,cond_false] at h;simp only[Option.some.injEq,Prod.mk.injEq] at h;obtain⟨rfl,rfl,rfl⟩:=h;exact .inr ⟨rfl,rfl,rfl,rfl⟩
 ·rw[hb,cond_true] at h
  split at h
  ·rename_i v rest' hg
   split at h
   ·rename_i c' id hv;simp only[Option.some.injEq,Prod.mk.injEq] at h;obtain⟨rfl,rfl,rfl⟩:=h;obtain⟨cs,rfl,h2,h3,h4⟩:=rootV_spec hv;exact .inl ⟨rfl,id,cs,hg,rfl,h2,h3,h4⟩
   ·cases h
  ·cases h
theorem getR_lr {D:Nat→Prop} {ι:Nat→Reg}:∀{k:Nat} {args us rest:List Value} {v:Value},getR k args=some (v,rest)→LR D ι args us→∃u us',us=insR k [u] us'∧VR D ι v u∧LR D ι rest us'
 |0,_,_,rest,v,h,hl=>by
  cases hl with
  |nil=>simp[getR] at h
  |cons hv ht=>
   simp only[getR,Option.some.injEq,Prod.mk.injEq] at h;obtain⟨rfl,rfl⟩:=h;exact⟨_,_,rfl,hv,ht⟩
 |k+1,_,_,rest,v,h,hl=>by
  cases hl with
  |nil=>simp[getR] at h
  |cons hv ht=>
   simp only[getR] at h
   split at h
   ·rename_i u r' hg;simp only[Option.some.injEq,Prod.mk.injEq] at h;obtain⟨rfl,rfl⟩:=h;obtain⟨u',us',rfl,h1,h2⟩:=getR_lr hg ht;exact⟨u',_,(insR_cons k _ _ _).symm,h1,.cons hv h2⟩
   ·cases h
theorem fzC_sub {ι:Nat→Reg} {w:World} {is gs is' gs':List Nat} (h1:∀id,id∈is→id∈is') (h2:∀id,id∈gs→id∈gs') (b:Nat) (c:Array Value) (h:fzC ι is gs w b=some c):fzC ι is' gs' w b=some c:=by
 have hin:=fzC_in h;obtain⟨e,fr,hh⟩:=fzC_ok b c h;unfold fzC;rw[if_pos,hh];exact hin.imp (fun⟨id,k1,k2⟩=>⟨id,h1 id k1,k2⟩) fun⟨id,k1,k2⟩=>⟨id,h2 id k1,k2⟩
theorem resV_rel {D:Nat→Prop} {ι:Nat→Reg} {ws us:List Value} (h:LR D ι ws us):VR D ι (resV ws) (resV us):=by
 cases h with
 |nil=>exact .tuple _ _ rfl (by simp)
 |cons h t=>
  cases t with
  |nil=>exact h
  |cons h2 t=>
   obtain⟨a1,a2⟩:=LR.AR (.cons h (.cons h2 t));exact .tuple _ _ a1 a2
theorem assumes_same {σ:St}:∀(ps:List Bool),(σ.assumes ps).next=σ.next∧(σ.assumes ps).H=σ.H
 |[]=>⟨rfl,rfl⟩
 |_::ps=>assumes_same ps
include hE
theorem callObj_sound (hgl:∀{σ:St},glOK σ E.gl=true→∀{D:Nat→Prop} {ι:Nat→Reg} {w:World} {φ:Foot},GI E D ι→(∀p,p∈E.gl→p.1∈φ.rh)→HOn P D ι σ.H φ w→GlW E.gl w) {S:OSpec} {f:FuncId} (hS:E.osp f=some S) {args:List Value} {σ σ':St} {v:Value} {φ:Foot} (h:callObj E S args σ=some (v,σ',φ)):
  σ.next≤σ'.next∧(σ.wf→σ'.wf∧AFr σ σ' φ)∧
  (σ'.Ok→∀(D:Nat→Prop) (ι:Nat→Reg) (w:World) (args':Array Value),σ.wf→GI E D ι→(∀id,σ.rng σ' id→¬D id)→AR D ι args.toArray args'→HOn P D ι σ.H φ w→
   Calls P f args' w fun e w'=>∃v' ι',e=.returned v'∧VR (fun i=>D i∨σ.rng σ' i) ι' v v'∧Post P D (σ.rng σ') ι σ.H w φ ι' σ'.H w'):=by
 unfold callObj at h
 split at h
 ·rename_i c rid rest hroot
  split at h
  ·rename_i d hres;cases hb:(glOK σ E.gl&&nodupB (rid++((c.g++d.g)++(c.f++d.f)))&&isWr σ ((c.g++d.g)++(c.f++d.f))&&isLive σ (c.i++d.i)&& !memAny (E.gl.map (·.1)) (rid++((c.g++d.g)++(c.f++d.f))))
   ·rw[hb] at h;cases h
   rw[hb,cond_true] at h;simp only[Bool.and_eq_true,Bool.not_eq_true'] at hb;obtain⟨⟨⟨⟨b1,b2⟩,b3⟩,b4⟩,b5⟩:=hb;have b5:=memAny_spec b5;have b2:=nodupB_spec b2;have b3:=isWr_spec b3;have b4:=isLive_spec b4;obtain⟨rfl,rfl,rfl⟩:v=resV (matR S.rs (S.g c.x d.x).2 (matB S.rb S.root (S.g c.x d.x).1 (σ.puts ((c.g++d.g)++(c.f++d.f)))).2).1∧
     σ'=(putR (matR S.rs (S.g c.x d.x).2 (matB S.rb S.root (S.g c.x d.x).1 (σ.puts ((c.g++d.g)++(c.f++d.f)))).2).2 rid (matB S.rb S.root (S.g c.x d.x).1 (σ.puts ((c.g++d.g)++(c.f++d.f)))).1 S.re).assumes (S.pre c.x d.x::(c.p++d.p))∧
     φ=⟨[],(c.i++d.i)++E.gl.map (·.1),[],rid++((c.g++d.g)++(c.f++d.f))⟩:=by
    simp only[Option.some.injEq,Prod.mk.injEq] at h;exact⟨h.1.symm,h.2.1.symm,h.2.2.symm⟩
   clear h;have hspec:=rootD_spec hroot;have hr:rid=[]∨∃k,rid=[k]:=by
    rcases hspec with⟨_,id,cs,_,h,_⟩|⟨_,_,h,_⟩
    ·exact .inr ⟨id,h⟩
    ·exact .inl h
   have hrw:∀id,id∈rid→∃cs0 e0,σ.heap.get id=some (.row cs0 e0 false):=fun id hid=>by
    rcases hspec with⟨_,id',cs,_,rfl,h,_⟩|⟨_,_,rfl,_⟩
    ·rw[List.mem_singleton] at hid;subst hid;exact⟨_,_,h⟩
    ·cases hid
   have hrl:∀id,id∈rid→Wr σ.H id:=fun id hid=>by
    obtain⟨cs,e,h⟩:=hrw id hid;exact⟨_,St.hdr_of h,rfl⟩
   generalize hG:(c.g++d.g)++(c.f++d.f)=G at b2 b3 b5⊢;have hA1:MatA (σ.puts G) (matB S.rb S.root (S.g c.x d.x).1 (σ.puts G)).2:=by
    unfold matB;cases S.rb
    ·exact .refl _
    ·exact matO_a _ _ _
   have hA:=hA1.trans (matR_a S.rs (S.g c.x d.x).2 _);generalize hm1:matB S.rb S.root (S.g c.x d.x).1 (σ.puts G)=m1 at hA1 hA⊢;generalize hm2:matR S.rs (S.g c.x d.x).2 m1.2=m2 at hA⊢;obtain⟨q1,q2⟩:=assumes_same (σ:=putR m2.2 rid m1.1 S.re) (S.pre c.x d.x::(c.p++d.p));have hle:σ.next≤m2.2.next:=by have:=hA.le;rwa[St.puts_next] at this
   have habs:Abs σ ⟨resV m2.1,putR m2.2 rid m1.1 S.re,⟨[],(c.i++d.i)++E.gl.map (·.1),[],rid++G⟩⟩:=⟨by rw[putR_next];exact hle,fun hw=>putR_afr hw hA hr (fun id h=>(hrl id h).lv) fun id h=>h⟩
   refine⟨(Abs.assumes _ habs).1,(Abs.assumes _ habs).2,?_⟩;intro hok D ι w args' hwf hGI hDn ha ho;obtain⟨⟨hpre,hps⟩, -⟩:=(assumes_ok _ _).1 hok;obtain⟨hp1,hp2⟩:=AllP_append hps;have hDn:∀id,σ.rng m2.2 id→¬D id:=fun id hr'=>hDn id (by simp only[St.rng,q1,putR_next] at hr'⊢;exact hr')
   have hgW:GlW E.gl w:=hgl b1 hGI (fun p hp=>List.mem_append_right _ (List.mem_map_of_mem hp)) ho;have hlr:LR D ι args args'.toList:=LR.of_AR (by simpa using ha);have hFi:∀id,id∈c.i++d.i∨id∈rid++G→(⟨[],(c.i++d.i)++E.gl.map (·.1),[],rid++G⟩:Foot).Fi id:=fun id h=>h.elim (fun h=>.inr (.inl (List.mem_append_left _ h))) fun h=>.inr (.inr (.inr h))
   have hFc:∀id k,id∈rid++G→(⟨[],(c.i++d.i)++E.gl.map (·.1),[],rid++G⟩:Foot).Fc id k:=fun id k h=>.inr (.inr (.inr h))
   have hgG:∀id,id∈c.g++d.g→id∈G:=fun id h=>by rw[←hG];exact List.mem_append_left _ h
   have hfG:∀id,id∈c.f++d.f→id∈G:=fun id h=>by rw[←hG];exact List.mem_append_right _ h
   have hX1:∀b cc,fzC ι (c.i++d.i) (c.f++d.f) w b=some cc→fzC ι ((c.i++d.i)++(c.g++d.g)) (c.f++d.f) w b=some cc:=fzC_sub (fun id h=>List.mem_append_left _ h) fun _ h=>h
   have hX2:∀id,id∈c.g++d.g→FzOK (ι id).fz w→∀b cc,(ι id).fz b=some cc→fzC ι ((c.i++d.i)++(c.g++d.g)) (c.f++d.f) w b=some cc:=fun id hid hz b cc hb=>fzC_fz (.inl (List.mem_append_right _ hid)) hz b cc hb
   have hd':∀id,id∈c.i++d.i∨id∈c.g++d.g∨id∈c.f++d.f→∀x,σ.H.hdr id=some x→HdrOK P ι id w x:=fun id hid x hx=>
    ho.hd id x (hFi id (hid.imp_right fun h=>List.mem_append_right _ (h.elim (hgG id) (hfG id)))) hx
   have hce':∀id,id∈c.g++d.g∨id∈c.f++d.f→∀k v,Lv σ.H id→σ.H.cell id k=some v→CellOK D ι id w k v:=fun id hid k v hl hv=>
    ho.ce id k v (hFc id k (List.mem_append_right _ (hid.elim (hgG id) (hfG id)))) hl hv
   have hinj:∀i j,i∈rid++G→(j∈c.i++d.i∨j∈rid++G)→i≠j→∀b,(ι i).Own b→¬(ι j).Own b∧¬(ι j).Fz b:=fun i j hi hj hij b hb=>
    ho.inj i j (hFi i (.inr hi)) (hFi j hj) ((List.mem_append.1 hi).elim (hrl i) (b3 i)) (hj.elim (fun h=>b4 j h) fun h=>((List.mem_append.1 h).elim (hrl j) (b3 j)).lv) hij b hb
   have hself:∀i,i∈rid++G→∀b,(ι i).Own b→¬(ι i).Fz b:=fun i hi b hb=>by
    obtain⟨y,hy,_⟩:=(List.mem_append.1 hi).elim (hrl i) (b3 i);exact(ho.hd i y (hFi i (.inr hi)) hy).self hb
   obtain⟨r,args2,hargs,hroV,hroB,hRt,hLr2,hRid⟩:∃(r:Reg) (args2:List Value),args'=(insR S.ri (roV S.rb r) args2).toArray∧(∀id,id∈rid→ι id=r)∧roB S.rb r=ownL ι rid∧
     (S.rb=true→RootOK P w (fzC ι ((c.i++d.i)++(c.g++d.g)) (c.f++d.f) w) r S.root S.re c.x (ownL ι c.g))∧LR D ι rest args2∧(S.rb=false→c.g=[]∧rid=[]):=by
    rcases hspec with⟨hb,id,cs,hob0,rfl,hg,hob,hcr⟩|⟨hb,rfl,rfl,rfl⟩
    ·generalize hus:args'.toList=us0 at hlr;obtain⟨u,us,rfl,hv,ht⟩:=getR_lr hob0 hlr;obtain⟨rfl,hDi⟩:=hv.ptr_inv
     ·have htrivial:=trivial;have hh:=ho.hd id _ (hFi id (.inr (List.mem_append_left _ (by simp)))) (St.hdr_of hg);have hh2:=hh;obtain⟨arr,el,fr,e1,e2,e3,⟨e4,e5⟩,e6⟩:=hh2;have e3:cs.length≤(ι id).room:=e3;have hlen:((arr.toList.drop (ι id).base).take cs.length).length=cs.length:=by
       simp only[List.length_take,List.length_drop,Array.length_toList];omega
      have hcell:∀k,k<cs.length→∃u,arr.toList[(ι id).base+k]?=some u∧∃v,cs[k]?=some v∧VR D ι v u:=by
       intro k hk;obtain⟨_,u,hu,hvu⟩:=ho.ceR id k cs[k] (hFc id k (List.mem_append_left _ (by simp))) (St.hdr_of hg) (by rw[St.cell_of hg];exact List.getElem?_eq_getElem hk);simp only[World.cell?,e1,Option.isSome_none,Bool.false_eq_true,if_false] at hu;exact⟨u,by rw[Array.getElem?_toList];exact hu,cs[k],List.getElem?_eq_getElem hk,hvu⟩
      have hlr0:LR D ι cs ((arr.toList.drop (ι id).base).take cs.length):=by
       refine LR.of_AR ⟨by simpa using hlen.symm,fun i a b ha hb=> ?_⟩;simp only[List.getElem?_toArray] at ha hb;rw[List.getElem?_take] at hb
       split at hb
       ·rename_i hi;obtain⟨u,hu,v,hv',hvu⟩:=hcell i hi;rw[List.getElem?_drop,hu] at hb;rw[hv'] at ha;cases ha;cases hb;exact hvu
       ·cases hb
      obtain⟨u1,u2,hu,k1,k2⟩:=objD_rd hX1 hX2 hd' hce' S.root cs _ c hob (fun _ h=>List.mem_append_left _ h) (fun _ h=>List.mem_append_left _ h) (fun _ h=>List.mem_append_left _ h) hp1 hlr0;rw[hcr] at k2;cases k2;rw[List.append_nil] at hu;refine⟨ι id,us,?_,fun j hj=>by rw[List.mem_singleton] at hj;rw[hj],?_,fun _=>⟨u1,?_,fun k u hk=> ?_,k1⟩,ht,fun h=>by rw[hb] at h;cases h⟩
      ·apply Array.ext';rw[hus,Nat.add_zero];simp only[roV,hb,cond_true]
      ·simp only[roB,hb,cond_true,ownL_one,e4]
      ·rw[←hu,hlen];exact HdrOK.as (ι0:=fun _=>ι id) hh rfl
      ·rw[←hu,List.getElem?_take] at hk
       split at hk
       ·rw[List.getElem?_drop,Array.getElem?_toList] at hk;simp only[World.cell?,e1,Option.isSome_none,Bool.false_eq_true,if_false];exact hk
       ·cases hk
    ·refine⟨rg 0 0 0 0,args'.toList,?_,fun id h=>(by cases h),?_,fun h=>(by rw[hb] at h;cases h),hlr,fun _=>⟨rfl,rfl⟩⟩
     ·apply Array.ext';simp[roV,hb,insR_nil]
     ·simp[roB,hb,ownL]
   have hRA:=resD_rd hX1 hX2 hd' hce' S.ts rest args2 d hres (fun _ h=>List.mem_append_right _ h) (fun _ h=>List.mem_append_right _ h) (fun _ h=>List.mem_append_right _ h) hp2 hLr2;have hall:roB S.rb r++(ownL ι c.g++ownL ι d.g)=ownL ι (rid++(c.g++d.g)):=by rw[hroB,ownL_append,ownL_append]
   have hsubG:∀id,id∈rid++(c.g++d.g)→id∈rid++G:=fun id h=>(List.mem_append.1 h).elim (fun h=>List.mem_append_left _ h) fun h=>List.mem_append_right _ (hgG id h)
   have hnd:(rid++(c.g++d.g)).Nodup:=by
    rw[←hG,←List.append_assoc] at b2;exact(List.nodup_append.1 b2).1
   have hdis:∀id,id∈rid++(c.g++d.g)→id∉c.f++d.f:=by
    rw[←hG,←List.append_assoc] at b2;exact fun id h h'=>(List.nodup_append.1 b2).2.2 id h id h' rfl
   have hN:(roB S.rb r++(ownL ι c.g++ownL ι d.g)).Nodup:=by
    rw[hall];exact ownL_nodup hnd fun i j hi hj hij b hb=>(hinj i j (hsubG i hi) (.inr (hsubG j hj)) hij b hb).1
   have hF0:∀b,b∈roB S.rb r++(ownL ι c.g++ownL ι d.g)→fzC ι ((c.i++d.i)++(c.g++d.g)) (c.f++d.f) w b=none:=fun b hb=>by
    rw[hall] at hb;obtain⟨id,h1,h2⟩:=ownL_mem.1 hb;cases hf:fzC ι ((c.i++d.i)++(c.g++d.g)) (c.f++d.f) w b with
    |none=>rfl
    |some cc=>
     exfalso;have noFz:∀j,(j∈c.i++d.i∨j∈rid++G)→¬(ι j).Fz b:=fun j hj hz=>by
      by_cases e:id=j
      ·subst e;exact hself id (hsubG id h1) b h2 hz
      ·exact(hinj id j (hsubG id h1) hj e b h2).2 hz
     rcases fzC_in hf with⟨j,j1,j2⟩|⟨j,j1,j2|j2⟩
     ·exact noFz j ((List.mem_append.1 j1).imp_right fun h=>List.mem_append_right _ (hgG j h)) j2
     ·exact(hinj id j (hsubG id h1) (.inr (List.mem_append_right _ (hfG j j1))) (fun e=>hdis id h1 (e▸j1)) b h2).1 j2
     ·exact noFz j (.inr (List.mem_append_right _ (hfG j j1))) j2
   have hGo:∀p,p∈E.gl→p.1∉roB S.rb r++(ownL ι c.g++ownL ι d.g):=fun p hp hb=>by
    rw[hall] at hb;obtain⟨id,h1,h2⟩:=ownL_mem.1 hb;obtain⟨e,ro,hrow⟩:=glOK_spec b1 p hp;have hfp:(⟨[],(c.i++d.i)++E.gl.map (·.1),[],rid++G⟩:Foot).Fi p.1:=.inr (.inl (List.mem_append_right _ (List.mem_map_of_mem hp)));have hown:=(ho.hd p.1 _ hfp (St.hdr_of hrow)).own_row;rw[(hGI p.1 (hE.gl p hp).1).2.1] at hown
    have hwid:=(List.mem_append.1 (hsubG id h1)).elim (hrl id) (b3 id);by_cases e:id=p.1
    ·exact b5 p.1 (List.mem_map_of_mem hp) (e▸hsubG id h1)
    ·exact(ho.inj id p.1 (hFi id (.inr (hsubG id h1))) hfp hwid (St.lv_of hrow) e p.1 h2).1 hown
   rw[hargs];refine(hE.osp f S hS _ w r (ownL ι c.g) (ownL ι d.g) args2 c.x d.x fzC_ok hgW hN hF0 hGo hRt (fun h=>by rw[(hRid h).1];rfl) hRA hpre).mono ?_;rintro en w' ⟨ws,fz',own1,own2,rfl,g1,g2,g3,g4,g5,g6,g7,g8,g9,s1,s2,s3,s4⟩;have hn2:(own1++own2).Nodup:=(List.nodup_append.1 g4).2.1;have hn3:=List.nodup_append.1 hn2
   obtain⟨ι1,k1,k2,k3⟩:∃ι1,MatP P w' fz' own1 D ι (σ.puts G) m1.2 ι1∧(S.rb=true→HdrOK P (fun _=>r) 0 w' (.row m1.1.length S.re false))∧
     (S.rb=true→∀(k:Nat) v,m1.1[k]?=some v→r.own=true∧∃u,w'.cell? ⟨r.blk,r.base+k,none⟩=some u∧VR (fun i=>D i∨(σ.puts G).rng m1.2 i) ι1 v u):=by
    cases hb:S.rb
    ·have e:own1=[]:=g8 hb;subst e;have:m1=([],σ.puts G):=by rw[←hm1];unfold matB;rw[hb];rfl
     rw[this];exact⟨ι,.refl,fun h=>(by cases h),fun h=>(by cases h)⟩
    ·obtain⟨us,r1,r2,r3⟩:=g7 hb;have e:m1=matO S.root (S.g c.x d.x).1 (σ.puts G):=by rw[←hm1];unfold matB;rw[hb];rfl
     have l2:=(matR_a S.rs (S.g c.x d.x).2 m1.2).le;rw[hm2] at l2;obtain⟨ι1,k1,k2,k3⟩:=matO_ok g2 S.root (S.g c.x d.x).1 us own1 D ι (σ.puts G) r3 hn3.1 (by rw[←e];exact fun id hr'=>hDn id (by simp only[St.rng,St.puts_next] at hr'⊢;omega));rw[←e] at k1 k2 k3;have hown:r.own=true:=by obtain⟨_,_,_,_,_,_,⟨h,_⟩,_⟩:=r1;exact h
     refine⟨ι1,k1,fun _=>by rw[k2];exact r1,fun _ k v hv=>⟨hown,?_⟩⟩;have hlt:k<us.length:=by
      rcases Nat.lt_or_ge k us.length with h|h
      ·exact h
      ·rw[List.getElem?_eq_none (by omega)] at hv;cases hv
     exact⟨us[k],r2 k _ (List.getElem?_eq_getElem hlt),k3 k v _ hv (List.getElem?_eq_getElem hlt)⟩
   have l1:=hA1.le;have l2:=(matR_a S.rs (S.g c.x d.x).2 m1.2).le;rw[hm2] at l2;rw[St.puts_next] at l1;have hD2:∀id,m1.2.rng m2.2 id→¬(D id∨(σ.puts G).rng m1.2 id):=fun id hr' hid=>by
    rcases hid with hid|hid
    ·exact hDn id (by simp only[St.rng] at hr'⊢;omega) hid
    ·simp only[St.rng,St.puts_next] at hr' hid;omega
   obtain⟨ι2,p1,p2⟩:=matR_ok g2 S.rs (S.g c.x d.x).2 ws own2 _ ι1 m1.2 g9 hn3.2.1 (by rw[hm2];exact hD2);rw[hm2] at p1 p2;have hall2:=k1.trans (by rw[show(σ.puts G).rng m2.2=σ.rng m2.2 by funext i;simp only[St.rng,St.puts_next]];exact hDn) p1 fun b hb hb'=>hn3.2.2 b hb b hb' rfl
   have hup:∀i,(D i∨(σ.puts G).rng m1.2 i)∨m1.2.rng m2.2 i→D i∨σ.rng ((putR m2.2 rid m1.1 S.re).assumes (S.pre c.x d.x::(c.p++d.p))) i:=fun i hi=>by
    simp only[St.rng,q1,putR_next,St.puts_next] at hi⊢;rcases hi with(hi|hi)|hi
    ·exact .inl hi
    ·exact .inr (by omega)
    ·exact .inr (by omega)
   refine⟨resV ws,ι2,rfl,?_,?_⟩
   ·refine(resV_rel p2).mono hup fun _ _=>rfl
   ·have hrng:σ.rng ((putR m2.2 rid m1.1 S.re).assumes (S.pre c.x d.x::(c.p++d.p)))=σ.rng (putR m2.2 rid m1.1 S.re):=by funext i;simp only[St.rng,q1]
    rw[q2,hrng];have htot:∀b,b∈roB S.rb r++(ownL ι c.g++ownL ι d.g)→∃k,k∈rid++G∧Wr σ.H k∧(ι k).Own b:=fun b hb=>by
     rw[hall] at hb;obtain⟨id,h1,h2⟩:=ownL_mem.1 hb;exact⟨id,hsubG id h1,(List.mem_append.1 (hsubG id h1)).elim (hrl id) (b3 id),h2⟩
    have hown:∀b,b∈ownL ι c.g++ownL ι d.g→∃k,k∈G∧Wr σ.H k∧(ι k).Own b:=fun b hb=>by
     rw[←ownL_append] at hb;obtain⟨id,h1,h2⟩:=ownL_mem.1 hb;exact⟨id,hgG id h1,b3 id (hgG id h1),h2⟩
    refine objPost hwf hall2 hr (fun k hk=> ?_) b3 s1 s2 s3 (fun b hb hx=>s4 b hb fun hbm=> ?_) (fun b hb=> ?_) (fun b cc hb=> ?_) fun b hb=>g5 b (List.mem_append_right _ hb)
    ·have hrb:S.rb=true:=by
      cases hb:S.rb
      ·rw[(hRid hb).2] at hk;cases hk
      ·rfl
     have hkl:=St.lv_lt hwf (hrl k hk).lv;have hio:ι2 k=r:=by
      rw[hall2.io k fun h=>by simp only[St.rng,St.puts_next] at h;omega];exact hroV k hk
     refine⟨hrw k hk,fun h=> ?_,(k2 hrb).as hio,fun j v hv=> ?_⟩
     ·exact(List.nodup_append.1 b2).2.2 k hk k h rfl
     ·obtain⟨o1,u,o2,o3⟩:=k3 hrb j v hv;refine⟨by rw[hio];exact o1,u,by rw[hio];exact .inl o2,o3.mono (fun i hi=> ?_) fun i hi=>p1.io i fun h=>hD2 i h hi⟩;simp only[St.rng,St.puts_next] at hi⊢;rcases hi with hi|hi
      ·exact .inl hi
      ·exact .inr (by omega)
    ·obtain⟨k,h1,h2,h3⟩:=htot b hbm;exact hx k h1 h2 h3
    ·rcases g6 b hb with h|h
     ·exact .inr (hown b h)
     ·refine .inl ⟨h,?_⟩;rcases List.mem_append.1 hb with hb|hb
      ·cases hrb:S.rb
       ·rw[g8 hrb] at hb;cases hb
       ·obtain⟨us,_,_,r3⟩:=g7 hrb;exact r3.lt _ _ _ _ b hb
      ·exact g9.lt _ _ _ _ b hb
    ·rcases g3 b cc hb with h|h|h
     ·rcases fzC_in h with⟨k,k1,k2⟩|⟨k,k1,k2|k2⟩
      ·rcases List.mem_append.1 k1 with k1|k1
       ·exact .inr (.inr ⟨k,.inl (List.mem_append_left _ k1),b4 k k1,k2⟩)
       ·exact .inr (.inr ⟨k,.inr (hgG k k1),(b3 k (hgG k k1)).lv,k2⟩)
      ·exact .inr (.inl ⟨k,hfG k k1,b3 k (hfG k k1),k2⟩)
      ·exact .inr (.inr ⟨k,.inr (hfG k k1),(b3 k (hfG k k1)).lv,k2⟩)
     ·obtain⟨ee,fr,hh⟩:=g2 b cc hb;exact .inl ⟨h,heap_lt hh⟩
     ·exact .inr (.inl (hown b h))
  ·cases h
 ·cases h
end
end Go.Eng
namespace Go.Eng
open Go
def Ty.flat:Ty→Bool
 | .slice _=>false
 | .ref _=>false
 | .clo _ _=>false
 | .pair a b=>a.flat&&b.flat
 |_=>true
def argsC (σ:St):(ts:List Ty)→List Value→Option (CD (DenL ts))
 |[],[]=>some ⟨(),[],[],[],[]⟩
 |t::ts,v::vs=>match(bif t.agg then(match v with| .agg cs=>some cs.toList|_=>none) else some [v]) with
  |some cs=>match cellsC σ t cs with
   |some ⟨x,[],i,g,p⟩=>match argsC σ ts vs with
    |some ⟨y,_,j,h,q⟩=>some ⟨(x,y),[],i++j,g++h,p++q⟩
    |none=>none
   |_=>none
  |none=>none
 |_,_=>none
section
variable {P:Program} {D:Nat→Prop} {ι:Nat→Reg} {σ:St} {w:World} {is gs:List Nat}
theorem argsC_rd (hd:∀id,id∈is∨id∈gs→∀x,σ.H.hdr id=some x→HdrOK P ι id w x) (hce:∀id,id∈gs→∀k v,Lv σ.H id→σ.H.cell id k=some v→CellOK D ι id w k v):
  ∀(ts:List Ty) (vs us:List Value) (c:CD (DenL ts)),argsC σ ts vs=some c→(∀id,id∈c.i→id∈is)→(∀id,id∈c.g→id∈gs)→AllP c.p→LR D ι vs us→RdAll (fzC ι is gs w) ts c.x us
 |[],vs,us,c,h,_,_,_,hl=>by
  cases hl with
  |nil=>rfl
  |cons _ _=>simp[argsC] at h
 |t::ts,vs,us,c,h,hi,hg,hp,hl=>by
  cases hl with
  |nil=>simp[argsC] at h
  |cons hv ht=>
   rename_i v u vs us;simp only[argsC] at h
   split at h
   ·rename_i cs hcs
    split at h
    ·rename_i x1 i1 g1 p1 h1
     split at h
     ·rename_i y r j g2 q h2;cases h;obtain⟨q1,q2⟩:=AllP_append hp;refine⟨u,us,rfl,?_,argsC_rd hd hce ts vs us ⟨y,r,j,g2,q⟩ h2 (fun id h=>hi id (List.mem_append_right _ h)) (fun id h=>hg id (List.mem_append_right _ h)) q2 ht⟩;have me:=cellsC_rd hd hce t;cases hagg:t.agg
      ·rw[hagg] at hcs;cases hcs;obtain⟨u1,u2,e1,k1,k2⟩:=me [v] [u] ⟨x1,[],i1,g1,p1⟩ h1 (fun id h=>hi id (List.mem_append_left _ h)) (fun id h=>hg id (List.mem_append_left _ h)) q1 (.cons hv .nil);cases k2;rw[List.append_nil] at e1;rw[←e1] at k1;exact .inr ⟨hagg,k1⟩
      ·rw[hagg,cond_true] at hcs
       split at hcs
       ·rename_i as;cases hcs;cases hv with
        |agg _ bs hs hh=>
         obtain⟨u1,u2,e1,k1,k2⟩:=me as.toList bs.toList ⟨x1,[],i1,g1,p1⟩ h1 (fun id h=>hi id (List.mem_append_left _ h)) (fun id h=>hg id (List.mem_append_left _ h)) q1 (LR.of_AR ⟨by simpa using hs,by simpa using hh⟩);cases k2;rw[List.append_nil] at e1;rw[←e1] at k1;exact .inl ⟨hagg,bs,rfl,k1⟩
       ·cases hcs
     ·cases h
    ·cases h
   ·cases h
theorem RdC.flat {fz fz':Nat→Option (Array Value)}:∀(t:Ty) (x:t.Den) (cs:List Value),t.flat=true→RdC fz t x cs→RdC fz' t x cs:=by
 intro t
 induction t with
 |pair a b iha ihb=>
  intro x cs hf hr;simp only[Ty.flat,Bool.and_eq_true] at hf;simp only[RdC] at hr⊢;obtain⟨c1,c2,rfl,h1,h2⟩:=hr;exact⟨c1,c2,rfl,iha _ _ hf.1 h1,ihb _ _ hf.2 h2⟩
 |slice a ih=>intro x cs hf;cases hf
 |ref a ih=>intro x cs hf;cases hf
 |clo f a ih=>intro x cs hf;cases hf
 |_=>intro x cs _ hr;exact hr
theorem RdAll.flat {fz fz':Nat→Option (Array Value)}:∀{ts:List Ty} {x:DenL ts} {vs:List Value},ts.all Ty.flat=true→RdAll fz ts x vs→RdAll fz' ts x vs
 |[],_,_,_,hr=>hr
 |t::ts,_,_,hf,⟨v,r,e,h1,h2⟩=>by
  simp only[List.all_cons,Bool.and_eq_true] at hf;exact⟨v,r,e,h1.imp (fun⟨a,cs,e,r⟩=>⟨a,cs,e,r.flat _ _ _ hf.1⟩) fun⟨a,r⟩=>⟨a,r.flat _ _ _ hf.1⟩,RdAll.flat hf.2 h2⟩
end
end Go.Eng
end
end
end
section
noncomputable section
noncomputable section
namespace Go.Eng
open Go
def CallF:Type:=FuncId→List Value→St→Option (Value×St×Foot)
def aPut (nt:Nat) (s:Tr Value) (dst:Option Tmp) (v:Value):Option (Tr Value):=
 match dst with
 |none=>some s
 |some d=>bif Nat.blt d nt then some (s.set d (some v)) else none
def oget:List Oper→Nat→Option Oper
 |[],_=>none
 |x::_,0=>some x
 |_::xs,n+1=>oget xs n
theorem oget_eq:∀(l:List Oper) (k:Nat),oget l k=l[k]?
 |[],k=>by simp[oget]
 |x::xs,0=>by simp[oget]
 |x::xs,k+1=>by simp[oget,oget_eq xs k]
def notB:Value→Bool
 | .chan (some _)=>false
 | .tuple a=> !isSyL a.toList
 |_=>true
def aWanted (ops:List Oper) (s:Tr Value) (o:Oper):Option Bool:=
 match o.guard with
 |none=>some true
 |some (j,want)=>match oget ops j with
  |some g=>match g.dst with
   |some d=>match s.get d with
    |some (.bool b)=>some (b==want)
    |some v=>bif notB v then some false else none
    |none=>none
   |none=>some false
  |none=>some false
def resolve (v:Value) (σ:St):Option (Value×St):=
 match v with
 | .tuple a=>match a.toList with
   |[.chan (some 1),.bool b]=>some (.bool b,σ)
   |_=>some (v,σ)
 |_=>some (v,σ)
theorem resolve_spec {v u:Value} {σ σ':St} (h:resolve v σ=some (u,σ')):(u=v∨∃b,v=sy (.bool b)∧u=.bool b)∧σ'=σ:=by
 unfold resolve at h
 split at h
 ·rename_i a
  split at h
  ·rename_i b hb;cases h;refine⟨.inr ⟨b,?_,rfl⟩,rfl⟩;obtain⟨l⟩:=a;simp only at hb;rw[hb]
  ·cases h;exact⟨.inl rfl,rfl⟩
 ·cases h;exact⟨.inl rfl,rfl⟩
theorem resolve_abs {v u:Value} {σ σ1 σ':St} {φ:Foot} (h:resolve v σ1=some (u,σ')) (a:σ.next≤σ1.next∧(σ.wf→σ1.wf∧AFr σ σ1 φ)):σ.next≤σ'.next∧(σ.wf→σ'.wf∧AFr σ σ' φ):=by
 obtain⟨-,rfl⟩:=resolve_spec h;exact a
theorem resolve_ok {v u:Value} {σ σ':St} (h:resolve v σ=some (u,σ')) (ho:σ'.Ok):σ.Ok∧(∀D ι v',VR D ι v v'→VR D ι u v')∧σ'.H=σ.H∧σ'.next=σ.next:=by
 obtain⟨hu,rfl⟩:=resolve_spec h;refine⟨ho,fun D ι v' hv=> ?_,rfl,rfl⟩;rcases hu with rfl|⟨b,rfl,rfl⟩
 ·exact hv
 ·cases hv with
  |sym _ _=>exact .bool b
  |tuple as bs hs hh=>
   have hb:bs[0]?=some (bs[0]'(by rw[←hs];exact Nat.succ_pos _)):=Array.getElem?_eq_getElem _;exact(hh 0 _ _ rfl hb).no_chan.elim
def aStep (P:Program) (E:Env) (call:CallF) (nt:Nat) (ops:List Oper) (o:Oper) (s:Tr Value) (σ:St):Option (Tr Value×St×Foot):=
 match aWanted ops s o with
 |some true=>match aOpS P E s σ o with
  |some (.val r)=>match resolve r.v r.σ with
   |some (v,σ')=>match aPut nt s o.dst v with
    |some s'=>some (s',σ',r.φ)
    |none=>none
   |none=>none
  |some (.enter f args)=>match call f args σ with
   |some (v,σ1,φ)=>match resolve v σ1 with
    |some (v,σ')=>match aPut nt s o.dst v with
     |some s'=>some (s',σ',φ)
     |none=>none
    |none=>none
   |none=>none
  |none=>none
 |some false=>match aPut nt s o.dst undef with
  |some s'=>some (s',σ,.nil)
  |none=>none
 |none=>none
def evOps (P:Program) (E:Env) (call:CallF) (nt:Nat) (all:List Oper):List Oper→Tr Value→St→Option (Tr Value×St×Foot)
 |[],s,σ=>some (s,σ,.nil)
 |o::os,s,σ=>match aStep P E call nt all o s σ with
  |some (s1,σ1,φ1)=>match evOps P E call nt all os s1 σ1 with
   |some (s2,σ2,φ2)=>some (s2,σ2,φ1.add φ2)
   |none=>none
  |none=>none
def SRel (nt:Nat) (D:Nat→Prop) (ι:Nat→Reg) (s:Tr Value) (a:Act):Prop:=
 a.tmps.size=nt∧∀t v,s.get t=some v→t<nt∧VR D ι v (a.tmps.getD t undef)
structure CallSound (P:Program) (E:Env) (call:CallF):Prop where
 ok:∀f args σ v σ' φ,call f args σ=some (v,σ',φ)→σ.next≤σ'.next∧(σ.wf→σ'.wf∧AFr σ σ' φ)∧
  (σ'.Ok→∀(D:Nat→Prop) (ι:Nat→Reg) (w:World) (args':Array Value),σ.wf→GI E D ι→(∀id,σ.rng σ' id→¬D id)→AR D ι args.toArray args'→HOn P D ι σ.H φ w→
   Calls P f args' w fun e w'=>∃v' ι',e=.returned v'∧VR (fun i=>D i∨σ.rng σ' i) ι' v v'∧Post P D (σ.rng σ') ι σ.H w φ ι' σ'.H w')
section
variable {P:Program} {E:Env} (hE:E.OK P) {call:CallF} (hC:CallSound P E call) {D:Nat→Prop} {ι:Nat→Reg} {σ σ1:St} {w:World} {s s1:Tr Value} {a:Act} {nt:Nat} {ops:Array Oper} {φ:Foot}
theorem rel_of {G:Nat} {x:Operand} (hg:∀g,g<G→D g∧(ι g).blk=g∧(ι g).base=0) (ht:∀t,x=.tmp t→∀v,s.get t=some v→VR D ι v (a.tmps.getD t undef)):Rel G D ι s a.eval x:=by
 intro v h;cases x with
 |tmp t=>exact ht t rfl v h
 |const c=>
  simp only[av] at h;cases hp:plainN 8 c
  ·rw[hp] at h;cases h
  ·rw[hp,cond_true] at h;simp only[Option.some.injEq] at h;subst h;exact plain_refl 8 c hp
 |global g=>
  simp only[av] at h;cases hb:Nat.blt g G
  ·rw[hb] at h;cases h
  ·rw[hb] at h;cases h;have hlt:g<G:=by simpa using hb
   obtain⟨h1,h2,h3⟩:=hg g hlt;have:=VR.ptr (D:=D) (ι:=ι) g 0 h1;rw[h2,h3] at this;exact this
 |func f=>
  simp only[av] at h;cases h;exact plain_refl 2 _ rfl
def PutSpec (nt:Nat) (s s1:Tr Value) (dst:Option Tmp) (v:Value):Prop:=
 (dst=none→s1=s)∧∀d,dst=some d→d<nt∧∀t,s1.get t=if t=d then some v else s.get t
theorem aPut_spec {dst:Option Tmp} {v:Value} (h:aPut nt s dst v=some s1):PutSpec nt s s1 dst v:=by
 unfold aPut at h
 split at h
 ·cases h;exact⟨fun _=>rfl,fun d e=>by cases e⟩
 ·rename_i d;cases hb:Nat.blt d nt
  ·rw[hb] at h;cases h
  ·rw[hb] at h;cases h;refine⟨fun e=>(by cases e),fun d' e=> ?_⟩;cases e;exact⟨by simpa using hb,fun t=>Tr.set_get _ _ _ _⟩
theorem aWanted_run {o:Oper} {b:Bool} (h:aWanted ops.toList s o=some b) (hs:a.tmps.size=nt) (hr:∀t,t∈o.looksAt ops→∀v,s.get t=some v→t<nt∧VR D ι v (a.tmps.getD t undef)):
  Region.wanted o (yielded ops a.tmps)=b:=by
 unfold aWanted at h;unfold Region.wanted
 split at h
 ·rename_i hg;cases h;rw[hg]
 ·rename_i j want hg;rw[hg];simp only;rw[oget_eq,Array.getElem?_toList] at h
  split at h
  ·rename_i g hj
   split at h
   ·rename_i d hd;have hy:yielded ops a.tmps j=match a.tmps[d]? with|some (.bool b)=>some b|_=>none:=by
     unfold yielded;rw[hj];simp only[Option.bind_some,hd];rfl
    have hl:d∈o.looksAt ops:=by
     unfold Oper.looksAt;rw[hg];simp only[List.mem_append];right;rw[hj];simp[hd]
    rw[hy];have hlook:∀v,s.get d=some v→VR D ι v (a.tmps.getD d undef)∧a.tmps[d]?=some (a.tmps.getD d undef):=fun v hv=>by
     obtain⟨h1,h2⟩:=hr d hl v hv;refine⟨h2,?_⟩;have:d<a.tmps.size:=hs▸h1;rw[Array.getElem?_eq_getElem this,Array.getD_eq_getD_getElem?,Array.getElem?_eq_getElem this];rfl
    split at h
    ·rename_i bb hv;cases h;obtain⟨h1,h2⟩:=hlook _ hv;rw[h2];generalize a.tmps.getD d undef=u at h1;cases h1;simp
    ·rename_i v hno hv;cases hj:notB v
     ·rw[hj] at h;cases h
     rw[hj,cond_true] at h;cases h;obtain⟨h1,h2⟩:=hlook _ hv;rw[h2];have:∀b,a.tmps.getD d undef≠ .bool b:=by
      intro b e;rw[e] at h1;cases h1 with
      |junk _=>cases hj
      |sym _ _=>cases hj
      |err _ _ h=>cases h
      |bool _=>exact hno b rfl
     split
     ·rename_i b e;simp only[Option.some.injEq] at e;exact absurd e (this b)
     ·simp
    ·cases h
   ·rename_i hd;cases h;unfold yielded;rw[hj];simp[hd]
  ·rename_i hj;cases h;unfold yielded;rw[hj];simp
theorem looks_operand {o:Oper} {t:Tmp} (h:Operand.tmp t∈o.op.operands):t∈o.looksAt ops:=by
 unfold Oper.looksAt;simp only[List.mem_append,List.mem_filterMap];exact .inl ⟨.tmp t,by simpa using h,rfl⟩
include hE hC in
theorem aStep_sound {o:Oper} (h:aStep P E call nt ops.toList o s σ=some (s1,σ1,φ)):
  σ.next≤σ1.next∧(σ.wf→σ1.wf∧AFr σ σ1 φ)∧∃v,PutSpec nt s s1 o.dst v∧(σ1.Ok→
  ∀(D:Nat→Prop) (ι:Nat→Reg) (w:World) (a:Act) (i:Nat) (K:Act→World→Prop) (Q:Exit→Act→World→Prop),ops[i]?=some o→σ.wf→GI E D ι→(∀id,σ.rng σ1 id→¬D id)→a.tmps.size=nt→
   (∀t,t∈o.looksAt ops→∀v,s.get t=some v→t<nt∧VR D ι v (a.tmps.getD t undef))→HOn P D ι σ.H φ w→
   (∀v' ι' w',VR (fun i=>D i∨σ.rng σ1 i) ι' v v'→Post P D (σ.rng σ1) ι σ.H w φ ι' σ1.H w'→K (a.put o.dst v') w')→wpOp P ops Q i K a w):=by
 have hgi:∀(D:Nat→Prop) (ι:Nat→Reg) (a:Act),GI E D ι→(∀t,t∈o.looksAt ops→∀v,s.get t=some v→t<nt∧VR D ι v (a.tmps.getD t undef))→∀x,x∈o.op.operands→Rel E.G D ι s a.eval x:=
  fun D ι a hg hr x hx=>rel_of hg.b fun t e v hv=>(hr t (looks_operand (e▸hx)) v hv).2
 have hrng:∀{σ2:St},σ1.next=σ2.next→σ.rng σ1=σ.rng σ2:=fun e=>by funext id;simp only[St.rng,e]
 unfold aStep at h
 split at h
 ·rename_i hw
  split at h
  ·rename_i r hr
   split at h
   ·rename_i v σ' hrs
    split at h
    ·rename_i s' hp;cases h;have hab:=resolve_abs hrs (aOpS_abs hr);refine⟨hab.1,hab.2,v,aPut_spec hp,?_⟩;intro hok D ι w a i K Q hi hwf hg hd hs hl ho hK;obtain⟨k1,k2,k3,k4⟩:=resolve_ok hrs hok;rw[k3,hrng k4] at hK;rw[hrng k4] at hd;have hwt:=aWanted_run hw hs hl;unfold wpOp;rw[hi];simp only[hwt,if_true]
     left;obtain⟨_,_,h3⟩:=aOpS_val hE (w:=w) hr k1 (hgi D ι a hg hl);obtain⟨nx,v',ι',w',e1,e2,e3,e4⟩:=h3 hwf hd ho;unfold Oper.wp;rw[e1];rcases e2 with rfl|⟨rfl,rfl⟩
     ·exact hK v' ι' w' (k2 _ _ _ e3) e4
     ·exact hK undef ι' w' (k2 _ _ _ e3) e4
    ·cases h
   ·cases h
  ·rename_i f args hr
   split at h
   ·rename_i v0 σ0 φ' hc
    split at h
    ·rename_i v σ' hrs
     split at h
     ·rename_i s' hp;cases h;obtain⟨c1,c2,c3⟩:=hC.ok _ _ _ _ _ _ hc;have hab:=resolve_abs hrs ⟨c1,c2⟩;refine⟨hab.1,hab.2,v,aPut_spec hp,?_⟩;intro hok D ι w a i K Q hi hwf hg hd hs hl ho hK;obtain⟨k1,k2,k3,k4⟩:=resolve_ok hrs hok;rw[k3,hrng k4] at hK;rw[hrng k4] at hd;have hwt:=aWanted_run hw hs hl;unfold wpOp
      rw[hi];simp only[hwt,if_true];left;obtain⟨args',fn,g1,g2,g3⟩:=aOpS_enter hE (w:=w) hr (hgi D ι a hg hl);unfold Oper.wp;rw[g3,Oper.upon_enter];refine(c3 k1 D ι w args' hwf hg hd g1 ho).mono ?_;rintro e w' ⟨v',ι',rfl,q1,q2⟩;exact hK v' ι' w' (k2 _ _ _ q1) q2
     ·cases h
    ·cases h
   ·cases h
  ·cases h
 ·rename_i hw
  split at h
  ·rename_i s' hp;cases h;refine⟨Nat.le_refl _,fun hw=>⟨hw,AFr.refl _ _⟩,undef,aPut_spec hp,?_⟩;intro _ D ι w a i K Q hi hwf hg hd hs hl ho hK;have hwt:=aWanted_run hw hs hl;unfold wpOp;rw[hi];simp only[hwt,Bool.false_eq_true,if_false];exact hK undef ι w (plain_refl 2 _ rfl) (Post.same (St.rng_self σ) rfl rfl rfl rfl rfl)
  ·cases h
 ·cases h
end
end Go.Eng
end
end
end
section
noncomputable section
noncomputable section
namespace Go.Eng
open Go
section
variable {P:Program} {E:Env} (hE:E.OK P) {call:CallF} (hC:CallSound P E call) {D:Nat→Prop} {ι:Nat→Reg} {σ σ1 σ2:St} {w:World} {s s1:Tr Value} {a:Act} {nt:Nat} {ops:Array Oper} {φ:Foot}
theorem rng_union (h1:σ.next≤σ1.next) (h2:σ1.next≤σ2.next):(fun i=>σ.rng σ1 i∨σ1.rng σ2 i)=σ.rng σ2:=by
 funext i;apply propext;simp only[St.rng];omega
theorem D_union (D:Nat→Prop) (h1:σ.next≤σ1.next) (h2:σ1.next≤σ2.next):(fun i=>(D i∨σ.rng σ1 i)∨σ1.rng σ2 i)=fun i=>D i∨σ.rng σ2 i:=by
 funext i;have:σ.rng σ2 i=(σ.rng σ1 i∨σ1.rng σ2 i):=congrFun (rng_union h1 h2).symm i;rw[this];apply propext;exact or_assoc
theorem GI.next {ι':Nat→Reg} {N:Nat→Prop} (h:GI E D ι) (hd:∀id,N id→¬D id) (hi:∀id,¬N id→ι' id=ι id):GI E (fun i=>D i∨N i) ι':=by
 intro g hg;obtain⟨h1,h2,h3,h4⟩:=h g hg;have:ι' g=ι g:=hi g fun hn=>hd g hn h1
 exact⟨.inl h1,by rw[this];exact h2,by rw[this];exact h3,fun p hp e=>by rw[this];exact h4 p hp e⟩
theorem SRel.mono {D':Nat→Prop} {ι':Nat→Reg} (h:SRel nt D ι s a) (hD:∀i,D i→D' i) (hi:∀i,D i→ι' i=ι i):SRel nt D' ι' s a:=
 ⟨h.1,fun t v e=>⟨(h.2 t v e).1,(h.2 t v e).2.mono hD hi⟩⟩
theorem put_size (a:Act) (dst:Option Tmp) (v:Value):(a.put dst v).tmps.size=a.tmps.size:=by
 cases dst<;>simp[Act.put]
theorem put_defers (a:Act) (dst:Option Tmp) (v:Value):(a.put dst v).defers=a.defers:=by
 cases dst<;>rfl
theorem put_get_ne (a:Act) (dst:Option Tmp) (v:Value) (t:Nat) (h:dst≠some t):(a.put dst v).tmps.getD t undef=a.tmps.getD t undef:=by
 cases dst with
 |none=>rfl
 |some d=>
  have:d≠t:=fun e=>h (by rw[e])
  simp only[Act.put,Array.getD_eq_getD_getElem?,Array.getElem?_setIfInBounds_ne this]
theorem put_get_eq (a:Act) (d:Nat) (v:Value) (h:d<a.tmps.size):(a.put (some d) v).tmps.getD d undef=v:=by
 simp[Act.put,h]
theorem SRel.put {dst:Option Tmp} {v v':Value} (h:SRel nt D ι s a) (hp:PutSpec nt s s1 dst v) (hv:VR D ι v v'):SRel nt D ι s1 (a.put dst v'):=by
 refine⟨(put_size a dst v').trans h.1,fun t u e=> ?_⟩;cases dst with
 |none=>rw[hp.1 rfl] at e;exact h.2 t u e
 |some d=>
  obtain⟨p1,p2⟩:=hp.2 d rfl;rw[p2 t] at e
  split at e
  ·rename_i ht;subst ht;simp only[Option.some.injEq] at e;subst e;exact⟨p1,by rw[put_get_eq a t v' (by rw[h.1];exact p1)];exact hv⟩
  ·rename_i ht;rw[put_get_ne a (some d) v' t fun e=>ht (Option.some.inj e).symm];exact h.2 t u e
include hE hC in
theorem evOps_sound:∀(os:List Oper) (k:Nat) (s s':Tr Value) (σ σ':St) (φ:Foot),evOps P E call nt ops.toList os s σ=some (s',σ',φ)→(∀j,j<os.length→os[j]?=ops[k+j]?)→
  σ.next≤σ'.next∧(σ.wf→σ'.wf∧AFr σ σ' φ)∧
  (σ.wf→σ'.Ok→∀(D:Nat→Prop) (ι:Nat→Reg) (w:World) (a:Act) (Q:Exit→Act→World→Prop),σ.wf→GI E D ι→(∀id,σ.rng σ' id→¬D id)→SRel nt D ι s a→HOn P D ι σ.H φ w→
   (∀ι' w' a',SRel nt (fun i=>D i∨σ.rng σ' i) ι' s' a'→a'.defers=a.defers→Post P D (σ.rng σ') ι σ.H w φ ι' σ'.H w'→Q .normal a' w')→wpOps P ops Q (List.range' k os.length) a w)
 |[],k,s,s',σ,σ',φ,h,_=>by
  simp only[evOps,Option.some.injEq,Prod.mk.injEq] at h;obtain⟨rfl,rfl,rfl⟩:=h;refine⟨Nat.le_refl _,fun hw=>⟨hw,AFr.refl _ _⟩,fun _ _ D ι w a Q _ _ _ hs ho hQ=> ?_⟩;simp only[List.length_nil,List.range'_zero,wpOps];exact hQ ι w a (hs.mono (fun _=>.inl) fun _ _=>rfl) rfl (Post.refl _ _ _ _ _ _ (St.rng_self σ))
 |o::os,k,s,s',σ,σ',φ,h,hk=>by
  simp only[evOps] at h
  split at h
  ·rename_i s1 σ1 φ1 h1
   split at h
   ·rename_i s2 σ2 φ2 h2;simp only[Option.some.injEq,Prod.mk.injEq] at h;obtain⟨rfl,rfl,rfl⟩:=h;obtain⟨a1,a2,v,a3,a4⟩:=aStep_sound hE hC h1;obtain⟨b1,b2,b3⟩:=evOps_sound os (k+1) s1 s2 σ1 σ2 φ2 h2 fun j hj=>by
     have:=hk (j+1) (by simp;omega);simp only[List.getElem?_cons_succ] at this;rw[this];congr 1;omega
    refine⟨Nat.le_trans a1 b1,fun hw=> ?_,?_⟩
    ·obtain⟨w1,f1⟩:=a2 hw;obtain⟨w2,f2⟩:=b2 w1;exact⟨w2,f1.trans f2 a1 b1⟩
    ·intro hwf0 hok D ι w a Q hwf hg hd hs ho hQ;have hok1:σ1.Ok:=(b2 (a2 hwf0).1).2.ok hok;have hi:ops[k]?=some o:=by
      have:=hk 0 (by simp);simpa using this.symm
     have hd1:∀id,σ.rng σ1 id→¬D id:=fun id hr=>hd id (by simp only[St.rng] at hr⊢;omega)
     rw[List.length_cons,List.range'_succ,wpOps_cons];refine a4 hok1 D ι w a k _ Q hi hwf hg hd1 hs.1 (fun t _ v hv=>hs.2 t v hv) (ho.sub (fun id x=>Foot.add_Fi.2 (.inl x)) fun id k x=>Foot.add_Fc.2 (.inl x)) ?_;intro v' ι' w' hv hp;have hs1:SRel nt (fun i=>D i∨σ.rng σ1 i) ι' s1 (a.put o.dst v'):=
      (hs.mono (fun _=>.inl) fun i hi=>hp.io i fun hn=>hd1 i hn hi).put a3 hv
     have ho2:=hp.hon ho hd1;have hd2:∀id,σ1.rng σ2 id→¬(D id∨σ.rng σ1 id):=fun id hr hx=>by
      rcases hx with hx|hx
      ·exact hd id (by simp only[St.rng] at hr⊢;omega) hx
      ·simp only[St.rng] at hr hx;omega
     refine b3 (a2 hwf).1 hok _ ι' w' (a.put o.dst v') Q (a2 hwf).1 (hg.next hd1 hp.io) hd2 hs1 ho2 ?_;intro ι2 w2 a2' hs2 hdf hp2;have ht:=Post.trans ho hp hp2 hd2 fun id hr=>by
      have:σ.next≤id:=by simp only[St.rng] at hr;omega
      simp only[St.H,hwf id this,Option.map_none]
     rw[rng_union a1 b1] at ht;rw[D_union D a1 b1] at hs2;exact hQ ι2 w2 a2' hs2 (hdf.trans (put_defers _ _ _)) ht
   ·cases h
  ·cases h
end
end Go.Eng
end
end
end
section
noncomputable section
noncomputable section
namespace Go.Eng
open Go
open Classical in
def updH (g:H) (φ:Foot) (N:Nat→Prop) (h:H):H:=
 ⟨fun id=>if φ.Wi id∨N id then h.hdr id else g.hdr id,fun id k=>if φ.Wc id k∨N id then h.cell id k else g.cell id k⟩
section
variable {P:Program} {D N:Nat→Prop} {ι ι':Nat→Reg} {h h1 g:H} {w w':World} {φ:Foot}
theorem updH_hdr {id:Nat} (hx:φ.Wi id∨N id):(updH g φ N h1).hdr id=h1.hdr id:=by simp only[updH];rw[if_pos hx]
theorem updH_hdr' {id:Nat} (hx:¬(φ.Wi id∨N id)):(updH g φ N h1).hdr id=g.hdr id:=by simp only[updH];rw[if_neg hx]
theorem updH_cell {id k:Nat} (hx:φ.Wc id k∨N id):(updH g φ N h1).cell id k=h1.cell id k:=by simp only[updH];rw[if_pos hx]
theorem updH_cell' {id k:Nat} (hx:¬(φ.Wc id k∨N id)):(updH g φ N h1).cell id k=g.cell id k:=by simp only[updH];rw[if_neg hx]
theorem Wr.of_eq {h g:H} {id:Nat} (e:g.hdr id=h.hdr id):Wr g id↔Wr h id:=by unfold Wr;rw[e]
theorem Lv.of_eq {h g:H} {id:Nat} (e:g.hdr id=h.hdr id):Lv g id↔Lv h id:=by unfold Lv;rw[e]
theorem Post.move (p:Post P D N ι h w φ ι' h1 w') (ag1:∀id,φ.Fi id→g.hdr id=h.hdr id) (nl:∀id,N id→g.hdr id=none):
  Post P D N ι g w φ ι' (updH g φ N h1) w' where
 io:=p.io
 size:=p.size
 os:=p.os
 out:=p.out
 hdr:=fun id x hx e=>p.hdr id x hx (by rwa[updH_hdr hx] at e)
 cel:=fun id k v hx lv e=>by
  rw[updH_cell hx] at e;refine p.cel id k v hx ?_ e;by_cases hw:φ.Wi id∨N id
  ·exact(Lv.of_eq (updH_hdr hw)).1 lv
  ·have hn:¬N id:=fun x=>hw (.inr x)
   have hwi:¬φ.Wi id:=fun x=>hw (.inl x)
   have hwc:φ.Wc id k:=hx.resolve_right hn;have e1:(updH g φ N h1).hdr id=h1.hdr id:=by rw[updH_hdr' hw,ag1 id hwc.fi,p.ahdr id hn hwi]
   exact(Lv.of_eq e1).1 lv
 ahdr:=fun id hn hw=>updH_hdr' fun x=>x.elim hw hn
 acel:=fun id k hn hw=>updH_cell' fun x=>x.elim hw hn
 cfr:=fun b hb hyp=>by
  refine(p.cfr b hb fun id wi wr=>hyp id wi ((Wr.of_eq (ag1 id wi.fi)).2 wr)).mono ?_;rintro o ⟨id,k,wc,wr,e1,e2⟩;exact⟨id,k,wc,(Wr.of_eq (ag1 id wc.fi)).2 wr,e1,e2⟩
 fresh:=fun id hn lv b hb=>by
  rcases p.fresh id hn ((Lv.of_eq (updH_hdr (.inr hn))).1 lv) b hb with hx|⟨k,wk,nk,wrk,dk,e⟩
  ·exact .inl hx
  ·exact .inr ⟨k,wk,nk,(Wr.of_eq (ag1 k wk.fi)).2 wrk,fun l=>dk ((Lv.of_eq (updH_hdr (.inl wk))).1 l),e⟩
 freshF:=fun id hn lv b hb=>by
  rcases p.freshF id hn ((Lv.of_eq (updH_hdr (.inr hn))).1 lv) b hb with hx|⟨k,wk,nk,wrk,dk,e⟩|⟨k,fk,nk,lk,e⟩
  ·exact .inl hx
  ·exact .inr (.inl ⟨k,wk,nk,(Wr.of_eq (ag1 k wk.fi)).2 wrk,fun l=>dk ((Lv.of_eq (updH_hdr (.inl wk))).1 l),e⟩)
  ·exact .inr (.inr ⟨k,fk,nk,(Lv.of_eq (ag1 k fk)).2 lk,e⟩)
 dist:=fun i j hi hj li lj=>p.dist i j hi hj ((Wr.of_eq (updH_hdr (.inr hi))).1 li) ((Lv.of_eq (updH_hdr (.inr hj))).1 lj)
 nl:=nl
 wl:=fun id k wc hn=>(Lv.of_eq (ag1 id wc.fi)).2 (p.wl id k wc hn)
 wrm:=fun id hn wr=>by
  by_cases hw:φ.Wi id∨N id
  ·have hwi:=hw.resolve_right hn;exact(Wr.of_eq (ag1 id hwi.fi)).2 (p.wrm id hn ((Wr.of_eq (updH_hdr hw)).1 wr))
  ·exact(Wr.of_eq (updH_hdr' hw)).1 wr
 wrow:=fun id k wc nw nn=>by
  obtain⟨l,e,ro,h⟩:=p.wrow id k wc nw nn;exact⟨l,e,ro,by rw[ag1 id wc.fi];exact h⟩
theorem HOn.congr (ho:HOn P D ι h φ w) (ag1:∀id,φ.Fi id→g.hdr id=h.hdr id) (ag2:∀id k,φ.Fc id k→g.cell id k=h.cell id k):HOn P D ι g φ w where
 hd:=fun id x f e=>ho.hd id x f (by rw[←ag1 id f];exact e)
 ce:=fun id k v f l e=>ho.ce id k v f ((Lv.of_eq (ag1 id f.fi)).1 l) (by rw[←ag2 id k f];exact e)
 inj:=fun i j fi fj li lj=>ho.inj i j fi fj ((Wr.of_eq (ag1 i fi)).1 li) ((Lv.of_eq (ag1 j fj)).1 lj)
theorem Post.same_foot {ψ:Foot} (p:Post P D N ι h w φ ι' h1 w') (e1:∀id,ψ.Wi id↔φ.Wi id) (e2:∀id k,ψ.Wc id k↔φ.Wc id k) (e3:∀id,φ.Fi id→ψ.Fi id):Post P D N ι h w ψ ι' h1 w' where
 io:=p.io
 size:=p.size
 os:=p.os
 out:=p.out
 hdr:=fun id x hx=>p.hdr id x (hx.imp_left (e1 id).1)
 cel:=fun id k v hx=>p.cel id k v (hx.imp_left (e2 id k).1)
 ahdr:=fun id hn hw=>p.ahdr id hn fun x=>hw ((e1 id).2 x)
 acel:=fun id k hn hw=>p.acel id k hn fun x=>hw ((e2 id k).2 x)
 cfr:=fun b hb hyp=>(p.cfr b hb fun id wi=>hyp id ((e1 id).2 wi)).mono fun _ ⟨id,k,wc,r⟩=>⟨id,k,(e2 id k).2 wc,r⟩
 fresh:=fun id hn lv b hb=>(p.fresh id hn lv b hb).imp_right fun⟨k,wk,r⟩=>⟨k,(e1 k).2 wk,r⟩
 freshF:=fun id hn lv b hb=>(p.freshF id hn lv b hb).imp_right fun x=>x.imp (fun⟨k,wk,r⟩=>⟨k,(e1 k).2 wk,r⟩) fun⟨k,fk,r⟩=>⟨k,e3 k fk,r⟩
 dist:=p.dist
 nl:=p.nl
 wl:=fun id k wc=>p.wl id k ((e2 id k).1 wc)
 wrm:=p.wrm
 wrow:=fun id k wc nw=>p.wrow id k ((e2 id k).1 wc) fun x=>nw ((e1 id).2 x)
theorem Post.same_heap {h2:H} (p:Post P D N ι h w φ ι' h1 w') (e1:∀id,h2.hdr id=h1.hdr id) (e2:∀id k,h2.cell id k=h1.cell id k):Post P D N ι h w φ ι' h2 w':=by
 have:h2=h1:=by
  cases h2;cases h1;congr
  ·funext id;exact e1 id
  ·funext id k;exact e2 id k
 rw[this];exact p
end
def Foot.trim (φ:Foot) (n:Nat):Foot:=
 ⟨φ.rc.filter fun p=>Nat.blt p.1 n,φ.rh.filter fun i=>Nat.blt i n,φ.wc.filter fun p=>Nat.blt p.1 n,φ.wh.filter fun i=>Nat.blt i n⟩
theorem blt_iff {a b:Nat}:Nat.blt a b=true↔a<b:=by simp
theorem trim_Wi {φ:Foot} {n id:Nat}:(φ.trim n).Wi id↔φ.Wi id∧id<n:=by simp[Foot.trim,Foot.Wi]
theorem trim_Wc {φ:Foot} {n id k:Nat}:(φ.trim n).Wc id k↔φ.Wc id k∧id<n:=by
 simp only[Foot.trim,Foot.Wc,List.mem_filter,blt_iff];constructor
 ·rintro(⟨h,h'⟩|⟨h,h'⟩)
  ·exact⟨.inl h,h'⟩
  ·exact⟨.inr h,h'⟩
 ·rintro⟨h|h,h'⟩
  ·exact .inl ⟨h,h'⟩
  ·exact .inr ⟨h,h'⟩
theorem trim_Fc {φ:Foot} {n id k:Nat}:(φ.trim n).Fc id k↔φ.Fc id k∧id<n:=by
 simp only[Foot.trim,Foot.Fc,List.mem_filter,blt_iff];constructor
 ·rintro(⟨h,h'⟩|⟨h,h'⟩|⟨h,h'⟩|⟨h,h'⟩)
  ·exact⟨.inl h,h'⟩
  ·exact⟨.inr (.inl h),h'⟩
  ·exact⟨.inr (.inr (.inl h)),h'⟩
  ·exact⟨.inr (.inr (.inr h)),h'⟩
 ·rintro⟨h|h|h|h,h'⟩
  ·exact .inl ⟨h,h'⟩
  ·exact .inr (.inl ⟨h,h'⟩)
  ·exact .inr (.inr (.inl ⟨h,h'⟩))
  ·exact .inr (.inr (.inr ⟨h,h'⟩))
theorem trim_Fi {φ:Foot} {n id:Nat}:(φ.trim n).Fi id↔φ.Fi id∧id<n:=by
 simp only[Foot.trim,Foot.Fi,List.mem_filter,blt_iff];constructor
 ·rintro(⟨k,h,h'⟩|⟨h,h'⟩|⟨k,h,h'⟩|⟨h,h'⟩)
  ·exact⟨.inl ⟨k,h⟩,h'⟩
  ·exact⟨.inr (.inl h),h'⟩
  ·exact⟨.inr (.inr (.inl ⟨k,h⟩)),h'⟩
  ·exact⟨.inr (.inr (.inr h)),h'⟩
 ·rintro⟨⟨k,h⟩|h|⟨k,h⟩|h,h'⟩
  ·exact .inl ⟨k,h,h'⟩
  ·exact .inr (.inl ⟨h,h'⟩)
  ·exact .inr (.inr (.inl ⟨k,h,h'⟩))
  ·exact .inr (.inr (.inr ⟨h,h'⟩))
section
variable {P:Program} {D N:Nat→Prop} {ι ι':Nat→Reg} {h h1:H} {w w':World} {φ:Foot} {n:Nat}
theorem lt_of_lv (hn:∀id,n≤id→h.hdr id=none) {id:Nat} (l:Lv h id):id<n:=by
 rcases Nat.lt_or_ge id n with hl|hg
 ·exact hl
 ·obtain⟨x,e⟩:=l;rw[hn id hg] at e;cases e
theorem HOn.untrim (hn:∀id,n≤id→h.hdr id=none) (ho:HOn P D ι h (φ.trim n) w):HOn P D ι h φ w where
 hd:=fun id x f e=>ho.hd id x (trim_Fi.2 ⟨f,lt_of_lv hn ⟨x,e⟩⟩) e
 ce:=fun id k v f l e=>ho.ce id k v (trim_Fc.2 ⟨f,lt_of_lv hn l⟩) l e
 inj:=fun i j fi fj li lj=>ho.inj i j (trim_Fi.2 ⟨fi,lt_of_lv hn li.lv⟩) (trim_Fi.2 ⟨fj,lt_of_lv hn lj⟩) li lj
theorem Post.trim (hn:∀id,n≤id→h.hdr id=none) (p:Post P D N ι h w φ ι' h1 w'):Post P D N ι h w (φ.trim n) ι' h1 w':=by
 have hlt:∀id k,φ.Wc id k→¬N id→id<n:=fun id k wc nn=>lt_of_lv hn (p.wl id k wc nn)
 exact {
  io:=p.io
  size:=p.size
  os:=p.os
  out:=p.out
  hdr:=fun id x hx=>p.hdr id x (hx.imp_left fun y=>(trim_Wi.1 y).1)
  cel:=fun id k v hx=>p.cel id k v (hx.imp_left fun y=>(trim_Wc.1 y).1)
  ahdr:=fun id nn hw=>p.ahdr id nn fun x=>hw (trim_Wi.2 ⟨x,hlt id 0 (x.wc 0) nn⟩)
  acel:=fun id k nn hw=>p.acel id k nn fun x=>hw (trim_Wc.2 ⟨x,hlt id k x nn⟩)
  cfr:=fun b hb hyp=>(p.cfr b hb fun id wi wr=>hyp id (trim_Wi.2 ⟨wi,lt_of_lv hn wr.lv⟩) wr).mono fun _ ⟨id,k,wc,wr,r⟩=>⟨id,k,trim_Wc.2 ⟨wc,lt_of_lv hn wr.lv⟩,wr,r⟩
  fresh:=fun id hx lv b hb=>(p.fresh id hx lv b hb).imp_right fun⟨k,wk,nk,wr,r⟩=>⟨k,trim_Wi.2 ⟨wk,lt_of_lv hn wr.lv⟩,nk,wr,r⟩
  freshF:=fun id hx lv b hb=>(p.freshF id hx lv b hb).imp_right fun x=>x.imp (fun⟨k,wk,nk,wr,r⟩=>⟨k,trim_Wi.2 ⟨wk,lt_of_lv hn wr.lv⟩,nk,wr,r⟩) fun⟨k,fk,nk,lk,r⟩=>⟨k,trim_Fi.2 ⟨fk,lt_of_lv hn lk⟩,nk,lk,r⟩
  dist:=p.dist
  nl:=p.nl
  wl:=fun id k wc=>p.wl id k (trim_Wc.1 wc).1
  wrm:=p.wrm
  wrow:=fun id k wc nw=>p.wrow id k (trim_Wc.1 wc).1 fun x=>nw (trim_Wi.2 ⟨x,(trim_Wc.1 wc).2⟩)}
theorem AFr.trim {σ σ':St} (hw:σ.wf) (hw':σ'.wf) (a:AFr σ σ' φ):AFr σ σ' (φ.trim σ.next):=by
 have none1:∀id,σ.next≤id→¬σ.rng σ' id→σ'.heap.get id=none∧σ.heap.get id=none:=fun id hi hr=>by
  refine⟨hw' id ?_,hw id hi⟩;simp only[St.rng] at hr;omega
 refine⟨fun id hr hx=> ?_,fun id k hr hx=> ?_,a.ok⟩
 ·by_cases hi:id<σ.next
  ·exact a.h id hr fun y=>hx (trim_Wi.2 ⟨y,hi⟩)
  ·obtain⟨e1,e2⟩:=none1 id (by omega) hr;simp only[St.H,e1,e2]
 ·by_cases hi:id<σ.next
  ·exact a.c id k hr fun y=>hx (trim_Wc.2 ⟨y,hi⟩)
  ·obtain⟨e1,e2⟩:=none1 id (by omega) hr;simp only[St.H,e1,e2]
end
structure Rec where
 φ:Foot
 lo:Nat
 hi:Nat
def evSteps (P:Program) (E:Env) (call:CallF) (nt:Nat) (all:List Oper):List Oper→Tr Value→St→Option (Tr Value×St×List Rec)
 |[],s,σ=>some (s,σ,[])
 |o::os,s,σ=>match aStep P E call nt all o s σ with
  |some (s1,σ1,φ1)=>match evSteps P E call nt all os s1 σ1 with
   |some (s2,σ2,φs)=>some (s2,σ2,⟨φ1.trim σ.next,σ.next,σ1.next⟩::φs)
   |none=>none
  |none=>none
def memN:Nat→List Nat→Bool
 |_,[]=>false
 |n,x::xs=>bif Nat.beq n x then true else memN n xs
def memP:Nat→Nat→List (Nat×Nat)→Bool
 |_,_,[]=>false
 |i,k,(j,l)::xs=>bif Nat.beq i j&&Nat.beq k l then true else memP i k xs
def memF:Nat→List (Nat×Nat)→Bool
 |_,[]=>false
 |i,(j,_)::xs=>bif Nat.beq i j then true else memF i xs
theorem memN_spec {n:Nat}:∀{l:List Nat},n∈l→memN n l=true
 |x::xs,h=>by
  simp only[memN];cases hb:Nat.beq n x
  ·rcases List.mem_cons.1 h with e|e
   ·subst e;rw[beq_t rfl] at hb;cases hb
   ·exact memN_spec e
  ·rfl
theorem memP_spec {i k:Nat}:∀{l:List (Nat×Nat)},(i,k)∈l→memP i k l=true
 |(j,m)::xs,h=>by
  simp only[memP];cases hb:(Nat.beq i j&&Nat.beq k m)
  ·rcases List.mem_cons.1 h with e|e
   ·cases e;simp at hb
   ·exact memP_spec e
  ·rfl
theorem memF_spec {i k:Nat}:∀{l:List (Nat×Nat)},(i,k)∈l→memF i l=true
 |(j,m)::xs,h=>by
  simp only[memF];cases hb:Nat.beq i j
  ·rcases List.mem_cons.1 h with e|e
   ·cases e;rw[beq_t rfl] at hb;cases hb
   ·exact memF_spec e
  ·rfl
def freeOf (a b:Foot):Bool:=
 a.wc.all (fun p=> !(memP p.1 p.2 b.rc||memN p.1 b.rh||memP p.1 p.2 b.wc||memN p.1 b.wh))&&
 a.wh.all (fun i=> !(memF i b.rc||memN i b.rh||memF i b.wc||memN i b.wh))
theorem freeOf_spec {a b:Foot} (h:freeOf a b=true):(∀id k,a.Wc id k→¬b.Fc id k)∧∀id,a.Wi id→¬b.Fi id:=by
 simp only[freeOf,Bool.and_eq_true,List.all_eq_true,Bool.not_eq_true',Bool.or_eq_false_iff] at h;obtain⟨h1,h2⟩:=h;have hwi:∀id,a.Wi id→¬b.Fi id:=by
  intro id hw hf;obtain⟨⟨⟨g1,g2⟩,g3⟩,g4⟩:=h2 id hw;rcases hf with⟨k,hf⟩|hf|⟨k,hf⟩|hf
  ·rw[memF_spec hf] at g1;cases g1
  ·rw[memN_spec hf] at g2;cases g2
  ·rw[memF_spec hf] at g3;cases g3
  ·rw[memN_spec hf] at g4;cases g4
 refine⟨fun id k hw hf=> ?_,hwi⟩;rcases hw with hw|hw
 ·obtain⟨⟨⟨g1,g2⟩,g3⟩,g4⟩:=h1 (id,k) hw;rcases hf with hf|hf|hf|hf
  ·rw[memP_spec hf] at g1;cases g1
  ·rw[memN_spec hf] at g2;cases g2
  ·rw[memP_spec hf] at g3;cases g3
  ·rw[memN_spec hf] at g4;cases g4
 ·exact hwi id hw hf.fi
def farOf (lo hi:Nat) (b:Foot):Bool:=
 b.rc.all (fun p=> !(Nat.ble lo p.1&&Nat.blt p.1 hi))&&b.rh.all (fun i=> !(Nat.ble lo i&&Nat.blt i hi))&&b.wc.all (fun p=> !(Nat.ble lo p.1&&Nat.blt p.1 hi))&&b.wh.all (fun i=> !(Nat.ble lo i&&Nat.blt i hi))
theorem farOf_spec {lo hi:Nat} {b:Foot} (h:farOf lo hi b=true):∀id,lo≤id→id<hi→¬b.Fi id:=by
 simp only[farOf,Bool.and_eq_true,List.all_eq_true,Bool.not_eq_true'] at h;obtain⟨⟨⟨h1,h2⟩,h3⟩,h4⟩:=h;intro id a1 a2 hf;have key:(Nat.ble lo id&&Nat.blt id hi)=true:=by
  rw[Bool.and_eq_true];exact⟨Nat.ble_eq_true_of_le a1,blt_iff.2 a2⟩
 rcases hf with⟨k,hf⟩|hf|⟨k,hf⟩|hf
 ·have:=h1 _ hf;rw[key] at this;cases this
 ·have:=h2 _ hf;rw[key] at this;cases this
 ·have:=h3 _ hf;rw[key] at this;cases this
 ·have:=h4 _ hf;rw[key] at this;cases this
def okPair (ops:Array Oper) (x y:Oper) (a b:Rec):Bool:=x.apart ops y&&freeOf a.φ b.φ&&freeOf b.φ a.φ&&farOf a.lo a.hi b.φ
def maskOf (acc:List Nat):List Edge→Nat
 |[]=>0
 |e::es=>bif Region.binds .any e then Nat.lor (Nat.lor (Nat.shiftLeft 1 e.on) (acc.getD e.on 0)) (maskOf acc es) else maskOf acc es
def okOne (ops:Array Oper) (y:Oper) (b:Rec) (mask:Nat):Nat→List Oper→List Rec→Bool
 |_,[],_=>true
 |_,_,[]=>true
 |i,x::xs,a::as=>(Nat.testBit mask i||okPair ops x y a b)&&okOne ops y b mask (i+1) xs as
def okAll (ops:Array Oper) (all:List Oper) (recs:List Rec):List Nat→List Oper→List Rec→Bool
 |_,[],_=>true
 |_,_::_,[]=>false
 |acc,y::ys,b::bs=>
  y.after.toList.all (fun e=> !(Region.binds .any e)||Nat.blt e.on acc.length)&&
  okOne ops y b (maskOf acc y.after.toList) 0 (all.take acc.length) recs&&okAll ops all recs (acc++[maskOf acc y.after.toList]) ys bs
end Go.Eng
end
end
end
section
noncomputable section
noncomputable section
namespace Go.Eng
open Go
section
variable {P:Program} {E:Env} {call:CallF} {nt:Nat}
theorem evSteps_spec (all:List Oper):∀(os:List Oper) (s s':Tr Value) (σ σ':St) (recs:List Rec),evSteps P E call nt all os s σ=some (s',σ',recs)→
  ∃(S:Nat→Tr Value) (Z:Nat→St) (F:Nat→Foot),S 0=s∧Z 0=σ∧S os.length=s'∧Z os.length=σ'∧recs.length=os.length∧
   (∀i o,os[i]?=some o→aStep P E call nt all o (S i) (Z i)=some (S (i+1),Z (i+1),F i))∧
   ∀i,i<os.length→recs[i]?=some ⟨(F i).trim (Z i).next,(Z i).next,(Z (i+1)).next⟩
 |[],s,s',σ,σ',recs,h=>by
  simp only[evSteps,Option.some.injEq,Prod.mk.injEq] at h;obtain⟨rfl,rfl,rfl⟩:=h;exact⟨fun _=>s,fun _=>σ,fun _=>.nil,rfl,rfl,rfl,rfl,rfl,by simp,by simp⟩
 |o::os,s,s',σ,σ',recs,h=>by
  simp only[evSteps] at h
  split at h
  ·rename_i s1 σ1 φ1 h1
   split at h
   ·rename_i s2 σ2 φs h2;simp only[Option.some.injEq,Prod.mk.injEq] at h;obtain⟨rfl,rfl,rfl⟩:=h;obtain⟨S,Z,F,e1,e2,e3,e4,e5,e6,e7⟩:=evSteps_spec all os s1 s2 σ1 σ2 φs h2;refine⟨fun i=>match i with|0=>s|i+1=>S i,fun i=>match i with|0=>σ|i+1=>Z i,fun i=>match i with|0=>φ1|i+1=>F i,rfl,rfl,by simpa using e3,by simpa using e4,by simp[e5],?_,?_⟩
    ·intro i o' hi;rcases i with _|i
     ·simp only[List.getElem?_cons_zero,Option.some.injEq] at hi;subst hi;simp only[e1,e2];exact h1
     ·exact e6 i o' (by simpa using hi)
    ·intro i hi;rcases i with _|i
     ·simp only[e2,List.getElem?_cons_zero]
     ·simpa using e7 i (by simpa using hi)
   ·cases h
  ·cases h
def ClosedS (ops:Array Oper) (S:Nat→Prop):Prop:=∀(j:Nat) o e,ops[j]?=some o→S j→e∈o.after.toList→Region.binds .any e=true→S e.on
def Ahead (ops:Array Oper) (i j:Nat):Prop:=∀S,ClosedS ops S→S j→S i
theorem maskOf_spec {ops:Array Oper} {acc:List Nat} (hacc:∀j,j<acc.length→∀i,(acc.getD j 0).testBit i=true→Ahead ops i j):
  ∀(es:List Edge) (S:Nat→Prop),ClosedS ops S→(∀e∈es,Region.binds .any e=true→e.on<acc.length∧S e.on)→∀i,(maskOf acc es).testBit i=true→S i
 |[],S,_,_,i,h=>by simp[maskOf] at h
 |e::es,S,hS,he,i,h=>by
  simp only[maskOf] at h;cases hb:Region.binds .any e
  ·rw[hb] at h;exact maskOf_spec hacc es S hS (fun e' h'=>he e' (by simp[h'])) i h
  ·rw[hb,cond_true] at h;obtain⟨hlt,hs⟩:=he e (by simp) hb;change ((1<<<e.on|||acc.getD e.on 0)|||maskOf acc es).testBit i=true at h;rw[Nat.testBit_or,Nat.testBit_or,Bool.or_eq_true,Bool.or_eq_true] at h;rcases h with(h|h)|h
   ·rw[Nat.testBit_shiftLeft] at h;simp only[Bool.and_eq_true,decide_eq_true_eq] at h;have:i=e.on:=by
     have h2:=h.2;rw[show(1:Nat)=2^0 from rfl,Nat.testBit_two_pow] at h2;simp at h2;omega
    rw[this];exact hs
   ·exact hacc e.on hlt i h S hS hs
   ·exact maskOf_spec hacc es S hS (fun e' h'=>he e' (by simp[h'])) i h
theorem okOne_spec {ops:Array Oper} {y:Oper} {b:Rec} {mask:Nat}:∀(xs:List Oper) (recs:List Rec) (k:Nat),okOne ops y b mask k xs recs=true→
  ∀i x a,xs[i]?=some x→recs[i]?=some a→mask.testBit (k+i)=true∨okPair ops x y a b=true
 |[],recs,k,_,i,x,a,hx,_=>by simp at hx
 |x0::xs,[],k,_,i,x,a,_,ha=>by simp at ha
 |x0::xs,a0::as,k,h,i,x,a,hx,ha=>by
  simp only[okOne,Bool.and_eq_true,Bool.or_eq_true] at h;rcases i with _|i
  ·simp only[List.getElem?_cons_zero,Option.some.injEq] at hx ha;subst hx ha;exact h.1
  ·have:=okOne_spec xs as (k+1) h.2 i x a (by simpa using hx) (by simpa using ha);rw[show k+(i+1)=k+1+i by omega];exact this
theorem okAll_spec {ops:Array Oper} {recs:List Rec}:∀(ys:List Oper) (bs:List Rec) (acc:List Nat),okAll ops ops.toList recs acc ys bs=true→ys=ops.toList.drop acc.length→bs=recs.drop acc.length→
  (∀j,j<acc.length→∀i,(acc.getD j 0).testBit i=true→Ahead ops i j)→
  (∀(j:Nat) o,acc.length≤j→ops[j]?=some o→∀e∈o.after.toList,Region.binds .any e=true→e.on<j)∧
  ∀(i j:Nat) x y a b,acc.length≤j→i<j→ops[i]?=some x→ops[j]?=some y→recs[i]?=some a→recs[j]?=some b→Ahead ops i j∨okPair ops x y a b=true
 |[],bs,acc,_,hy,_,_=>by
  have hl:ops.size≤acc.length:=by
   have:=congrArg List.length hy;simp at this;omega
  refine⟨fun j o hj ho=> ?_,fun i j x y a b hj _ _ hy'=> ?_⟩
  ·rw[Array.getElem?_eq_none (by omega)] at ho;cases ho
  ·rw[Array.getElem?_eq_none (by omega)] at hy';cases hy'
 |y0::ys,[],acc,h,_,_,_=>by simp[okAll] at h
 |y0::ys,b0::bs,acc,h,hy,hb,hacc=>by
  simp only[okAll,Bool.and_eq_true] at h;obtain⟨⟨h1,h2⟩,h3⟩:=h;have hy0:ops[acc.length]?=some y0:=by
   have:=congrArg (fun l=>l[0]?) hy;simp at this;exact this.symm
  have hb0:recs[acc.length]?=some b0:=by
   have:=congrArg (fun l=>l[0]?) hb;simp at this;exact this.symm
  have hedge:∀e∈y0.after.toList,Region.binds .any e=true→e.on<acc.length:=by
   intro e he hbn;have:=List.all_eq_true.1 h1 e he;rw[hbn] at this;simpa using this
  have hm:∀i,(maskOf acc y0.after.toList).testBit i=true→Ahead ops i acc.length:=by
   intro i hi S hS hs;exact maskOf_spec hacc _ S hS (fun e he hbn=>⟨hedge e he hbn,hS _ _ _ hy0 hs he hbn⟩) i hi
  have hlen:(acc++[maskOf acc y0.after.toList]).length=acc.length+1:=by simp
  obtain⟨r1,r2⟩:=okAll_spec ys bs (acc++[maskOf acc y0.after.toList]) h3 (by
    rw[hlen,←List.drop_drop,←hy];rfl) (by rw[hlen,←List.drop_drop,←hb];rfl) (fun j hj i hi=>by
    rw[hlen] at hj;by_cases e:j=acc.length
    ·subst e;simp[List.getD_eq_getElem?_getD] at hi;exact hm i hi
    ·have hlt:j<acc.length:=by omega
     refine hacc j hlt i ?_;rw[List.getD_eq_getElem?_getD,List.getElem?_append_left hlt] at hi;rw[List.getD_eq_getElem?_getD];exact hi)
  rw[hlen] at r1 r2;refine⟨fun j o hj ho e he hbn=> ?_,fun i j x y a b hj hij hx hy' ha hb'=> ?_⟩
  ·by_cases e':j=acc.length
   ·subst e';rw[hy0] at ho;cases ho;exact hedge e he hbn
   ·exact r1 j o (by omega) ho e he hbn
  ·by_cases e':j=acc.length
   ·subst e';rw[hy0] at hy';cases hy';rw[hb0] at hb';cases hb';have hx':(ops.toList.take acc.length)[i]?=some x:=by
     rw[List.getElem?_take_of_lt hij,Array.getElem?_toList];exact hx
    have:=okOne_spec _ _ 0 h2 i x a hx' ha;rw[Nat.zero_add] at this;exact this.imp_left (hm i)
   ·exact r2 i j x y a b (by omega) hij hx hy' ha hb'
def Last (touch dn:Nat→Prop) (m:Nat):Prop:=(m=0∧∀j,dn j→¬touch j)∨∃j,m=j+1∧dn j∧touch j∧∀j',dn j'→touch j'→j'≤j
theorem last_text {α:Type} (touch:Nat→Prop) (val:Nat→α):∀(i:Nat),(∀j,j<i→¬touch j→val (j+1)=val j)→∃m,Last touch (· <i) m∧val i=val m
 |0,_=>⟨0,.inl ⟨rfl,fun _ hj=>absurd hj (Nat.not_lt_zero _)⟩,rfl⟩
 |i+1,h=>by
  by_cases ht:touch i
  ·exact⟨i+1,.inr ⟨i,rfl,Nat.lt_succ_self i,ht,fun j' hj' _=>by omega⟩,rfl⟩
  ·obtain⟨m,h1,h2⟩:=last_text touch val i fun j hj hn=>h j (by omega) hn
   refine⟨m,?_,(h i (by omega) ht).trans h2⟩;rcases h1 with⟨e,h1⟩|⟨j,e,h3,h4,h5⟩
   ·refine .inl ⟨e,fun j hj=> ?_⟩;by_cases hji:j=i
    ·subst hji;exact ht
    ·exact h1 j (by omega)
   ·refine .inr ⟨j,e,by omega,h4,fun j' hj' ht'=> ?_⟩;by_cases hji:j'=i
    ·subst hji;exact absurd ht' ht
    ·exact h5 j' (by omega) ht'
theorem last_same {touch dn dn':Nat→Prop} {m:Nat} (h:Last touch dn' m) (e:∀j,touch j→(dn j↔dn' j)):Last touch dn m:=by
 rcases h with⟨e0,h1⟩|⟨j,e0,h3,h4,h5⟩
 ·exact .inl ⟨e0,fun _ hj ht=>h1 _ ((e _ ht).1 hj) ht⟩
 ·exact .inr ⟨j,e0,(e j h4).2 h3,h4,fun j' hj' ht'=>h5 j' ((e j' ht').1 hj') ht'⟩
theorem last_hit {touch dn:Nat→Prop} {m i:Nat} (h:Last touch (fun j=>dn j∨j=i) m) (ht:touch i) (hb:∀j,dn j→touch j→j<i):m=i+1:=by
 rcases h with⟨_,h1⟩|⟨j,e0,h3,h4,h5⟩
 ·exact absurd ht (h1 i (.inr rfl))
 ·have:=h5 i (.inr rfl) ht;rcases h3 with h3|h3
  ·have:=hb j h3 h4;omega
  ·omega
theorem last_miss {touch dn:Nat→Prop} {m i:Nat} (h:Last touch (fun j=>dn j∨j=i) m) (ht:¬touch i):Last touch dn m:=
 last_same h fun _ hj=>⟨.inl,fun x=>x.resolve_right fun e=>ht (e▸hj)⟩
end
end Go.Eng
end
end
end
section
noncomputable section
noncomputable section
namespace Go.Eng
open Go
def recOf (Z:Nat→St) (F:Nat→Foot) (i:Nat):Rec:=⟨(F i).trim (Z i).next,(Z i).next,(Z (i+1)).next⟩
theorem aLookupS_form {T:TE} {cmp:TypeId→Option (List (TypeId×Nat))} {σ:St} {t:TypeId} {x i:Value} {ok:Bool} {r:R} (h:aLookupS T cmp σ t x i ok=some r):r.σ=σ∧r.φ.wc=[]∧r.φ.wh=[]:=by
 unfold aLookupS at h;simp only[Bool.cond_eq_ite] at h
 repeat' split at h
 all_goals first|(cases h;exact⟨rfl,rfl,rfl⟩)|cases h
def isME (op:Op):Bool:=match op with
 | .mapEntry _ _ _=>true
 |_=>false
structure Sp (E:Env) (ops:Array Oper) (S:Nat→Tr Value) (Z:Nat→St) (F:Nat→Foot) (i j:Nat) (x y:Oper) (t:TypeId) (m k:Operand) (d:Tmp) (id0:Nat) (o1:AO) (v u:Value) (r:R):Prop where
 lt:i<j
 lo:id0<(Z i).next
 x0:ops[i]?=some x
 y0:ops[j]?=some y
 g:x.guard=none
 op:x.op=.lookup t m k false
 dst:x.dst=some d
 ap:x.apart ops y=true
 wc:(F i).wc=[]
 wh:(F i).wh=[]
 nx:(Z (i+1)).next=(Z i).next
 wcj:(F j).wc=[]
 whj:(F j).wh=[id0]
 ho:(Z (j+1)).heap.get id0=some o1
 vm:av E.G (S i) m=some v
 vk:av E.G (S i) k=some u
 hz:(S (i+1)).get d=some r.v
 hr:aLookupS E.T E.cmp ((Z i).put id0 (some o1)) t v u false=some r
 rc:r.φ.rc=[]
 rh:∀id,id∈r.φ.rh→id∈(F i).rh
 me:isME y.op=true
 one:∀j' y',ops[j']?=some y'→isME y'.op=true→j'=j
def SpE (E:Env) (ops:Array Oper) (S:Nat→Tr Value) (Z:Nat→St) (F:Nat→Foot) (i j:Nat):Prop:=∃x y t m k d id0 o1 v u r,Sp E ops S Z F i j x y t m k d id0 o1 v u r
structure Run (P:Program) (E:Env) (call:CallF) (nt:Nat) (ops:Array Oper) (S:Nat→Tr Value) (Z:Nat→St) (F:Nat→Foot):Prop where
 step:∀(i:Nat) o,ops[i]?=some o→aStep P E call nt ops.toList o (S i) (Z i)=some (S (i+1),Z (i+1),F i)
 back:∀(j:Nat) o,ops[j]?=some o→∀e∈o.after.toList,Region.binds .any e=true→e.on<j
 pair:∀(i j:Nat) x y,i<j→ops[i]?=some x→ops[j]?=some y→Ahead ops i j∨okPair ops x y (recOf Z F i) (recOf Z F j)=true∨SpE E ops S Z F i j
 wf0:(Z 0).wf
section
variable {P:Program} {E:Env} (hE:E.OK P) {call:CallF} (hC:CallSound P E call) {nt:Nat} {ops:Array Oper} {S:Nat→Tr Value} {Z:Nat→St} {F:Nat→Foot} (hR:Run P E call nt ops S Z F)
theorem ops_some {i:Nat} (h:i<ops.size):∃o,ops[i]?=some o:=⟨ops[i],Array.getElem?_eq_getElem h⟩
theorem ops_lt {i:Nat} {o:Oper} (h:ops[i]?=some o):i<ops.size:=by
 rcases Nat.lt_or_ge i ops.size with hl|hg
 ·exact hl
 ·rw[Array.getElem?_eq_none hg] at h;cases h
include hE hC hR
theorem Run.next {i:Nat} (h:i<ops.size):(Z i).next≤(Z (i+1)).next:=by
 obtain⟨o,ho⟩:=ops_some h;exact(aStep_sound hE hC (hR.step i o ho)).1
theorem Run.le {i:Nat}:∀{j:Nat},i≤j→j≤ops.size→(Z i).next≤(Z j).next:=by
 intro j
 induction j with
 |zero=>intro h _;have:i=0:=by omega
        subst this;exact Nat.le_refl _
 |succ j ih=>
  intro h1 h2;by_cases e:i=j+1
  ·subst e;exact Nat.le_refl _
  ·exact Nat.le_trans (ih (by omega) (by omega)) (hR.next hE hC (by omega))
theorem Run.wf:∀{i:Nat},i≤ops.size→(Z i).wf
 |0,_=>hR.wf0
 |i+1,h=>by
  obtain⟨o,ho⟩:=ops_some (ops:=ops) (i:=i) (by omega);exact((aStep_sound hE hC (hR.step i o ho)).2.1 (Run.wf (by omega))).1
theorem Run.afr {i:Nat} (h:i<ops.size):AFr (Z i) (Z (i+1)) (recOf Z F i).φ:=by
 obtain⟨o,ho⟩:=ops_some h;have hw:=hR.wf hE hC (i:=i) (by omega);have hw':=hR.wf hE hC (i:=i+1) (by omega);exact(((aStep_sound hE hC (hR.step i o ho)).2.1 hw).2).trim hw hw'
theorem Run.ok (hok:(Z ops.size).Ok):∀(n i:Nat),i+n=ops.size→(Z i).Ok
 |0,i,h=>by rw[show i=ops.size by omega];exact hok
 |n+1,i,h=>(hR.afr hE hC (i:=i) (by omega)).ok (Run.ok hok n (i+1) (by omega))
omit hE hC hR
def tH (Z:Nat→St) (F:Nat→Foot) (id j:Nat):Prop:=(recOf Z F j).φ.Wi id∨(Z j).rng (Z (j+1)) id
def tC (Z:Nat→St) (F:Nat→Foot) (id k j:Nat):Prop:=(recOf Z F j).φ.Wc id k∨(Z j).rng (Z (j+1)) id
def tS (ops:Array Oper) (t j:Nat):Prop:=∃o,ops[j]?=some o∧o.dst=some t
structure DInv (P:Program) (nt:Nat) (ops:Array Oper) (S:Nat→Tr Value) (Z:Nat→St) (F:Nat→Foot) (D:Nat→Prop) (ι0:Nat→Reg) (w0:World) (ds:List Deferred) (dn:Nat→Prop)
  (ι:Nat→Reg) (g:H) (N:Nat→Prop) (φ:Foot) (a:Act) (w:World):Prop where
 lt:∀j,dn j→j<ops.size
 hN:∀id,N id↔∃j,dn j∧(Z j).rng (Z (j+1)) id
 post:Post P D N ι0 (Z 0).H w0 φ ι g w
 wi:∀id,φ.Wi id↔∃j,dn j∧(recOf Z F j).φ.Wi id
 wc:∀id k,φ.Wc id k↔∃j,dn j∧(recOf Z F j).φ.Wc id k
 fi:∀id,φ.Fi id→∃j,dn j∧(recOf Z F j).φ.Fi id
 fc:∀id k,φ.Fc id k→∃j,dn j∧(recOf Z F j).φ.Fc id k
 vh:∀id m,Last (tH Z F id) dn m→g.hdr id=(Z m).H.hdr id
 vc:∀id k m,Last (tC Z F id k) dn m→g.cell id k=(Z m).H.cell id k
 vs:∀t m,Last (tS ops t) dn m→∀v,(S m).get t=some v→t<nt∧VR (fun i=>D i∨N i) ι v (a.tmps.getD t undef)
 sz:a.tmps.size=nt
 df:a.defers=ds
include hE hC hR
theorem Run.stepAny {D:Nat→Prop} {ι0:Nat→Reg} {w0:World} {ds:List Deferred} {dn:Nat→Prop} {ι:Nat→Reg} {g:H} {N:Nat→Prop} {φ:Foot} {a:Act} {w:World} {i:Nat} {o:Oper} {T:Foot}
  (hok:(Z ops.size).Ok) (hi:DInv P nt ops S Z F D ι0 w0 ds dn ι g N φ a w) (ho:ops[i]?=some o) (hni:¬dn i) (hcl:ClosedS ops dn) (hcl':∀e∈o.after.toList,Region.binds .any e=true→dn e.on) (hns:∀j,dn j→¬SpE E ops S Z F i j)
  (hT1:∀j id,j<ops.size→(recOf Z F j).φ.Fi id→T.Fi id) (hT2:∀j id k,j<ops.size→(recOf Z F j).φ.Fc id k→T.Fc id k) (h0:HOn P D ι0 (Z 0).H T w0) (hG:GI E D ι0)
  (hD:∀j id,j<ops.size→(Z j).rng (Z (j+1)) id→¬D id) {K:Act→World→Prop} {Q:Exit→Act→World→Prop}
  (hK:∀ι' g' N' φ' a' w',DInv P nt ops S Z F D ι0 w0 ds (fun j=>dn j∨j=i) ι' g' N' φ' a' w'→K a' w'):wpOp P ops Q i K a w:=by
 have hil:=ops_lt ho;have hcl2:ClosedS ops fun j=>dn j∨j=i:=by
  intro j o' e hj hd he hb;rcases hd with hd|rfl
  ·exact .inl (hcl j o' e hj hd he hb)
  ·rw[ho] at hj;cases hj;exact .inl (hcl' e he hb)
 have later:∀j y,dn j→ops[j]?=some y→i<j→okPair ops o y (recOf Z F i) (recOf Z F j)=true:=by
  intro j y hj hy hlt;rcases hR.pair i j o y hlt ho hy with h|h|h
  ·exact absurd (h dn hcl hj) hni
  ·exact h
  ·exact absurd h (hns j hj)
 have okp:∀x y a b,okPair ops x y a b=true→(x.apart ops y=true∧(∀id k,a.φ.Wc id k→¬b.φ.Fc id k)∧(∀id,a.φ.Wi id→¬b.φ.Fi id))∧(∀id k,b.φ.Wc id k→¬a.φ.Fc id k)∧(∀id,b.φ.Wi id→¬a.φ.Fi id)∧
   ∀id,a.lo≤id→id<a.hi→¬b.φ.Fi id:=by
  intro x y a b h;simp only[okPair,Bool.and_eq_true] at h;obtain⟨⟨⟨h1,h2⟩,h3⟩,h4⟩:=h;exact⟨⟨h1,(freeOf_spec h2).1,(freeOf_spec h2).2⟩,(freeOf_spec h3).1,(freeOf_spec h3).2,farOf_spec h4⟩
 have earlier:∀j x,¬dn j→ops[j]?=some x→j<i→(x.apart ops o=true∧(∀id k,(recOf Z F j).φ.Wc id k→¬(recOf Z F i).φ.Fc id k)∧(∀id,(recOf Z F j).φ.Wi id→¬(recOf Z F i).φ.Fi id))∧
   ∀id,(Z j).next≤id→id<(Z (j+1)).next→¬(recOf Z F i).φ.Fi id:=by
  intro j x hj hx hlt;rcases hR.pair j i x o hlt hx ho with h|h|⟨x',y',_,_,_,_,_,_,_,_,_,h⟩
  ·rcases h _ hcl2 (.inr rfl) with h|h
   ·exact absurd h hj
   ·omega
  ·have:=okp _ _ _ _ h;exact⟨this.1,this.2.2.2⟩
  ·have h1:=h.x0;have h2:=h.y0;rw[hx] at h1;cases h1;rw[ho] at h2;cases h2;refine⟨⟨h.ap,fun id k hw=> ?_,fun id hw=> ?_⟩,fun id l1 l2=> ?_⟩
   ·have:=(trim_Wc.1 hw).1;rcases this with e|e
    ·rw[h.wc] at e;cases e
    ·rw[h.wh] at e;cases e
   ·have:=(trim_Wi.1 hw).1;have this:id∈(F j).wh:=this;rw[h.wh] at this;cases this
   ·rw[h.nx] at l2;omega
 have fiLt:∀j id,(recOf Z F j).φ.Fi id→id<(Z j).next:=fun j id h=>(trim_Fi.1 h).2
 have eqH:∀id,(recOf Z F i).φ.Fi id→∀j,tH Z F id j→(dn j↔j<i):=by
  intro id hf j ht;constructor
  ·intro hj;rcases Nat.lt_trichotomy j i with h|h|h
   ·exact h
   ·subst h;exact absurd hj hni
   ·obtain⟨y,hy⟩:=ops_some (hi.lt j hj);have hp:=okp _ _ _ _ (later j y hj hy h);rcases ht with ht|ht
    ·exact absurd hf (hp.2.2.1 id ht)
    ·have h1:=fiLt i id hf;have h2:=hR.le hE hC (i:=i) (j:=j) (by omega) (by have:=hi.lt j hj;omega);simp only[St.rng] at ht;omega
  ·intro hlt;rcases Classical.em (dn j) with hj|hj
   ·exact hj
   ·obtain⟨x,hx⟩:=ops_some (ops:=ops) (i:=j) (by omega);have hp:=earlier j x hj hx hlt;rcases ht with ht|ht
    ·exact absurd hf (hp.1.2.2 id ht)
    ·exact absurd hf (hp.2 id ht.1 ht.2)
 have eqC:∀id k,(recOf Z F i).φ.Fc id k→∀j,tC Z F id k j→(dn j↔j<i):=by
  intro id k hf j ht;constructor
  ·intro hj;rcases Nat.lt_trichotomy j i with h|h|h
   ·exact h
   ·subst h;exact absurd hj hni
   ·obtain⟨y,hy⟩:=ops_some (hi.lt j hj);have hp:=okp _ _ _ _ (later j y hj hy h);rcases ht with ht|ht
    ·exact absurd hf (hp.2.1 id k ht)
    ·have h1:=fiLt i id hf.fi;have h2:=hR.le hE hC (i:=i) (j:=j) (by omega) (by have:=hi.lt j hj;omega);simp only[St.rng] at ht;omega
  ·intro hlt;rcases Classical.em (dn j) with hj|hj
   ·exact hj
   ·obtain⟨x,hx⟩:=ops_some (ops:=ops) (i:=j) (by omega);have hp:=earlier j x hj hx hlt;rcases ht with ht|ht
    ·exact absurd hf (hp.1.2.1 id k ht)
    ·exact absurd hf.fi (hp.2 id ht.1 ht.2)
 have eqS:∀t,t∈o.looksAt ops→∀j,tS ops t j→(dn j↔j<i):=by
  intro t hl j ht;obtain⟨x,hx,hxd⟩:=ht;constructor
  ·intro hj;rcases Nat.lt_trichotomy j i with h|h|h
   ·exact h
   ·subst h;exact absurd hj hni
   ·have hp:=(okp _ _ _ _ (later j x hj hx h)).1.1;exact absurd hl ((Oper.apart_spec hp).2.2 t hxd)
  ·intro hlt;rcases Classical.em (dn j) with hj|hj
   ·exact hj
   ·have hp:=(earlier j x hj hx hlt).1.1;exact absurd hl ((Oper.apart_spec hp).1 t hxd)
 have ag1:∀id,(recOf Z F i).φ.Fi id→g.hdr id=(Z i).H.hdr id:=by
  intro id hf;obtain⟨m,h1,h2⟩:=last_text (tH Z F id) (fun j=>(Z j).H.hdr id) i fun j hj hn=>
   (hR.afr hE hC (i:=j) (by omega)).1 id (fun x=>hn (.inr x)) fun x=>hn (.inl x)
  rw[hi.vh id m (last_same h1 fun j hj=>eqH id hf j hj),h2]
 have ag2:∀id k,(recOf Z F i).φ.Fc id k→g.cell id k=(Z i).H.cell id k:=by
  intro id k hf;obtain⟨m,h1,h2⟩:=last_text (tC Z F id k) (fun j=>(Z j).H.cell id k) i fun j hj hn=>
   (hR.afr hE hC (i:=j) (by omega)).2 id k (fun x=>hn (.inr x)) fun x=>hn (.inl x)
  rw[hi.vc id k m (last_same h1 fun j hj=>eqC id k hf j hj),h2]
 have slotStep:∀j,j<ops.size→∀t,¬tS ops t j→(S (j+1)).get t=(S j).get t:=by
  intro j hj t hn;obtain⟨x,hx⟩:=ops_some hj;obtain⟨_,_,v,hp,_⟩:=aStep_sound hE hC (hR.step j x hx);cases hd:x.dst with
  |none=>rw[hp.1 hd]
  |some d=>
   rw[(hp.2 d hd).2 t,if_neg];intro e;exact hn ⟨x,hx,by rw[hd,e]⟩
 have ag3:∀t,t∈o.looksAt ops→∀v,(S i).get t=some v→t<nt∧VR (fun i=>D i∨N i) ι v (a.tmps.getD t undef):=by
  intro t hl v hv;obtain⟨m,h1,h2⟩:=last_text (tS ops t) (fun j=>(S j).get t) i fun j hj hn=>slotStep j (by omega) t hn
  have h2:(S i).get t=(S m).get t:=h2;rw[h2] at hv;exact hi.vs t m (last_same h1 fun j hj=>eqS t hl j hj) v hv
 obtain⟨hnx,_,v,hps,hst⟩:=aStep_sound hE hC (hR.step i o ho);have hwf:=hR.wf hE hC (i:=i) (by omega);have hNi:∀id,(Z i).rng (Z (i+1)) id→¬N id:=by
  intro id hr hn;obtain⟨j,hj,hr'⟩:=(hi.hN id).1 hn;have hjl:=hi.lt j hj;rcases Nat.lt_trichotomy j i with h|h|h
  ·have:=hR.le hE hC (i:=j+1) (j:=i) (by omega) (by omega);simp only[St.rng] at hr hr';omega
  ·subst h;exact hni hj
  ·have:=hR.le hE hC (i:=i+1) (j:=j) (by omega) (by omega);simp only[St.rng] at hr hr';omega
 have hDN:∀id,N id→¬D id:=by
  intro id hn;obtain⟨j,hj,hr⟩:=(hi.hN id).1 hn;exact hD j id (hi.lt j hj) hr
 have hDi:∀id,(Z i).rng (Z (i+1)) id→¬(D id∨N id):=fun id hr hx=>hx.elim (hD i id hil hr) (hNi id hr)
 have hT:HOn P D ι0 (Z 0).H (φ.add (recOf Z F i).φ) w0:=h0.sub
  (fun id hf=>by
   rcases Foot.add_Fi.1 hf with hf|hf
   ·obtain⟨j,hj,hf⟩:=hi.fi id hf;exact hT1 j id (hi.lt j hj) hf
   ·exact hT1 i id hil hf)
  (fun id k hf=>by
   rcases Foot.add_Fc.1 hf with hf|hf
   ·obtain⟨j,hj,hf⟩:=hi.fc id k hf;exact hT2 j id k (hi.lt j hj) hf
   ·exact hT2 i id k hil hf)
 have hon:HOn P (fun i=>D i∨N i) ι g (recOf Z F i).φ w:=hi.post.hon hT hDN;have hon2:HOn P (fun i=>D i∨N i) ι (Z i).H (recOf Z F i).φ w:=hon.congr (fun id hf=>(ag1 id hf).symm) fun id k hf=>(ag2 id k hf).symm
 have hon3:HOn P (fun i=>D i∨N i) ι (Z i).H (F i) w:=hon2.untrim fun id hid=>St.hdr_none hwf id hid
 refine hst (hR.ok hE hC hok (ops.size-(i+1)) (i+1) (by omega)) _ ι w a i K Q ho hwf (hG.next hDN hi.post.io) hDi hi.sz ag3 hon3 ?_;intro v' ι' w' hv hp;have hp2:Post P (fun i=>D i∨N i) ((Z i).rng (Z (i+1))) ι (Z i).H w (recOf Z F i).φ ι' (Z (i+1)).H w':=hp.trim fun id hid=>St.hdr_none hwf id hid
 have hnone0:∀id,(Z i).rng (Z (i+1)) id→(Z 0).H.hdr id=none:=fun id hr=>St.hdr_none hR.wf0 id (by
  have:=hR.le hE hC (i:=0) (j:=i) (by omega) (by omega);simp only[St.rng] at hr;omega)
 have hnone:∀id,(Z i).rng (Z (i+1)) id→g.hdr id=none:=by
  intro id hr;obtain⟨m,h1,h2⟩:∃m,Last (tH Z F id) dn m∧m=0:=by
   refine⟨0,.inl ⟨rfl,fun j hj ht=> ?_⟩,rfl⟩;have hjl:=hi.lt j hj;rcases ht with ht|ht
   ·
    have hlt:=fiLt j id ht.fi;rcases Nat.lt_trichotomy j i with h|h|h
    ·have:=hR.le hE hC (i:=j) (j:=i) (by omega) (by omega);simp only[St.rng] at hr;omega
    ·subst h;exact hni hj
    ·obtain⟨y,hy⟩:=ops_some hjl;exact(okp _ _ _ _ (later j y hj hy h)).2.2.2 id hr.1 hr.2 ht.fi
   ·exact hNi id hr ((hi.hN id).2 ⟨j,hj,ht⟩)
  rw[hi.vh id m h1,h2];exact hnone0 id hr
 have hmv:=hp2.move ag1 hnone;have htr:=Post.trans hT hi.post hmv hDi hnone0;refine hK ι' (updH g (recOf Z F i).φ ((Z i).rng (Z (i+1))) (Z (i+1)).H) (fun id=>N id∨(Z i).rng (Z (i+1)) id) (φ.add (recOf Z F i).φ) (a.put o.dst v') w' ?_;refine { lt:= ?_,hN:= ?_,post:=htr,wi:= ?_,wc:= ?_,fi:= ?_,fc:= ?_,vh:= ?_,vc:= ?_,vs:= ?_,sz:=(put_size _ _ _).trans hi.sz,df:=(put_defers _ _ _).trans hi.df}
 ·rintro j (hj|rfl)
  ·exact hi.lt j hj
  ·exact hil
 ·intro id;constructor
  ·rintro(h|h)
   ·obtain⟨j,hj,hr⟩:=(hi.hN id).1 h;exact⟨j,.inl hj,hr⟩
   ·exact⟨i,.inr rfl,h⟩
  ·rintro⟨j,hj|rfl,hr⟩
   ·exact .inl ((hi.hN id).2 ⟨j,hj,hr⟩)
   ·exact .inr hr
 ·intro id;rw[Foot.add_Wi,hi.wi];constructor
  ·rintro(⟨j,hj,h⟩|h)
   ·exact⟨j,.inl hj,h⟩
   ·exact⟨i,.inr rfl,h⟩
  ·rintro⟨j,hj|rfl,h⟩
   ·exact .inl ⟨j,hj,h⟩
   ·exact .inr h
 ·intro id k;rw[Foot.add_Wc,hi.wc];constructor
  ·rintro(⟨j,hj,h⟩|h)
   ·exact⟨j,.inl hj,h⟩
   ·exact⟨i,.inr rfl,h⟩
  ·rintro⟨j,hj|rfl,h⟩
   ·exact .inl ⟨j,hj,h⟩
   ·exact .inr h
 ·intro id hf;rcases Foot.add_Fi.1 hf with hf|hf
  ·obtain⟨j,hj,h⟩:=hi.fi id hf;exact⟨j,.inl hj,h⟩
  ·exact⟨i,.inr rfl,hf⟩
 ·intro id k hf;rcases Foot.add_Fc.1 hf with hf|hf
  ·obtain⟨j,hj,h⟩:=hi.fc id k hf;exact⟨j,.inl hj,h⟩
  ·exact⟨i,.inr rfl,hf⟩
 ·intro id m hm;by_cases ht:tH Z F id i
  ·have:m=i+1:=last_hit hm ht fun j hj htj=>by
    rcases ht with ht|ht
    ·exact(eqH id ht.fi j htj).1 hj
    ·
     exfalso;rcases htj with htj|htj
     ·have hlt:=fiLt j id htj.fi;rcases Nat.lt_trichotomy j i with h|h|h
      ·have:=hR.le hE hC (i:=j) (j:=i) (by omega) (by omega);simp only[St.rng] at ht;omega
      ·subst h;exact hni hj
      ·obtain⟨y,hy⟩:=ops_some (hi.lt j hj);exact(okp _ _ _ _ (later j y hj hy h)).2.2.2 id ht.1 ht.2 htj.fi
     ·exact hNi id ht ((hi.hN id).2 ⟨j,hj,htj⟩)
   rw[this];exact updH_hdr ht
  ·have hm2:=last_miss hm ht;rw[updH_hdr' ht];exact hi.vh id m hm2
 ·intro id k m hm;by_cases ht:tC Z F id k i
  ·have:m=i+1:=last_hit hm ht fun j hj htj=>by
    rcases ht with ht|ht
    ·exact(eqC id k ht.fc j htj).1 hj
    ·exfalso;rcases htj with htj|htj
     ·have hlt:=fiLt j id htj.fi;rcases Nat.lt_trichotomy j i with h|h|h
      ·have:=hR.le hE hC (i:=j) (j:=i) (by omega) (by omega);simp only[St.rng] at ht;omega
      ·subst h;exact hni hj
      ·obtain⟨y,hy⟩:=ops_some (hi.lt j hj);exact(okp _ _ _ _ (later j y hj hy h)).2.2.2 id ht.1 ht.2 htj.fi
     ·exact hNi id ht ((hi.hN id).2 ⟨j,hj,htj⟩)
   rw[this];exact updH_cell ht
  ·have hm2:=last_miss hm ht;rw[updH_cell' ht];exact hi.vc id k m hm2
 ·intro t m hm u hu;have hDeq:∀j,(D j∨N j)∨(Z i).rng (Z (i+1)) j→D j∨(N j∨(Z i).rng (Z (i+1)) j):=fun j h=>or_assoc.1 h
  by_cases ht:tS ops t i
  ·obtain⟨o',ho',hd⟩:=ht;rw[ho] at ho';cases ho';have:m=i+1:=last_hit hm ⟨o,ho,hd⟩ fun j hj htj=>by
    obtain⟨y,hy,hyd⟩:=htj;rcases Nat.lt_trichotomy j i with h|h|h
    ·exact h
    ·subst h;exact absurd hj hni
    ·have hp:=(okp _ _ _ _ (later j y hj hy h)).1.1;exact absurd hyd ((Oper.apart_spec hp).2.1 t hd)
   subst this;obtain⟨p1,p2⟩:=hps.2 t hd;rw[p2 t,if_pos rfl] at hu;cases hu;refine⟨p1,?_⟩;rw[hd,put_get_eq a t v' (by rw[hi.sz];exact p1)];exact hv.mono hDeq fun _ _=>rfl
  ·have hm2:=last_miss hm ht;obtain⟨q1,q2⟩:=hi.vs t m hm2 u hu;refine⟨q1,?_⟩;have hne:o.dst≠some t:=fun e=>ht ⟨o,ho,e⟩
   rw[put_get_ne a o.dst v' t hne];exact q2.mono (fun j hj=>hDeq j (.inl hj)) fun j hj=>hp.io j fun hr=>hDi j hr hj
theorem Run.stepSp {D:Nat→Prop} {ι0:Nat→Reg} {w0:World} {ds:List Deferred} {dn:Nat→Prop} {ι:Nat→Reg} {g:H} {N:Nat→Prop} {φ:Foot} {a:Act} {w:World} {i j0:Nat} {o:Oper} {T:Foot}
  (hi:DInv P nt ops S Z F D ι0 w0 ds dn ι g N φ a w) (ho:ops[i]?=some o) (hni:¬dn i) (hcl:ClosedS ops dn) (hcl':∀e∈o.after.toList,Region.binds .any e=true→dn e.on) (hsp:SpE E ops S Z F i j0) (hdj:dn j0)
  (hT1:∀j id,j<ops.size→(recOf Z F j).φ.Fi id→T.Fi id) (hT2:∀j id k,j<ops.size→(recOf Z F j).φ.Fc id k→T.Fc id k) (h0:HOn P D ι0 (Z 0).H T w0) (hG:GI E D ι0)
  (hD:∀j id,j<ops.size→(Z j).rng (Z (j+1)) id→¬D id) {K:Act→World→Prop} {Q:Exit→Act→World→Prop}
  (hK:∀ι' g' N' φ' a' w',DInv P nt ops S Z F D ι0 w0 ds (fun j=>dn j∨j=i) ι' g' N' φ' a' w'→K a' w'):wpOp P ops Q i K a w:=by
 obtain⟨x,y,t,m,kk,d,id0,o1,v,u,r,h⟩:=hsp;have hx0:=h.x0;rw[ho] at hx0;obtain rfl:=Option.some.inj hx0;have hil:=ops_lt ho;have hjl:=hi.lt j0 hdj;have hcl2:ClosedS ops fun j=>dn j∨j=i:=by
  intro j o' e hj hd he hb;rcases hd with hd|rfl
  ·exact .inl (hcl j o' e hj hd he hb)
  ·rw[ho] at hj;cases hj;exact .inl (hcl' e he hb)
 have okp:∀x y a b,okPair ops x y a b=true→(x.apart ops y=true∧(∀id k,a.φ.Wc id k→¬b.φ.Fc id k)∧(∀id,a.φ.Wi id→¬b.φ.Fi id))∧(∀id k,b.φ.Wc id k→¬a.φ.Fc id k)∧(∀id,b.φ.Wi id→¬a.φ.Fi id)∧
   ∀id,a.lo≤id→id<a.hi→¬b.φ.Fi id:=by
  intro x y a b h;simp only[okPair,Bool.and_eq_true] at h;obtain⟨⟨⟨h1,h2⟩,h3⟩,h4⟩:=h;exact⟨⟨h1,(freeOf_spec h2).1,(freeOf_spec h2).2⟩,(freeOf_spec h3).1,(freeOf_spec h3).2,farOf_spec h4⟩
 have only:∀j,SpE E ops S Z F i j→j=j0:=by
  rintro j ⟨x',y',_,_,_,_,_,_,_,_,_,h'⟩;exact h.one j y' h'.y0 h'.me
 have later:∀j y,dn j→ops[j]?=some y→i<j→j≠j0→okPair ops o y (recOf Z F i) (recOf Z F j)=true:=by
  intro j y hj hy hlt hne;rcases hR.pair i j o y hlt ho hy with h1|h1|h1
  ·exact absurd (h1 dn hcl hj) hni
  ·exact h1
  ·exact absurd (only j h1) hne
 have earlier:∀j x,¬dn j→ops[j]?=some x→j<i→(x.apart ops o=true∧(∀id k,(recOf Z F j).φ.Wc id k→¬(recOf Z F i).φ.Fc id k)∧(∀id,(recOf Z F j).φ.Wi id→¬(recOf Z F i).φ.Fi id))∧
   ∀id,(Z j).next≤id→id<(Z (j+1)).next→¬(recOf Z F i).φ.Fi id:=by
  intro j x hj hx hlt;rcases hR.pair j i x o hlt hx ho with h1|h1|⟨x',y',_,_,_,_,_,_,_,_,_,h1⟩
  ·rcases h1 _ hcl2 (.inr rfl) with h1|h1
   ·exact absurd h1 hj
   ·omega
  ·have:=okp _ _ _ _ h1;exact⟨this.1,this.2.2.2⟩
  ·have h2:=h1.x0;have h3:=h1.y0;rw[hx] at h2;cases h2;rw[ho] at h3;cases h3;refine⟨⟨h1.ap,fun id k hw=> ?_,fun id hw=> ?_⟩,fun id l1 l2=> ?_⟩
   ·have:=(trim_Wc.1 hw).1;rcases this with e|e
    ·rw[h1.wc] at e;cases e
    ·rw[h1.wh] at e;cases e
   ·have:=(trim_Wi.1 hw).1;have this:id∈(F j).wh:=this;rw[h1.wh] at this;cases this
   ·rw[h1.nx] at l2;omega
 have fiLt:∀j id,(recOf Z F j).φ.Fi id→id<(Z j).next:=fun j id h=>(trim_Fi.1 h).2
 have leij:∀j,i<j→j<ops.size→(Z i).next≤(Z j).next:=fun j h1 h2=>hR.le hE hC (by omega) (by omega)
 have wj:∀id,((recOf Z F j0).φ.Wi id∨∃k,(recOf Z F j0).φ.Wc id k)→id=id0:=by
  rintro id (hw|⟨k,hw⟩)
  ·have:=(trim_Wi.1 hw).1;have this:id∈(F j0).wh:=this;rw[h.whj] at this;simpa using this
  ·rcases(trim_Wc.1 hw).1 with e|e
   ·rw[h.wcj] at e;cases e
   ·rw[h.whj] at e;simpa using e
 have w0j:(recOf Z F j0).φ.Wi id0:=trim_Wi.2 ⟨by show id0∈(F j0).wh;rw[h.whj];simp,by have:=leij j0 h.lt hjl;have:=h.lo;omega⟩;have eqH:∀id,(recOf Z F i).φ.Fi id→id≠id0→∀j,tH Z F id j→(dn j↔j<i):=by
  intro id hf hne j ht;constructor
  ·intro hj;rcases Nat.lt_trichotomy j i with h1|h1|h1
   ·exact h1
   ·subst h1;exact absurd hj hni
   ·obtain⟨y',hy'⟩:=ops_some (hi.lt j hj);rcases ht with ht|ht
    ·by_cases e:j=j0
     ·subst e;exact absurd (wj id (.inl ht)) hne
     ·exact absurd hf ((okp _ _ _ _ (later j y' hj hy' h1 e)).2.2.1 id ht)
    ·have h2:=fiLt i id hf;have h3:=leij j h1 (hi.lt j hj);simp only[St.rng] at ht;omega
  ·intro hlt;rcases Classical.em (dn j) with hj|hj
   ·exact hj
   ·obtain⟨x',hx'⟩:=ops_some (ops:=ops) (i:=j) (by omega);have hp:=earlier j x' hj hx' hlt;rcases ht with ht|ht
    ·exact absurd hf (hp.1.2.2 id ht)
    ·exact absurd hf (hp.2 id ht.1 ht.2)
 have eqC:∀id k,(recOf Z F i).φ.Fc id k→id≠id0→∀j,tC Z F id k j→(dn j↔j<i):=by
  intro id k hf hne j ht;constructor
  ·intro hj;rcases Nat.lt_trichotomy j i with h1|h1|h1
   ·exact h1
   ·subst h1;exact absurd hj hni
   ·obtain⟨y',hy'⟩:=ops_some (hi.lt j hj);rcases ht with ht|ht
    ·by_cases e:j=j0
     ·subst e;exact absurd (wj id (.inr ⟨k,ht⟩)) hne
     ·exact absurd hf ((okp _ _ _ _ (later j y' hj hy' h1 e)).2.1 id k ht)
    ·have h2:=fiLt i id hf.fi;have h3:=leij j h1 (hi.lt j hj);simp only[St.rng] at ht;omega
  ·intro hlt;rcases Classical.em (dn j) with hj|hj
   ·exact hj
   ·obtain⟨x',hx'⟩:=ops_some (ops:=ops) (i:=j) (by omega);have hp:=earlier j x' hj hx' hlt;rcases ht with ht|ht
    ·exact absurd hf (hp.1.2.1 id k ht)
    ·exact absurd hf.fi (hp.2 id ht.1 ht.2)
 have eqS:∀t,t∈o.looksAt ops→∀j,tS ops t j→(dn j↔j<i):=by
  intro t hl j ht;obtain⟨x',hx',hxd⟩:=ht;constructor
  ·intro hj;rcases Nat.lt_trichotomy j i with h1|h1|h1
   ·exact h1
   ·subst h1;exact absurd hj hni
   ·have hap:o.apart ops x'=true:=by
     by_cases e:j=j0
     ·subst e;have:=h.y0;rw[hx'] at this;cases this;exact h.ap
     ·exact(okp _ _ _ _ (later j x' hj hx' h1 e)).1.1
    exact absurd hl ((Oper.apart_spec hap).2.2 t hxd)
  ·intro hlt;rcases Classical.em (dn j) with hj|hj
   ·exact hj
   ·have hp:=(earlier j x' hj hx' hlt).1.1;exact absurd hl ((Oper.apart_spec hp).1 t hxd)
 have lastJ:∀(touch:Nat→Prop),touch j0→(∀j,dn j→j0<j→¬touch j)→Last touch dn (j0+1):=fun touch h1 h2=>
  .inr ⟨j0,rfl,hdj,h1,fun j' hj' ht=>Nat.le_of_not_lt fun hlt=>h2 j' hj' hlt ht⟩
 obtain⟨f1,f2,f3⟩:=aLookupS_form h.hr;have hwf:=hR.wf hE hC (i:=i) (by omega);have hwY:((Z i).put id0 (some o1)).wf:=St.put_wf hwf h.lo _;have toF:∀id,(r.φ.trim (Z i).next).Fi id→(recOf Z F i).φ.Fi id∧∀k,(recOf Z F i).φ.Fc id k:=by
  intro id hf;obtain⟨hf,hlt⟩:=trim_Fi.1 hf;have hm:id∈(F i).rh:=by
   rcases hf with⟨k,e⟩|e|⟨k,e⟩|e
   ·rw[h.rc] at e;cases e
   ·exact h.rh id e
   ·rw[f2] at e;cases e
   ·rw[f3] at e;cases e
  exact⟨trim_Fi.2 ⟨.inr (.inl hm),hlt⟩,fun k=>trim_Fc.2 ⟨.inr (.inl hm),hlt⟩⟩
 have yget:∀id,((Z i).put id0 (some o1)).heap.get id=if id=id0 then some o1 else(Z i).heap.get id:=fun id=>Tr.set_get _ _ _ _
 have ag1:∀id,(r.φ.trim (Z i).next).Fi id→g.hdr id=((Z i).put id0 (some o1)).H.hdr id:=by
  intro id hf;obtain⟨q1,q2⟩:=toF id hf;by_cases e:id=id0
  ·subst e;rw[hi.vh id (j0+1) (lastJ _ (.inl w0j) fun j hj hlt ht=> ?_)]
   ·simp only[St.H,yget,if_true,h.ho]
   ·obtain⟨y',hy'⟩:=ops_some (hi.lt j hj);have hlt':i<j:=by have:=h.lt;omega
    rcases ht with ht|ht
    ·exact(okp _ _ _ _ (later j y' hj hy' hlt' (by omega))).2.2.1 id ht q1
    ·have h2:=fiLt i id q1;have h3:=leij j hlt' (hi.lt j hj);simp only[St.rng] at ht;omega
  ·obtain⟨m',h1,h2⟩:=last_text (tH Z F id) (fun j=>(Z j).H.hdr id) i fun j hj hn=>
    (hR.afr hE hC (i:=j) (by omega)).1 id (fun x=>hn (.inr x)) fun x=>hn (.inl x)
   rw[hi.vh id m' (last_same h1 fun j hj=>eqH id q1 e j hj),←h2];simp only[St.H,yget,if_neg e]
 have ag2:∀id k,(r.φ.trim (Z i).next).Fc id k→g.cell id k=((Z i).put id0 (some o1)).H.cell id k:=by
  intro id k hf;obtain⟨q1,q2⟩:=toF id hf.fi;by_cases e:id=id0
  ·subst e;rw[hi.vc id k (j0+1) (lastJ _ (.inl (w0j.wc k)) fun j hj hlt ht=> ?_)]
   ·simp only[St.H,yget,if_true,h.ho]
   ·obtain⟨y',hy'⟩:=ops_some (hi.lt j hj);have hlt':i<j:=by have:=h.lt;omega
    rcases ht with ht|ht
    ·exact(okp _ _ _ _ (later j y' hj hy' hlt' (by omega))).2.1 id k ht (q2 k)
    ·have h2:=fiLt i id q1;have h3:=leij j hlt' (hi.lt j hj);simp only[St.rng] at ht;omega
  ·obtain⟨m',h1,h2⟩:=last_text (tC Z F id k) (fun j=>(Z j).H.cell id k) i fun j hj hn=>
    (hR.afr hE hC (i:=j) (by omega)).2 id k (fun x=>hn (.inr x)) fun x=>hn (.inl x)
   rw[hi.vc id k m' (last_same h1 fun j hj=>eqC id k (q2 k) e j hj),←h2];simp only[St.H,yget,if_neg e]
 have slotStep:∀j,j<ops.size→∀t,¬tS ops t j→(S (j+1)).get t=(S j).get t:=by
  intro j hj t hn;obtain⟨x',hx'⟩:=ops_some hj;obtain⟨_,_,v,hp,_⟩:=aStep_sound hE hC (hR.step j x' hx');cases hd:x'.dst with
  |none=>rw[hp.1 hd]
  |some d=>
   rw[(hp.2 d hd).2 t,if_neg];intro e;exact hn ⟨x',hx',by rw[hd,e]⟩
 have ag3:∀t,t∈o.looksAt ops→∀v,(S i).get t=some v→t<nt∧VR (fun i=>D i∨N i) ι v (a.tmps.getD t undef):=by
  intro t hl v hv;obtain⟨m',h1,h2⟩:=last_text (tS ops t) (fun j=>(S j).get t) i fun j hj hn=>slotStep j (by omega) t hn
  have h2:(S i).get t=(S m').get t:=h2;rw[h2] at hv;exact hi.vs t m' (last_same h1 fun j hj=>eqS t hl j hj) v hv
 have hDN:∀id,N id→¬D id:=by
  intro id hn;obtain⟨j,hj,hr⟩:=(hi.hN id).1 hn;exact hD j id (hi.lt j hj) hr
 have noW:∀id,¬(recOf Z F i).φ.Wi id:=fun id hw=>by
  have:id∈(F i).wh:=(trim_Wi.1 hw).1;rw[h.wh] at this;cases this
 have noC:∀id k,¬(recOf Z F i).φ.Wc id k:=fun id k hw=>by
  rcases(trim_Wc.1 hw).1 with e|e
  ·rw[h.wc] at e;cases e
  ·rw[h.wh] at e;cases e
 have noN:∀id,¬(Z i).rng (Z (i+1)) id:=fun id hr=>by simp only[St.rng,h.nx] at hr;omega
 have hT:HOn P D ι0 (Z 0).H (φ.add (recOf Z F i).φ) w0:=h0.sub
  (fun id hf=>by
   rcases Foot.add_Fi.1 hf with hf|hf
   ·obtain⟨j,hj,hf⟩:=hi.fi id hf;exact hT1 j id (hi.lt j hj) hf
   ·exact hT1 i id hil hf)
  (fun id k hf=>by
   rcases Foot.add_Fc.1 hf with hf|hf
   ·obtain⟨j,hj,hf⟩:=hi.fc id k hf;exact hT2 j id k (hi.lt j hj) hf
   ·exact hT2 i id k hil hf)
 have hon:HOn P (fun i=>D i∨N i) ι g (recOf Z F i).φ w:=hi.post.hon hT hDN;have hon1:HOn P (fun i=>D i∨N i) ι g (r.φ.trim (Z i).next) w:=hon.sub (fun id hf=>(toF id hf).1) fun id k hf=>(toF id hf.fi).2 k
 have hon2:HOn P (fun i=>D i∨N i) ι ((Z i).put id0 (some o1)).H (r.φ.trim (Z i).next) w:=hon1.congr (fun id hf=>(ag1 id hf).symm) fun id k hf=>(ag2 id k hf).symm
 have hon3:HOn P (fun i=>D i∨N i) ι ((Z i).put id0 (some o1)).H r.φ w:=hon2.untrim fun id hid=>St.hdr_none hwY id hid
 have hGI:GI E (fun i=>D i∨N i) ι:=hG.next hDN hi.post.io;have hop:∀q,q∈o.op.operands→Rel E.G (fun i=>D i∨N i) ι (S i) a.eval q:=fun q hq=>rel_of hGI.b fun t e v hv=>(ag3 t (looks_operand (e▸hq)) v hv).2
 have hSN:Sound P (fun i=>D i∨N i) ι ((Z i).put id0 (some o1)) w (Instr.lookup t (a.eval m) (a.eval kk) false) r:=
  aLookupS_sound hE.T hE.cmp h.hr (hop m (by rw[h.op];simp[Op.operands]) v h.vm) (hop kk (by rw[h.op];simp[Op.operands]) u h.vk)
 obtain⟨-, -,hst⟩:=hSN;have rself:∀id,¬((Z i).put id0 (some o1)).rng r.σ id:=fun id=>by rw[f1];exact St.rng_self _ id
 obtain⟨v',ι',w',e1,e3,e4⟩:=hst hwY (fun id hr=>absurd hr (rself id)) hon3;have hwant:Region.wanted o (yielded ops a.tmps)=true:=by unfold Region.wanted;rw[h.g]
 unfold wpOp;rw[ho];simp only[hwant,if_true];left;unfold Oper.wp execOp;rw[h.op];simp only[Sem.run_bind,e1,Result.andThen_ok,Sem.run_pure];show K (a.put o.dst v') w';rw[f1] at e4;have p1:=e4.trim (n:=(Z i).next) fun id hid=>St.hdr_none hwY id hid
 have p2:=p1.move ag1 (fun id hr=>absurd hr (St.rng_self _ id));have nW:∀id,¬((r.φ.trim (Z i).next).Wi id∨((Z i).put id0 (some o1)).rng ((Z i).put id0 (some o1)) id):=fun id hw=>by
  rcases hw with hw|hw
  ·have:id∈r.φ.wh:=(trim_Wi.1 hw).1;rw[f3] at this;cases this
  ·exact St.rng_self _ id hw
 have nC:∀id k,¬((r.φ.trim (Z i).next).Wc id k∨((Z i).put id0 (some o1)).rng ((Z i).put id0 (some o1)) id):=fun id k hw=>by
  rcases hw with hw|hw
  ·rcases(trim_Wc.1 hw).1 with e|e
   ·rw[f2] at e;cases e
   ·rw[f3] at e;cases e
  ·exact St.rng_self _ id hw
 have p3:=p2.same_heap (h2:=g) (fun id=>(updH_hdr' (nW id)).symm) fun id k=>(updH_cell' (nC id k)).symm
 have p4:=p3.same_foot (ψ:=(recOf Z F i).φ) (fun id=>⟨fun hw=>absurd hw (noW id),fun hw=>absurd (.inl hw) (nW id)⟩) (fun id k=>⟨fun hw=>absurd hw (noC id k),fun hw=>absurd (.inl hw) (nC id k)⟩) fun id hf=>(toF id hf).1
 have htr:=Post.trans hT hi.post p4 (fun id hr=>absurd hr (St.rng_self _ id)) (fun id hr=>absurd hr (St.rng_self _ id));have eN:(fun id=>N id∨((Z i).put id0 (some o1)).rng ((Z i).put id0 (some o1)) id)=N:=funext fun id=>propext ⟨fun hx=>hx.resolve_right (St.rng_self _ id),.inl⟩
 rw[eN] at htr;have eD:∀q,((D q∨N q)∨((Z i).put id0 (some o1)).rng r.σ q)→(D q∨N q):=fun q hq=>hq.resolve_right (rself q)
 have eio:∀q,D q∨N q→ι' q=ι q:=fun q _=>e4.io q (St.rng_self _ q)
 refine hK ι' g N (φ.add (recOf Z F i).φ) (a.put o.dst v') w' ?_;refine { lt:= ?_,hN:= ?_,post:=htr,wi:= ?_,wc:= ?_,fi:= ?_,fc:= ?_,vh:= ?_,vc:= ?_,vs:= ?_,sz:=(put_size _ _ _).trans hi.sz,df:=(put_defers _ _ _).trans hi.df}
 ·rintro j (hj|rfl)
  ·exact hi.lt j hj
  ·exact hil
 ·intro id;rw[hi.hN];exact⟨fun⟨j,hj,hr⟩=>⟨j,.inl hj,hr⟩,fun⟨j,hj,hr⟩=>by
   rcases hj with hj|rfl
   ·exact⟨j,hj,hr⟩
   ·exact absurd hr (noN id)⟩
 ·intro id;rw[Foot.add_Wi,hi.wi];constructor
  ·rintro(⟨j,hj,h⟩|h)
   ·exact⟨j,.inl hj,h⟩
   ·exact⟨i,.inr rfl,h⟩
  ·rintro⟨j,hj|rfl,hh⟩
   ·exact .inl ⟨j,hj,hh⟩
   ·exact .inr hh
 ·intro id k;rw[Foot.add_Wc,hi.wc];constructor
  ·rintro(⟨j,hj,h⟩|h)
   ·exact⟨j,.inl hj,h⟩
   ·exact⟨i,.inr rfl,h⟩
  ·rintro⟨j,hj|rfl,hh⟩
   ·exact .inl ⟨j,hj,hh⟩
   ·exact .inr hh
 ·intro id hf;rcases Foot.add_Fi.1 hf with hf|hf
  ·obtain⟨j,hj,h⟩:=hi.fi id hf;exact⟨j,.inl hj,h⟩
  ·exact⟨i,.inr rfl,hf⟩
 ·intro id k hf;rcases Foot.add_Fc.1 hf with hf|hf
  ·obtain⟨j,hj,h⟩:=hi.fc id k hf;exact⟨j,.inl hj,h⟩
  ·exact⟨i,.inr rfl,hf⟩
 ·intro id m' hm;exact hi.vh id m' (last_miss hm fun ht=>ht.elim (noW id) (noN id))
 ·intro id k m' hm;exact hi.vc id k m' (last_miss hm fun ht=>ht.elim (noC id k) (noN id))
 ·intro t' m' hm u' hu;by_cases ht:tS ops t' i
  ·obtain⟨o',ho',hd⟩:=ht;rw[ho] at ho';cases ho';have hdd:d=t':=by have:=h.dst;rw[hd] at this;exact(Option.some.inj this).symm
   have:m'=i+1:=last_hit hm ⟨o,ho,hd⟩ fun j hj htj=>by
    obtain⟨y',hy',hyd⟩:=htj;rcases Nat.lt_trichotomy j i with h1|h1|h1
    ·exact h1
    ·subst h1;exact absurd hj hni
    ·have hap:o.apart ops y'=true:=by
      by_cases e:j=j0
      ·subst e;have:=h.y0;rw[hy'] at this;cases this;exact h.ap
      ·exact(okp _ _ _ _ (later j y' hj hy' h1 e)).1.1
     exact absurd hyd ((Oper.apart_spec hap).2.1 t' hd)
   subst this;obtain⟨_,_,vv,hps,_⟩:=aStep_sound hE hC (hR.step i o ho);obtain⟨q1,q2⟩:=hps.2 t' hd;have hz:=h.hz;rw[hdd] at hz;rw[hz] at hu;cases hu;refine⟨q1,?_⟩;rw[hd,put_get_eq a t' v' (by rw[hi.sz];exact q1)];exact e3.mono (fun q hq=>eD q hq) fun _ _=>rfl
  ·have hm2:=last_miss hm ht;obtain⟨q1,q2⟩:=hi.vs t' m' hm2 u' hu;refine⟨q1,?_⟩;have hne:o.dst≠some t':=fun e=>ht ⟨o,ho,e⟩
   rw[put_get_ne a o.dst v' t' hne];exact q2.mono (fun j hj=>hj) fun j hj=>eio j hj
omit hE hC hR
end
end Go.Eng
end
end
end
section
noncomputable section
noncomputable section
namespace Go.Eng
open Go
def recsFoot:List Rec→Foot
 |[]=>.nil
 |r::rs=>r.φ.add (recsFoot rs)
def unl:Nat→Array Bool→Nat
 |0,_=>0
 |k+1,l=>unl k l+(bif l.getD k true then 0 else 1)
theorem unl_set {l:Array Bool} {i:Nat} (hi:i<l.size):∀k,unl k (l.setIfInBounds i true)+(if i<k∧l.getD i true=false then 1 else 0)=unl k l
 |0=>by simp[unl]
 |k+1=>by
  have ih:=unl_set hi k;simp only[unl];by_cases e:k=i
  ·subst e;rw[if_neg (by omega)] at ih;have h1:(l.setIfInBounds k true).getD k true=true:=by simp
   rw[h1];cases hb:l.getD k true
   ·rw[if_pos ⟨by omega,rfl⟩];simp only[cond_true,cond_false];omega
   ·rw[if_neg (by simp)];simp only[cond_true];omega
  ·have h1:(l.setIfInBounds i true).getD k true=l.getD k true:=by
    simp only[Array.getD_eq_getD_getElem?,Array.getElem?_setIfInBounds_ne (Ne.symm e)]
   rw[h1];by_cases hlt:i<k∧l.getD i true=false
   ·rw[if_pos hlt] at ih;rw[if_pos ⟨by omega,hlt.2⟩];omega
   ·rw[if_neg hlt] at ih;rw[if_neg]
    ·omega
    ·intro h;exact hlt ⟨by omega,h.2⟩
theorem unl_zero {l:Array Bool}:∀k,unl k l=0→∀j,j<k→l.getD j true=true
 |0,_,j,h=>absurd h (Nat.not_lt_zero j)
 |k+1,h,j,hj=>by
  simp only[unl] at h;by_cases e:j=k
  ·subst e;cases hb:l.getD j true
   ·rw[hb] at h;simp at h
   ·rfl
  ·exact unl_zero k (by omega) j (by omega)
theorem unl_init (n:Nat):∀k,k≤n→unl k (Array.replicate n false)=k
 |0,_=>rfl
 |k+1,h=>by
  simp only[unl];rw[unl_init n k (by omega)];have:(Array.replicate n false).getD k true=false:=by
   simp[Array.getD_eq_getD_getElem?,show k<n by omega]
  rw[this];rfl
theorem unl_none {n:Nat} (j:Nat):¬((Array.replicate n false).getD j false=true):=by
 rw[Array.getD_eq_getD_getElem?,Array.getElem?_replicate]
 split<;>simp
section
variable {P:Program} {E:Env} (hE:E.OK P) {call:CallF} (hC:CallSound P E call) {nt:Nat} {ops:Array Oper} {S:Nat→Tr Value} {Z:Nat→St} {F:Nat→Foot} (hR:Run P E call nt ops S Z F)
theorem mem_ready {l:Array Bool} {i:Nat}:i∈Region.ready .any ops l↔i<ops.size∧l.getD i true=false∧∃o,ops[i]?=some o∧∀e∈o.after.toList,Region.binds .any e=true→l.getD e.on false=true:=by
 unfold Region.ready;simp only[List.mem_filter,List.mem_range,Bool.and_eq_true,Bool.not_eq_true'];constructor
 ·rintro⟨h1,h2,h3⟩;obtain⟨o,ho⟩:=ops_some h1;refine⟨h1,h2,o,ho,fun e he hb=> ?_⟩;rw[ho] at h3;simp only[Option.map_some,Option.getD_some] at h3;rw[←Array.all_toList] at h3;have:=List.all_eq_true.1 h3 e he;rw[hb] at this;simpa using this
 ·rintro⟨h1,h2,o,ho,h3⟩;refine⟨h1,h2,?_⟩;rw[ho];simp only[Option.map_some,Option.getD_some];rw[←Array.all_toList,List.all_eq_true];intro e he;cases hb:Region.binds .any e
  ·rfl
  ·simpa using h3 e he hb
include hR in
theorem ready_none {l:Array Bool} (h:Region.ready .any ops l=[]):∀j,j<ops.size→l.getD j true=true:=by
 intro j
 induction j using Nat.strongRecOn with
 |_ j ih=>
  intro hj;cases hb:l.getD j true
  ·exfalso;obtain⟨o,ho⟩:=ops_some hj;have:j∈Region.ready .any ops l:=mem_ready.2 ⟨hj,hb,o,ho,fun e he hbn=>by
    have hlt:=hR.back j o ho e he hbn;have h1:=ih e.on hlt (by omega);have:e.on<l.size:=by
     rcases Nat.lt_or_ge j l.size with hl|hg
     ·omega
     ·rw[Array.getD_eq_getD_getElem?,Array.getElem?_eq_none hg] at hb;cases hb
    rw[Array.getD_eq_getD_getElem?,Array.getElem?_eq_getElem this] at h1⊢;exact h1⟩
   rw[h] at this;cases this
  ·rfl
include hE hC hR
theorem Run.any (hok:(Z ops.size).Ok) {D:Nat→Prop} {ι0:Nat→Reg} {w0:World} {ds:List Deferred} {T:Foot} {Q:Exit→Act→World→Prop}
  (hT1:∀j id,j<ops.size→(recOf Z F j).φ.Fi id→T.Fi id) (hT2:∀j id k,j<ops.size→(recOf Z F j).φ.Fc id k→T.Fc id k) (h0:HOn P D ι0 (Z 0).H T w0) (hG:GI E D ι0)
  (hD:∀j id,j<ops.size→(Z j).rng (Z (j+1)) id→¬D id)
  (hQ:∀dn ι g N φ a w,(∀j,j<ops.size→dn j)→DInv P nt ops S Z F D ι0 w0 ds dn ι g N φ a w→Q .normal a w):
  ∀(fuel:Nat) (l:Array Bool) (ι:Nat→Reg) (g:H) (N:Nat→Prop) (φ:Foot) (a:Act) (w:World),l.size=ops.size→unl ops.size l=fuel→ClosedS ops (fun j=>l.getD j false=true)→
   DInv P nt ops S Z F D ι0 w0 ds (fun j=>l.getD j false=true) ι g N φ a w→wpAny P .any ops Q fuel l a w:=by
 have tf:∀(l:Array Bool) j,l.size=ops.size→j<ops.size→(l.getD j true=true↔l.getD j false=true):=by
  intro l j hl hj;have:j<l.size:=by omega
  simp only[Array.getD_eq_getD_getElem?,Array.getElem?_eq_getElem this,Option.getD_some]
 intro fuel
 induction fuel with
 |zero=>
  intro l ι g N φ a w hl hu hcl hi;have hall:=unl_zero _ hu;refine⟨?_,hQ _ ι g N φ a w (fun j hj=>(tf l j hl hj).1 (hall j hj)) hi⟩;rw[List.eq_nil_iff_forall_not_mem];intro i hm;obtain⟨h1,h2,_⟩:=mem_ready.1 hm;rw[hall i h1] at h2;cases h2
 |succ fuel ih=>
  intro l ι g N φ a w hl hu hcl hi;refine⟨fun hr=>hQ _ ι g N φ a w (fun j hj=>(tf l j hl hj).1 (ready_none hR hr j hj)) hi,fun i hm=> ?_⟩;obtain⟨h1,h2,o,ho,h3⟩:=mem_ready.1 hm;have hni:¬(l.getD i false=true):=fun h=>by
   rw[(tf l i hl h1).2 h] at h2;cases h2
  suffices go:∀ι' g' N' φ' a' w',DInv P nt ops S Z F D ι0 w0 ds (fun j=>l.getD j false=true∨j=i) ι' g' N' φ' a' w'→wpAny P .any ops Q fuel (l.setIfInBounds i true) a' w' by
   rcases Classical.em (∃j,l.getD j false=true∧SpE E ops S Z F i j) with⟨j,hj,hs⟩|hn
   ·exact hR.stepSp hE hC hi ho hni hcl h3 hs hj hT1 hT2 h0 hG hD go
   ·exact hR.stepAny hE hC hok hi ho hni hcl h3 (fun j hj hs=>hn ⟨j,hj,hs⟩) hT1 hT2 h0 hG hD go
  intro ι' g' N' φ' a' w' hi';have hset:∀j,(l.getD j false=true∨j=i)=((l.setIfInBounds i true).getD j false=true):=by
   intro j;apply propext;have hil:i<l.size:=by omega
   by_cases e:j=i
   ·subst e;simp[Array.getD_eq_getD_getElem?,hil]
   ·rw[Array.getD_eq_getD_getElem?,Array.getD_eq_getD_getElem?,Array.getElem?_setIfInBounds_ne (Ne.symm e)];simp[e]
  have hfun:(fun j=>l.getD j false=true∨j=i)=fun j=>(l.setIfInBounds i true).getD j false=true:=funext hset
  rw[hfun] at hi';refine ih _ ι' g' N' φ' a' w' (by simp[hl]) ?_ ?_ hi'
  ·have:=unl_set (l:=l) (i:=i) (by omega) ops.size;rw[if_pos ⟨h1,h2⟩] at this;omega
  ·rw[←hfun];intro j o' e hj hd he hb;rcases hd with hd|rfl
   ·exact .inl (hcl j o' e hj hd he hb)
   ·rw[ho] at hj;cases hj;exact .inl (h3 e he hb)
omit hE hC hR
theorem recsFoot_iff {recs:List Rec}:(∀id,(recsFoot recs).Wi id↔∃r∈recs,r.φ.Wi id)∧(∀id k,(recsFoot recs).Wc id k↔∃r∈recs,r.φ.Wc id k)∧
  (∀id,(recsFoot recs).Fi id↔∃r∈recs,r.φ.Fi id)∧∀id k,(recsFoot recs).Fc id k↔∃r∈recs,r.φ.Fc id k:=by
 induction recs with
 |nil=>simp[recsFoot,Foot.nil,Foot.Wi,Foot.Wc,Foot.Fi,Foot.Fc]
 |cons r rs ih=>
  obtain⟨h1,h2,h3,h4⟩:=ih;refine⟨fun id=> ?_,fun id k=> ?_,fun id=> ?_,fun id k=> ?_⟩
  ·rw[recsFoot,Foot.add_Wi,h1];simp
  ·rw[recsFoot,Foot.add_Wc,h2];simp
  ·rw[recsFoot,Foot.add_Fi,h3];simp
  ·rw[recsFoot,Foot.add_Fc,h4];simp
def DrawOK (P:Program) (E:Env) (call:CallF) (nt:Nat) (ops:Array Oper) (s:Tr Value) (σ:St) (s':Tr Value) (σ':St) (recs:List Rec):Prop:=
 ∃(S:Nat→Tr Value) (Z:Nat→St) (F:Nat→Foot),S 0=s∧Z 0=σ∧S ops.size=s'∧Z ops.size=σ'∧recs.length=ops.size∧
  (∀(i:Nat) o,ops[i]?=some o→aStep P E call nt ops.toList o (S i) (Z i)=some (S (i+1),Z (i+1),F i))∧(∀i,i<ops.size→recs[i]?=some (recOf Z F i))∧
  (∀(j:Nat) o,ops[j]?=some o→∀e∈o.after.toList,Region.binds .any e=true→e.on<j)∧
  ∀(i j:Nat) x y,i<j→ops[i]?=some x→ops[j]?=some y→Ahead ops i j∨okPair ops x y (recOf Z F i) (recOf Z F j)=true∨SpE E ops S Z F i j
theorem DrawOK.of {s s':Tr Value} {σ σ':St} {recs:List Rec} (h:evSteps P E call nt ops.toList ops.toList s σ=some (s',σ',recs)) (hok:okAll ops ops.toList recs [] ops.toList recs=true):DrawOK P E call nt ops s σ s' σ' recs:=by
 obtain⟨S,Z,F,e1,e2,e3,e4,e5,e6,e7⟩:=evSteps_spec ops.toList ops.toList _ _ _ _ _ h;rw[Array.length_toList] at e3 e4 e7;have e5:recs.length=ops.size:=e5.trans Array.length_toList;obtain⟨k1,k2⟩:=okAll_spec ops.toList recs [] hok (by simp) (by simp) (by simp);refine⟨S,Z,F,e1,e2,e3,e4,e5,fun i o hi=>e6 i o (by rw[Array.getElem?_toList];exact hi),e7,fun j o ho=>k1 j o (Nat.zero_le _) ho,fun i j x y hij hx hy=> ?_⟩
 rcases k2 i j x y _ _ (Nat.zero_le _) hij hx hy (e7 i (by have:=ops_lt hy;omega)) (e7 j (ops_lt hy)) with h|h
 ·exact .inl h
 ·exact .inr (.inl h)
def drawB (P:Program) (E:Env) (call:CallF) (nt:Nat) (ops:Array Oper) (s:Tr Value) (σ:St) (s':Tr Value) (σ':St) (recs:List Rec):Bool:= @decide (DrawOK P E call nt ops s σ s' σ' recs) (Classical.propDecidable _)
theorem drawB_t {s s':Tr Value} {σ σ':St} {recs:List Rec}:drawB P E call nt ops s σ s' σ' recs=true↔DrawOK P E call nt ops s σ s' σ' recs:=by unfold drawB;exact @decide_eq_true_iff _ (Classical.propDecidable _)
include hE hC in
theorem evDraw_core {s s':Tr Value} {σ σ':St} {recs:List Rec} (h:DrawOK P E call nt ops s σ s' σ' recs):
  σ.next≤σ'.next∧(σ.wf→σ'.wf∧AFr σ σ' (recsFoot recs))∧
  (σ'.Ok→∀(D:Nat→Prop) (ι:Nat→Reg) (w:World) (a:Act) (Q:Exit→Act→World→Prop),σ.wf→GI E D ι→(∀id,σ.rng σ' id→¬D id)→SRel nt D ι s a→HOn P D ι σ.H (recsFoot recs) w→
   (∀ι' w' a',SRel nt (fun i=>D i∨σ.rng σ' i) ι' s' a'→a'.defers=a.defers→Post P D (σ.rng σ') ι σ.H w (recsFoot recs) ι' σ'.H w'→Q .normal a' w')→
   wpAny P .any ops Q ops.size (Array.replicate ops.size false) a w):=by
 obtain⟨S,Z,F,rfl,rfl,e3,e4,e5,hops,e7,hback,hpair⟩:=h;have mkR:(Z 0).wf→Run P E call nt ops S Z F:=fun hw=>
  { step:=hops,back:=hback,pair:=hpair,wf0:=hw}
 have hmem:∀r,r∈recs↔∃j,j<ops.size∧r=recOf Z F j:=by
  intro r;rw[List.mem_iff_getElem?];constructor
  ·rintro⟨j,hj⟩;have hlt:j<ops.size:=by
    rcases Nat.lt_or_ge j recs.length with h|h
    ·rw[e5] at h;exact h
    ·rw[List.getElem?_eq_none h] at hj;cases hj
   rw[e7 j hlt] at hj;cases hj;exact⟨j,hlt,rfl⟩
  ·rintro⟨j,hj,rfl⟩;exact⟨j,e7 j hj⟩
 obtain⟨f1,f2,f3,f4⟩:=recsFoot_iff (recs:=recs);have hafr:(hw:(Z 0).wf)→AFr (Z 0) σ' (recsFoot recs):=by
  intro hw;have hR:=mkR hw;have le0:=fun j=>hR.le hE hC (i:=0) (j:=j)
  refine⟨fun id hn hwi=> ?_,fun id k hn hwc=> ?_,fun hok=>hR.ok hE hC (by rw[e4];exact hok) ops.size 0 (by omega)⟩
  ·have:∀j,j≤ops.size→(Z j).H.hdr id=(Z 0).H.hdr id:=by
    intro j
    induction j with
    |zero=>intro _;rfl
    |succ j ih=>
     intro hj;rw[←ih (by omega)];refine(hR.afr hE hC (i:=j) (by omega)).1 id (fun hr=>hn ?_) fun hx=>hwi ((f1 id).2 ⟨_,(hmem _).2 ⟨j,by omega,rfl⟩,hx⟩)
     have q1:=le0 j (by omega) (by omega);have q2:=hR.le hE hC (i:=j+1) (j:=ops.size) (by omega) (Nat.le_refl _);rw[e4] at q2;simp only[St.rng] at hr⊢;omega
   rw[←e4];exact this ops.size (Nat.le_refl _)
  ·have:∀j,j≤ops.size→(Z j).H.cell id k=(Z 0).H.cell id k:=by
    intro j
    induction j with
    |zero=>intro _;rfl
    |succ j ih=>
     intro hj;rw[←ih (by omega)];refine(hR.afr hE hC (i:=j) (by omega)).2 id k (fun hr=>hn ?_) fun hx=>hwc ((f2 id k).2 ⟨_,(hmem _).2 ⟨j,by omega,rfl⟩,hx⟩)
     have q1:=le0 j (by omega) (by omega);have q2:=hR.le hE hC (i:=j+1) (j:=ops.size) (by omega) (Nat.le_refl _);rw[e4] at q2;simp only[St.rng] at hr⊢;omega
   rw[←e4];exact this ops.size (Nat.le_refl _)
 have hle:∀j,j≤ops.size→(Z 0).next≤(Z j).next:=by
  intro j
  induction j with
  |zero=>intro _;exact Nat.le_refl _
  |succ j ih=>
   intro hj;obtain⟨o,ho⟩:=ops_some (ops:=ops) (i:=j) (by omega);exact Nat.le_trans (ih (by omega)) (aStep_sound hE hC (hops j o ho)).1
 refine⟨by rw[←e4];exact hle _ (Nat.le_refl _),fun hw=>⟨?_,hafr hw⟩,?_⟩
 ·rw[←e4];exact(mkR hw).wf hE hC (Nat.le_refl _)
 ·intro hokf D ι w a Q hw hG hd hs ho hQ;have hR:=mkR hw;have hrng:∀j id,j<ops.size→(Z j).rng (Z (j+1)) id→(Z 0).rng σ' id:=by
   intro j id hj hr;have q1:=hR.le hE hC (i:=0) (j:=j) (by omega) (by omega);have q2:=hR.le hE hC (i:=j+1) (j:=ops.size) (by omega) (Nat.le_refl _);rw[e4] at q2;simp only[St.rng] at hr⊢;omega
  have hrng2:∀id,(Z 0).rng σ' id→∃j,j<ops.size∧(Z j).rng (Z (j+1)) id:=by
   intro id hr;have:∀n,n≤ops.size→(Z 0).next≤id→id<(Z n).next→∃j,j<n∧(Z j).rng (Z (j+1)) id:=by
    intro n
    induction n with
    |zero=>intro _ h1 h2;omega
    |succ n ih=>
     intro hn h1 h2;by_cases hlt:id<(Z n).next
     ·obtain⟨j,hj,hr⟩:=ih (by omega) h1 hlt;exact⟨j,by omega,hr⟩
     ·exact⟨n,by omega,by simp only[St.rng];omega⟩
   exact this ops.size (Nat.le_refl _) hr.1 (by rw[e4];exact hr.2)
  refine hR.any hE hC (by rw[e4];exact hokf) (ds:=a.defers) (ι0:=ι) (D:=D) (w0:=w) (T:=recsFoot recs) (fun j id hj hf=>(f3 id).2 ⟨_,(hmem _).2 ⟨j,hj,rfl⟩,hf⟩) (fun j id k hj hf=>(f4 id k).2 ⟨_,(hmem _).2 ⟨j,hj,rfl⟩,hf⟩)
   ho hG (fun j id hj hr=>hd id (hrng j id hj hr)) ?_ ops.size _ ι (Z 0).H (fun _=>False) .nil a w (by simp) (unl_init _ _ (Nat.le_refl _)) ?_ ?_
  ·intro dn ι' g N φ a' w' hall hi;have hN:N=(Z 0).rng σ':=by
    funext id;apply propext;rw[hi.hN];constructor
    ·rintro⟨j,hj,hr⟩;exact hrng j id (hi.lt j hj) hr
    ·intro hr;obtain⟨j,hj,hr'⟩:=hrng2 id hr;exact⟨j,hall j hj,hr'⟩
   subst hN;have hlast:∀touch:Nat→Prop,∀m,Last touch (· <ops.size) m→Last touch dn m:=fun touch m h=>
    last_same h fun j _=>⟨fun hj=>hi.lt j hj,fun hj=>hall j hj⟩
   have hg1:∀id,g.hdr id=σ'.H.hdr id:=by
    intro id;obtain⟨m,h1,h2⟩:=last_text (tH Z F id) (fun j=>(Z j).H.hdr id) ops.size fun j hj hn=>
     (hR.afr hE hC hj).1 id (fun x=>hn (.inr x)) fun x=>hn (.inl x)
    rw[hi.vh id m (hlast _ m h1),←h2,e4]
   have hg2:∀id k,g.cell id k=σ'.H.cell id k:=by
    intro id k;obtain⟨m,h1,h2⟩:=last_text (tC Z F id k) (fun j=>(Z j).H.cell id k) ops.size fun j hj hn=>
     (hR.afr hE hC hj).2 id k (fun x=>hn (.inr x)) fun x=>hn (.inl x)
    rw[hi.vc id k m (hlast _ m h1),←h2,e4]
   refine hQ ι' w' a' ⟨hi.sz,fun t v hv=> ?_⟩ hi.df ?_
   ·obtain⟨m,h1,h2⟩:=last_text (tS ops t) (fun j=>(S j).get t) ops.size fun j hj hn=>by
     obtain⟨x,hx⟩:=ops_some hj;obtain⟨_,_,v,hp,_⟩:=aStep_sound hE hC (hR.step j x hx);cases hd:x.dst with
     |none=>simp only[hp.1 hd]
     |some d=>
      show(S (j+1)).get t=(S j).get t;rw[(hp.2 d hd).2 t,if_neg];intro e;exact hn ⟨x,hx,by rw[hd,e]⟩
    have h2:(S ops.size).get t=(S m).get t:=h2;rw[←e3,h2] at hv;exact hi.vs t m (hlast _ m h1) v hv
   ·refine(hi.post.same_foot (fun id=> ?_) (fun id k=> ?_) fun id hf=>by
     obtain⟨j,hj,hx⟩:=hi.fi id hf;exact(f3 id).2 ⟨_,(hmem _).2 ⟨j,hi.lt j hj,rfl⟩,hx⟩).same_heap (fun id=>(hg1 id).symm) fun id k=>(hg2 id k).symm
    ·rw[f1,hi.wi];constructor
     ·rintro⟨r,hr,hx⟩;obtain⟨j,hj,rfl⟩:=(hmem r).1 hr;exact⟨j,hall j hj,hx⟩
     ·rintro⟨j,hj,hx⟩;exact⟨_,(hmem _).2 ⟨j,hi.lt j hj,rfl⟩,hx⟩
    ·rw[f2,hi.wc];constructor
     ·rintro⟨r,hr,hx⟩;obtain⟨j,hj,rfl⟩:=(hmem r).1 hr;exact⟨j,hall j hj,hx⟩
     ·rintro⟨j,hj,hx⟩;exact⟨_,(hmem _).2 ⟨j,hi.lt j hj,rfl⟩,hx⟩
  ·intro j o e _ hd;exact absurd hd (unl_none j)
  ·have hno:∀j,¬((Array.replicate ops.size false).getD j false=true):=unl_none;have hzero:∀(touch:Nat→Prop) m,Last touch (fun j=>(Array.replicate ops.size false).getD j false=true) m→m=0:=by
    intro touch m h;rcases h with⟨e,_⟩|⟨j,_,hj,_⟩
    ·exact e
    ·exact absurd hj (hno j)
   exact {
    lt:=fun j hj=>absurd hj (hno j)
    hN:=fun id=>⟨fun h=>h.elim,fun⟨j,hj,_⟩=>absurd hj (hno j)⟩
    post:=Post.refl _ _ _ _ _ _ fun _=>not_false
    wi:=fun id=>⟨fun h=>by simp[Foot.Wi,Foot.nil] at h,fun⟨j,hj,_⟩=>absurd hj (hno j)⟩
    wc:=fun id k=>⟨fun h=>by simp[Foot.Wc,Foot.nil] at h,fun⟨j,hj,_⟩=>absurd hj (hno j)⟩
    fi:=fun id h=>by simp[Foot.Fi,Foot.nil] at h
    fc:=fun id k h=>by simp[Foot.Fc,Foot.nil] at h
    vh:=fun id m hm=>by rw[hzero _ m hm]
    vc:=fun id k m hm=>by rw[hzero _ m hm]
    vs:=fun t m hm v hv=>by
     rw[hzero _ m hm] at hv;exact⟨(hs.2 t v hv).1,(hs.2 t v hv).2.mono (fun _=>.inl) fun _ _=>rfl⟩
    sz:=hs.1
    df:=rfl}
end
end Go.Eng
end
end
end
