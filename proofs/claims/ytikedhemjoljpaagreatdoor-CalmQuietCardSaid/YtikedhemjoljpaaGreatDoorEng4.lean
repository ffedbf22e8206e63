/-
  The engine, part 4: an abstract evaluator over the model's code, proved sound. No condition.
-/
import Derived.Test.YtikedhemjoljpaaGreatDoorEng3
import Derived.Test.YtikedhemjoljpaaGreatDoorEng1
import Derived.Laws.StructEq
section
noncomputable section
noncomputable section
namespace Go.Eng
open Go
inductive DC where
 |v (x:Value)
 |s (t:Ty) (xs:List t.Den)
 |e (b:Bool)
 |k (v:Value)
 |j
def dcs:(t:Ty)→t.Den→List DC
 | .int k,n=>[.v (sy (.int k n))]
 | .byte,b=>[.v (sy (.int .u8 b.toNat))]
 | .bool,b=>[.v (sy (.bool b))]
 | .str,s=>[.v (sy (.string (bs s)))]
 | .unit,_=>[]
 | .pair a b,x=>dcs a x.1++dcs b x.2
 | .slice a,xs=>[.s a xs]
 | .err,b=>[.e b]
 | .fn f,_=>[.k (.func (.func f) #[] #[])]
 | .fv,f=>[.k (.func (.func f) #[] #[])]
 | .f64,n=>[.v (sy (.float .f64 n))]
 | .cx,x=>[.v (sy (.complex .f64 x.1 x.2))]
 | .ref _,_=>[.j]
 | .clo _ _,_=>[.j]
def Ty.dflt:(t:Ty)→t.Den
 | .int _=>(0:Int)
 | .byte=>(0:UInt8)
 | .bool=>false
 | .str=>([]:List UInt8)
 | .unit=>()
 | .pair a b=>(a.dflt,b.dflt)
 | .slice _=>[]
 | .err=>true
 | .fn _=>()
 | .fv=>(0:Nat)
 | .f64=>(0:Nat)
 | .cx=>((0:Nat),(0:Nat))
 | .ref a=>a.dflt
 | .clo _ a=>a.dflt
def DCR (fz:Nat→Option (Array Value)):DC→Value→Prop
 | .v x,u=>x=sy u∧scal u=true
 | .s t xs,u=>RdS fz t xs u
 | .e b,u=>isE b u=true
 | .k v,u=>u=v∧plainN 2 v=true
 | .j,_=>True
theorem dcs_rd {fz:Nat→Option (Array Value)}:∀(t:Ty) (x:t.Den) (cs:List Value),RdC fz t x cs→cs.length=t.sz∧(dcs t x).length=t.sz∧∀(k:Nat) d u,(dcs t x)[k]?=some d→cs[k]?=some u→DCR fz d u:=by
 intro t;have one:∀(d:DC) (u:Value),DCR fz d u→∀(k:Nat) d' u',[d][k]?=some d'→[u][k]?=some u'→DCR fz d' u':=by
  intro d u h k d' u' h1 h2;rcases k with _|k
  ·simp only[List.getElem?_cons_zero,Option.some.injEq] at h1 h2;subst h1 h2;exact h
  ·simp at h1
 induction t with
 |int k=>intro x cs h;simp only[RdC] at h;subst h;exact⟨rfl,rfl,one _ _ ⟨rfl,rfl⟩⟩
 |byte=>intro x cs h;simp only[RdC] at h;subst h;exact⟨rfl,rfl,one _ _ ⟨rfl,rfl⟩⟩
 |bool=>intro x cs h;simp only[RdC] at h;subst h;exact⟨rfl,rfl,one _ _ ⟨rfl,rfl⟩⟩
 |str=>intro x cs h;simp only[RdC] at h;subst h;exact⟨rfl,rfl,one _ _ ⟨rfl,rfl⟩⟩
 |unit=>intro x cs h;simp only[RdC] at h;subst h;exact⟨rfl,rfl,fun k d u h=>by simp[dcs] at h⟩
 |pair a b iha ihb=>
  intro x cs h;simp only[RdC] at h;obtain⟨c1,c2,rfl,h1,h2⟩:=h;obtain⟨a1,a2,a3⟩:=iha _ _ h1;obtain⟨b1,b2,b3⟩:=ihb _ _ h2;refine⟨by simp[Ty.sz,a1,b1],by simp[dcs,Ty.sz,a2,b2],fun k d u hd hu=> ?_⟩;simp only[dcs] at hd;by_cases hk:k<a.sz
  ·rw[List.getElem?_append_left (by omega)] at hd hu;exact a3 k d u hd hu
  ·rw[List.getElem?_append_right (by omega)] at hd hu;rw[a2] at hd;rw[a1] at hu;exact b3 _ d u hd hu
 |slice a=>
  intro x cs h;simp only[RdC] at h;obtain⟨sv,rfl,h⟩:=h;exact⟨rfl,rfl,one _ _ h⟩
 |err=>intro x cs h;simp only[RdC] at h;obtain⟨v,rfl,h⟩:=h;exact⟨rfl,rfl,one _ _ h⟩
 |fn f=>intro x cs h;simp only[RdC] at h;subst h;exact⟨rfl,rfl,one _ _ ⟨rfl,rfl⟩⟩
 |fv=>intro x cs h;simp only[RdC] at h;subst h;exact⟨rfl,rfl,one _ _ ⟨rfl,rfl⟩⟩
 |f64=>intro x cs h;simp only[RdC] at h;subst h;exact⟨rfl,rfl,one _ _ ⟨rfl,rfl⟩⟩
 |cx=>intro x cs h;simp only[RdC] at h;subst h;exact⟨rfl,rfl,one _ _ ⟨rfl,rfl⟩⟩
 |ref a ih=>intro x cs h;simp only[RdC] at h;obtain⟨b,o,arr,rfl,_⟩:=h;exact⟨rfl,rfl,one _ _ trivial⟩
 |clo f a ih=>intro x cs h;simp only[RdC] at h;obtain⟨us,rfl,_⟩:=h;exact⟨rfl,rfl,one _ _ trivial⟩
def gtake {α:Type}:List α→Nat→Option (List α)
 |_,0=>some []
 |[],_+1=>none
 |x::xs,n+1=>match gtake xs n with
  |some l=>some (x::l)
  |none=>none
def gslice {α:Type}:List α→Nat→Nat→Option (List α)
 |cs,0,n=>gtake cs n
 |[],_+1,_=>none
 |_::cs,o+1,n=>gslice cs o n
theorem gtake_spec {α:Type}:∀(cs:List α) (n:Nat) (l:List α),gtake cs n=some l→l=cs.take n∧n≤cs.length
 |_,0,l,h=>by simp[gtake] at h;subst h;simp
 |[],n+1,l,h=>by simp[gtake] at h
 |x::xs,n+1,l,h=>by
  simp only[gtake] at h
  split at h
  ·rename_i l' hl;cases h;obtain⟨h1,h2⟩:=gtake_spec xs n l' hl;exact⟨by simp[h1],by simp;omega⟩
  ·cases h
theorem gslice_spec {α:Type}:∀(cs:List α) (o n:Nat) (l:List α),gslice cs o n=some l→l=(cs.drop o).take n∧o+n≤cs.length
 |cs,0,n,l,h=>by
  obtain⟨h1,h2⟩:=gtake_spec cs n l (by simpa[gslice] using h);exact⟨by simpa using h1,by omega⟩
 |[],o+1,n,l,h=>by simp[gslice] at h
 |x::xs,o+1,n,l,h=>by
  obtain⟨h1,h2⟩:=gslice_spec xs o n l (by simpa[gslice] using h);exact⟨by simpa using h1,by simp;omega⟩
def mat:List DC→St→List Value×St
 |[],σ=>([],σ)
 | .v x::r,σ=>match mat r σ with
   |(vs,σ')=>(x::vs,σ')
 | .s t xs::r,σ=>match mat r (σ.new (.dat t xs)) with
   |(vs,σ')=>(dt σ.next::vs,σ')
 | .e b::r,σ=>match mat r σ with
   |(vs,σ')=>(er b::vs,σ')
 | .k x::r,σ=>match mat r σ with
   |(vs,σ')=>(x::vs,σ')
 | .j::r,σ=>match mat r σ with
   |(vs,σ')=>(junk::vs,σ')
def datReg (t:Ty) (fz:Nat→Option (Array Value)) (u:Value):Reg:=⟨0,0,0,t.sz,false,fz,u⟩
theorem RdS.shape {fz:Nat→Option (Array Value)} {t:Ty} {xs:List t.Den} {u:Value} (h:RdS fz t xs u):∃a l c,u=.slice a l c:=by
 rcases h with⟨⟨q,c,rfl⟩,_⟩|⟨b,o,c,arr,rfl,_⟩<;>exact⟨_,_,_,rfl⟩
structure MatOK (fz:Nat→Option (Array Value)) (ι:Nat→Reg) (σ σ':St) (ι':Nat→Reg):Prop where
 le:σ.next≤σ'.next
 pc:σ'.pc=σ.pc
 old:∀id,¬σ.rng σ' id→σ'.heap.get id=σ.heap.get id
 io:∀id,¬σ.rng σ' id→ι' id=ι id
 new:∀id,σ.rng σ' id→∃t xs u,σ'.heap.get id=some (.dat t xs)∧RdS fz t xs u∧ι' id=datReg t fz u
theorem mat_ok {fz:Nat→Option (Array Value)}:∀(l:List DC) (us:List Value) (D:Nat→Prop) (ι:Nat→Reg) (σ σ':St) (vs:List Value),mat l σ=(vs,σ')→l.length=us.length→(∀(k:Nat) d u,l[k]?=some d→us[k]?=some u→DCR fz d u)→
  ∃ι',MatOK fz ι σ σ' ι'∧vs.length=us.length∧∀(k:Nat) v u,vs[k]?=some v→us[k]?=some u→VR (fun i=>D i∨σ.rng σ' i) ι' v u
 |[],us,D,ι,σ,σ',vs,h,hl,_=>by
  simp only[mat,Prod.mk.injEq] at h;obtain⟨rfl,rfl⟩:=h;exact⟨ι,⟨Nat.le_refl _,rfl,fun _ _=>rfl,fun _ _=>rfl,fun id hr=>absurd hr (St.rng_self σ id)⟩,hl,fun k v u hv=>by simp at hv⟩
 | .v x::r,us,D,ι,σ,σ',vs,h,hl,hd=>by
   simp only[mat] at h;rcases hm:mat r σ with⟨vs',σ1⟩
   rw[hm] at h;simp only[Prod.mk.injEq] at h;obtain⟨rfl,rfl⟩:=h;cases us with
   |nil=>simp at hl
   |cons u us=>
    obtain⟨ι',m1,m2,m3⟩:=mat_ok r us D ι σ σ1 vs' hm (by simpa using hl) (fun k d u h1 h2=>hd (k+1) d u (by simpa using h1) (by simpa using h2));refine⟨ι',m1,by simp[m2],fun k v u' hv hu=> ?_⟩;rcases k with _|k
    ·simp only[List.getElem?_cons_zero,Option.some.injEq] at hv hu;subst hv hu;obtain⟨e1,e2⟩:=hd 0 _ _ rfl rfl;rw[e1];exact .sym _ e2
    ·exact m3 k v u' (by simpa using hv) (by simpa using hu)
 | .e b::r,us,D,ι,σ,σ',vs,h,hl,hd=>by
   simp only[mat] at h;rcases hm:mat r σ with⟨vs',σ1⟩
   rw[hm] at h;simp only[Prod.mk.injEq] at h;obtain⟨rfl,rfl⟩:=h;cases us with
   |nil=>simp at hl
   |cons u us=>
    obtain⟨ι',m1,m2,m3⟩:=mat_ok r us D ι σ σ1 vs' hm (by simpa using hl) (fun k d u h1 h2=>hd (k+1) d u (by simpa using h1) (by simpa using h2));refine⟨ι',m1,by simp[m2],fun k v u' hv hu=> ?_⟩;rcases k with _|k
    ·simp only[List.getElem?_cons_zero,Option.some.injEq] at hv hu;subst hv hu;exact .err b _ (hd 0 _ _ rfl rfl)
    ·exact m3 k v u' (by simpa using hv) (by simpa using hu)
 | .k x::r,us,D,ι,σ,σ',vs,h,hl,hd=>by
   simp only[mat] at h;rcases hm:mat r σ with⟨vs',σ1⟩
   rw[hm] at h;simp only[Prod.mk.injEq] at h;obtain⟨rfl,rfl⟩:=h;cases us with
   |nil=>simp at hl
   |cons u us=>
    obtain⟨ι',m1,m2,m3⟩:=mat_ok r us D ι σ σ1 vs' hm (by simpa using hl) (fun k d u h1 h2=>hd (k+1) d u (by simpa using h1) (by simpa using h2));refine⟨ι',m1,by simp[m2],fun k v u' hv hu=> ?_⟩;rcases k with _|k
    ·simp only[List.getElem?_cons_zero,Option.some.injEq] at hv hu;subst hv hu;obtain⟨e1,e2⟩:=hd 0 _ _ rfl rfl;rw[e1];exact plain_refl 2 _ e2
    ·exact m3 k v u' (by simpa using hv) (by simpa using hu)
 | .j::r,us,D,ι,σ,σ',vs,h,hl,hd=>by
   simp only[mat] at h;rcases hm:mat r σ with⟨vs',σ1⟩
   rw[hm] at h;simp only[Prod.mk.injEq] at h;obtain⟨rfl,rfl⟩:=h;cases us with
   |nil=>simp at hl
   |cons u us=>
    obtain⟨ι',m1,m2,m3⟩:=mat_ok r us D ι σ σ1 vs' hm (by simpa using hl) (fun k d u h1 h2=>hd (k+1) d u (by simpa using h1) (by simpa using h2));refine⟨ι',m1,by simp[m2],fun k v u' hv hu=> ?_⟩;rcases k with _|k
    ·simp only[List.getElem?_cons_zero,Option.some.injEq] at hv hu;subst hv hu;exact .junk _
    ·exact m3 k v u' (by simpa using hv) (by simpa using hu)
 | .s t xs::r,us,D,ι,σ,σ',vs,h,hl,hd=>by
   simp only[mat] at h;rcases hm:mat r (σ.new (.dat t xs)) with⟨vs',σ1⟩
   rw[hm] at h;simp only[Prod.mk.injEq] at h;obtain⟨rfl,rfl⟩:=h;cases us with
   |nil=>simp at hl
   |cons u us=>
    have hu:RdS fz t xs u:=hd 0 _ _ rfl rfl;obtain⟨ι',m1,m2,m3⟩:=mat_ok r us (fun i=>D i∨i=σ.next) (upd ι σ.next (datReg t fz u)) (σ.new (.dat t xs)) σ1 vs' hm (by simpa using hl) (fun k d u h1 h2=>hd (k+1) d u (by simpa using h1) (by simpa using h2));have hle:σ.next+1≤σ1.next:=m1.le;have hn:∀id,¬σ.rng σ1 id→¬(σ.new (.dat t xs)).rng σ1 id∧id≠σ.next:=fun id hr=>by simp only[St.rng,St.new] at hr⊢;omega
    have hnx:¬(σ.new (.dat t xs)).rng σ1 σ.next:=by simp only[St.rng,St.new];omega
    refine⟨ι',⟨by omega,m1.pc,fun id hr=> ?_,fun id hr=> ?_,fun id hr=> ?_⟩,by simp[m2],fun k v u' hv hu'=> ?_⟩
    ·rw[m1.old id (hn id hr).1];simp only[St.new,Tr.set_get,if_neg (hn id hr).2]
    ·rw[m1.io id (hn id hr).1,upd_ne _ _ (hn id hr).2]
    ·by_cases e:id=σ.next
     ·subst e;refine⟨t,xs,u,?_,hu,?_⟩
      ·rw[m1.old _ hnx];simp only[St.new,Tr.set_get,if_true]
      ·rw[m1.io _ hnx,upd_eq]
     ·exact m1.new id (by simp only[St.rng,St.new] at hr⊢;omega)
    ·rcases k with _|k
     ·simp only[List.getElem?_cons_zero,Option.some.injEq] at hv hu';subst hv hu';obtain⟨a,l,c,rfl⟩:=hu.shape;refine .dat σ.next a l c (.inr (by simp only[St.rng];omega)) ?_;rw[m1.io _ hnx,upd_eq];rfl
     ·refine(m3 k v u' (by simpa using hv) (by simpa using hu')).mono (fun i hi=> ?_) fun _ _=>rfl
      rcases hi with(hi|rfl)|hi
      ·exact .inl hi
      ·exact .inr (by simp only[St.rng];omega)
      ·exact .inr (by simp only[St.rng,St.new] at hi⊢;omega)
section
variable {P:Program} {T:TE} (hT:T.OK P) {D:Nat→Prop} {ι ι':Nat→Reg} {σ σ':St} {w w':World} {φ:Foot}
theorem Post.mats {fz:Nat→Option (Array Value)} (hw:σ.wf) (m:MatOK fz ι σ σ' ι') (hs:w.heap.size≤w'.heap.size) (hos:w'.os=w.os) (hout:w'.output=w.output) (hh:∀b,b<w.heap.size→w'.heap[b]?=w.heap[b]?) (hz:FzOK fz w')
  (hf:∀b c,fz b=some c→w.heap.size≤b∨∃k,φ.Fi k∧¬σ.rng σ' k∧Lv σ.H k∧(ι k).Fz b) (h4:φ.wc=[]) (h5:φ.wh=[]):Post P D (σ.rng σ') ι σ.H w φ ι' σ'.H w':=by
 have hold:∀id,¬σ.rng σ' id→σ'.H.hdr id=σ.H.hdr id:=fun id hr=>by simp only[St.H,m.old id hr]
 have holdc:∀id k,¬σ.rng σ' id→σ'.H.cell id k=σ.H.cell id k:=fun id k hr=>by simp only[St.H,m.old id hr]
 exact {
  io:=m.io
  size:=hs
  os:=hos
  out:=hout
  hdr:=fun id x hx e=>by
   rcases hx with hx|hx
   ·simp[Foot.Wi,h5] at hx
   ·obtain⟨t,xs,u,g1,g2,g3⟩:=m.new id hx;rw[St.hdr_of g1] at e;cases e;refine⟨?_,?_,?_,?_⟩
    ·rw[g3];exact g2
    ·rw[g3];rfl
    ·rw[g3];rfl
    ·rw[g3];exact hz
  cel:=fun id k v hx lv e=>by
   rcases hx with hx|hx
   ·simp[Foot.Wc,h4,h5] at hx
   ·obtain⟨t,xs,u,g1,g2,g3⟩:=m.new id hx;simp only[St.H,g1,cellOf] at e;cases e
  ahdr:=fun id hn _=>hold id hn
  acel:=fun id k hn _=>holdc id k hn
  cfr:=fun b hb _=>by rw[hh b hb];exact ObjBut.refl _ _
  fresh:=fun id hn _ b hb=>by
   obtain⟨t,xs,u,g1,g2,g3⟩:=m.new id hn;rw[g3] at hb;cases hb.1
  freshF:=fun id hn _ b hb=>by
   obtain⟨t,xs,u,g1,g2,g3⟩:=m.new id hn;rw[g3] at hb;obtain⟨c,hb⟩:=hb;rcases hf b c hb with h|h
   ·obtain⟨e,fr,h'⟩:=hz b c hb;exact .inl ⟨h,heap_lt h'⟩
   ·exact .inr (.inr h)
  dist:=fun i j hi _ _ _ _ b hb=>by
   obtain⟨t,xs,u,g1,g2,g3⟩:=m.new i hi;rw[g3] at hb;cases hb.1
  nl:=fun id hn=>St.hdr_none hw id hn.1
  wl:=fun id k hx=>by simp[Foot.Wc,h4,h5] at hx
  wrm:=fun id hn hx=>hx.of_hdr (hold id hn)
  wrow:=fun id k hx=>by simp[Foot.Wc,h4,h5] at hx}
theorem MatOK.wf {fz:Nat→Option (Array Value)} (m:MatOK fz ι σ σ' ι') (hw:σ.wf):σ'.wf:=fun id h=>by
 rw[m.old id (by simp only[St.rng];omega)];exact hw id (by have:=m.le;omega)
theorem MatOK.afr {fz:Nat→Option (Array Value)} (m:MatOK fz ι σ σ' ι') (φ:Foot):AFr σ σ' φ:=
 ⟨fun id hr _=>by simp only[St.H,m.old id hr],fun id k hr _=>by simp only[St.H,m.old id hr],fun h=>by unfold St.Ok at h⊢;rw[m.pc] at h;exact h⟩
theorem mat_abs:∀(l:List DC) (σ σ':St) (vs:List Value),mat l σ=(vs,σ')→σ.next≤σ'.next∧σ'.pc=σ.pc∧σ'.ora=σ.ora∧∀id,¬σ.rng σ' id→σ'.heap.get id=σ.heap.get id
 |[],σ,σ',vs,h=>by
  simp only[mat,Prod.mk.injEq] at h;obtain⟨rfl,rfl⟩:=h;exact⟨Nat.le_refl _,rfl,rfl,fun _ _=>rfl⟩
 | .v x::r,σ,σ',vs,h=>by
   simp only[mat] at h;rcases hm:mat r σ with⟨vs',σ1⟩
   rw[hm] at h;simp only[Prod.mk.injEq] at h;obtain⟨rfl,rfl⟩:=h;exact mat_abs r σ σ1 vs' hm
 | .e b::r,σ,σ',vs,h=>by
   simp only[mat] at h;rcases hm:mat r σ with⟨vs',σ1⟩
   rw[hm] at h;simp only[Prod.mk.injEq] at h;obtain⟨rfl,rfl⟩:=h;exact mat_abs r σ σ1 vs' hm
 | .k x::r,σ,σ',vs,h=>by
   simp only[mat] at h;rcases hm:mat r σ with⟨vs',σ1⟩
   rw[hm] at h;simp only[Prod.mk.injEq] at h;obtain⟨rfl,rfl⟩:=h;exact mat_abs r σ σ1 vs' hm
 | .j::r,σ,σ',vs,h=>by
   simp only[mat] at h;rcases hm:mat r σ with⟨vs',σ1⟩
   rw[hm] at h;simp only[Prod.mk.injEq] at h;obtain⟨rfl,rfl⟩:=h;exact mat_abs r σ σ1 vs' hm
 | .s t xs::r,σ,σ',vs,h=>by
   simp only[mat] at h;rcases hm:mat r (σ.new (.dat t xs)) with⟨vs',σ1⟩
   rw[hm] at h;simp only[Prod.mk.injEq] at h;obtain⟨rfl,rfl⟩:=h;obtain⟨a1,a2,a3,a4⟩:=mat_abs r _ σ1 vs' hm;have a1:σ.next+1≤σ1.next:=a1;refine⟨by omega,a2,a3,fun id hr=> ?_⟩;have hn:¬(σ.new (.dat t xs)).rng σ1 id∧id≠σ.next:=by simp only[St.rng,St.new] at hr⊢;omega
   rw[a4 id hn.1];simp only[St.new,Tr.set_get,if_neg hn.2]
end
end Go.Eng
end
end
end
section
noncomputable section
noncomputable section
namespace Go.Eng
open Go
section
variable {P:Program} {T:TE} (hT:T.OK P) {D:Nat→Prop} {ι ι':Nat→Reg} {σ σ':St} {w w':World} {φ:Foot}
def datOf:Option AO→Option ((t:Ty)×List t.Den)
 |some (.dat t xs)=>some ⟨t,xs⟩
 |some (.vec t xs _)=>some ⟨t,xs⟩
 |_=>none
structure Mem (w:World) (r:Reg) (t:Ty) (xs:List t.Den):Prop where
 esz:r.esz=t.sz
 fz:FzOK r.fz w
 rd:((∃q c,r.sv=.slice q 0 c)∧xs=[])∨∃(b o c:Nat) (arr:Array Value) (e:TypeId) (fr:Nat×Nat),r.sv=.slice (some ⟨b,o,none⟩) xs.length c∧w.heap[b]?=some (.cells arr e fr)∧o+xs.length*t.sz≤arr.size∧
  xs.length≤c∧(∀i x,xs[i]?=some x→RdC r.fz t x ((arr.toList.drop (o+i*t.sz)).take t.sz))∧(r.Own b∨r.Fz b)
theorem datOf_lv {id:Nat} {y} (h:datOf (σ.heap.get id)=some y):Lv σ.H id:=by
 cases hg:σ.heap.get id with
 |none=>rw[hg] at h;cases h
 |some o=>exact St.lv_of hg
theorem mem_of {id:Nat} {t:Ty} {xs:List t.Den} (h:datOf (σ.heap.get id)=some ⟨t,xs⟩) (hf:φ.Fi id) (ho:HOn P D ι σ.H φ w):Mem w (ι id) t xs:=by
 unfold datOf at h
 split at h
 ·rename_i t' xs' hg;cases h;obtain⟨h1,h2,h3,h4⟩:=ho.hd id _ hf (St.hdr_of hg);refine⟨h2,h4,h1.imp_right ?_⟩;rintro⟨b,o,c,arr,e1,e2,e3,e4,e5⟩;obtain⟨e,fr,e'⟩:=h4 b arr e2;exact⟨b,o,c,arr,e,fr,e1,e',e3,e4,e5,.inr ⟨arr,e2⟩⟩
 ·rename_i t' xs' el hg;cases h;obtain⟨h2,h4,h⟩:=ho.hd id _ hf (St.hdr_of hg);refine⟨h2,h4,h.imp (fun⟨_,e1,q,e2⟩=>⟨⟨_,_,e2⟩,e1⟩) ?_⟩;rintro⟨g1,g2,cap,c,fr,e1,e2,e3,e4,e5,e6,e7,e8⟩;have hm:=Nat.mul_le_mul_right t.sz e2;refine⟨_,_,_,c,el,fr,e1,e3,by omega,e2,fun i x hx=> ?_,.inl ⟨g1,rfl⟩⟩;have:=(e8 i x hx).2
  rwa[List.drop_drop] at this
 ·cases h
theorem dt_inv {id:Nat} {x':Value} (h:VR D ι (dt id) x'):∃a l c,x'=.slice a l c∧D id∧(ι id).sv=.slice a l c:=by
 cases h with
 |dat _ a l c hD e=>exact⟨a,l,c,rfl,hD,e⟩
 |tuple as bs hs h=>
  have hb:bs[0]?=some (bs[0]'(by rw[←hs];exact Nat.succ_pos _)):=Array.getElem?_eq_getElem _;exact(h 0 _ _ rfl hb).no_chan.elim
theorem pf_inv {id m:Nat} {x':Value} (h:VR D ι (pf id m) x'):∃a l c,x'=.slice a m c∧D id∧(ι id).sv=.slice a l c∧m≤l:=by
 cases h with
 |pfx _ _ a l c hD e h1=>exact⟨a,l,c,rfl,hD,e,h1⟩
 |tuple as bs hs h=>
  have hb:bs[0]?=some (bs[0]'(by rw[←hs];exact Nat.succ_pos _)):=Array.getElem?_eq_getElem _;exact(h 0 _ _ rfl hb).no_chan.elim
theorem pel_inv {id i j:Nat} {x':Value} (h:VR D ι (.pointer (some ⟨id,i,some j⟩)) x'):∃b o l c,x'=.pointer (some ⟨b,o+i*(ι id).esz+j,none⟩)∧D id∧(ι id).sv=.slice (some ⟨b,o,none⟩) l c:=by
 cases h with
 |pel _ _ _ b o l c hD e=>exact⟨b,o,l,c,rfl,hD,e⟩
def sCells (t:Ty) (xs:List t.Den) (i j n:Nat):Option (List DC):=gslice (dcs t (xs.getD i t.dflt)) j n
theorem sCells_read {t:Ty} {xs:List t.Den} {i j n:Nat} {l:List DC} {r:Reg} {b o len c:Nat} (hm:Mem w r t xs) (hs:r.sv=.slice (some ⟨b,o,none⟩) len c) (hi:i<xs.length) (hl:sCells t xs i j n=some l):
  ∃us:List Value,us.length=n∧l.length=n∧(∀k,k<n→∃u,us[k]?=some u∧w.cell? ⟨b,o+i*t.sz+j+k,none⟩=some u)∧∀(k:Nat) d u,l[k]?=some d→us[k]?=some u→DCR r.fz d u:=by
 rcases hm.rd with⟨_,h⟩|⟨b',o',c',arr,e,fr,h1,h2,h3,h4,h5,_⟩
 ·subst h;simp at hi
 ·rw[hs] at h1;cases h1;obtain⟨rfl,hle⟩:=gslice_spec _ _ _ _ hl;have hx:=h5 i xs[i] (List.getElem?_eq_getElem hi);have hg:xs.getD i t.dflt=xs[i]:=by rw[List.getD_eq_getElem?_getD,List.getElem?_eq_getElem hi];rfl
  rw[hg] at hle⊢;obtain⟨d1,d2,d3⟩:=dcs_rd t _ _ hx;rw[d2] at hle;have hmul:i*t.sz+t.sz≤xs.length*t.sz:=by
   have:=Nat.mul_le_mul_right t.sz hi;rwa[Nat.succ_mul] at this
  refine⟨((((arr.toList.drop (o+i*t.sz)).take t.sz).drop j).take n),?_,?_,fun k hk=> ?_,fun k d u hd hu=> ?_⟩
  ·rw[List.length_take,List.length_drop,d1];omega
  ·rw[List.length_take,List.length_drop,d2];omega
  ·have hlt:o+i*t.sz+j+k<arr.size:=by omega
   refine⟨arr[o+i*t.sz+j+k],?_,?_⟩
   ·rw[List.getElem?_take,if_pos hk,List.getElem?_drop,List.getElem?_take,if_pos (by omega),List.getElem?_drop,Array.getElem?_toList,show o+i*t.sz+(j+k)=o+i*t.sz+j+k by omega];exact Array.getElem?_eq_getElem hlt
   ·simp only[World.cell?,h2,Option.isSome_none,Bool.false_eq_true,if_false];exact Array.getElem?_eq_getElem hlt
  ·rw[List.getElem?_take] at hd hu
   split at hd
   ·rename_i hk;rw[if_pos hk] at hu;rw[List.getElem?_drop] at hd hu;exact d3 _ d u hd hu
   ·cases hd
def sLoad (T:TE) (σ:St) (t:TypeId) (a:Value):Option R:=
 match a with
 | .pointer (some ⟨id,i,some j⟩)=>match datOf (σ.heap.get id) with
   |some ⟨te,xs⟩=>match T.und t with
    |some d=>bif isAggD d then
     match T.inf t with
     |some ti=>match sCells te xs i j ti.size with
      |some l=>match mat l σ with
       |(vs,σ')=>some ⟨.agg vs.toArray,σ'.assume (decide (i<xs.length)),⟨[],[id],[],[]⟩⟩
      |none=>none
     |none=>none
     else match sCells te xs i j 1 with
      |some l=>match mat l σ with
       |([v],σ')=>some ⟨v,σ'.assume (decide (i<xs.length)),⟨[],[id],[],[]⟩⟩
       |_=>none
      |none=>none
    |none=>none
   |none=>none
 |_=>none
theorem fz_here {id:Nat} (hl:Lv σ.H id) (hw:σ.wf) (h:(⟨[],[id],[],[]⟩:Foot).Fi id) (b:Nat) (c:Array Value) (hb:(ι id).fz b=some c):w.heap.size≤b∨∃k,(⟨[],[id],[],[]⟩:Foot).Fi k∧¬σ.rng σ' k∧Lv σ.H k∧(ι k).Fz b:=
 .inr ⟨id,h,fun hr=>by have:=St.lv_lt hw hl;simp only[St.rng] at hr;omega,hl,c,hb⟩
theorem Sound.assume {e:Sem Value} {v:Value} {φ:Foot} {p:Bool} (h:Sound P D ι σ w e ⟨v,σ',φ⟩):Sound P D ι σ w e ⟨v,σ'.assume p,φ⟩:=
 ⟨h.1,fun hw=>⟨(h.2.1 hw).1,(h.2.1 hw).2.assume p⟩,h.2.2⟩
theorem mat_sound {l:List DC} {vs:List Value} {φ:Foot} (hm:mat l σ=(vs,σ')):σ.next≤σ'.next∧(σ.wf→σ'.wf∧AFr σ σ' φ):=by
 obtain⟨a1,a2,a3,a4⟩:=mat_abs _ _ _ _ hm;refine⟨a1,fun hw=>⟨fun id h=> ?_,⟨fun id hr _=>by simp only[St.H,a4 id hr],fun id k hr _=>by simp only[St.H,a4 id hr],fun h=>by unfold St.Ok at h⊢;rw[a2] at h;exact h⟩⟩⟩;rw[a4 id (by simp only[St.rng];omega)];exact hw id (by omega)
include hT
theorem sLoad_sound {t:TypeId} {a a':Value} {r:R} (h:sLoad T σ t a=some r) (hok:r.σ.Ok) (ha:VR D ι a a'):Sound P D ι σ w (Instr.loadAt t a') r:=by
 unfold sLoad at h
 split at h
 ·rename_i id i j;obtain⟨b,o,len,c,rfl,hD,hsv⟩:=pel_inv ha;have hF:(⟨[],[id],[],[]⟩:Foot).Fi id:=.inr (.inl (by simp))
  split at h
  ·rename_i te xs hg;have hlv:=datOf_lv hg
   split at h
   ·rename_i d hd;cases hagg:isAggD d
    ·rw[hagg,cond_false] at h
     split at h
     ·rename_i l hl
      split at h
      ·rename_i v σ1 hm;cases h;have hi:i<xs.length:=of_decide_eq_true hok.1;refine Sound.assume ⟨(mat_sound (φ:=.nil) hm).1,(mat_sound hm).2,fun hw hDn ho=> ?_⟩;have hmem:=mem_of hg hF ho;obtain⟨us,u1,u2,u3,u4⟩:=sCells_read hmem hsv hi hl;obtain⟨ι',m1,m2,m3⟩:=mat_ok l us D ι σ σ1 [v] hm (by omega) u4;obtain⟨u,hu,hc⟩:=u3 0 (by omega)
       refine⟨u,ι',w,?_,m3 0 v u rfl hu,Post.mats hw m1 (Nat.le_refl _) rfl rfl (fun _ _=>rfl) hmem.fz (fun b c hb=>fz_here hlv hw hF b c hb) rfl rfl⟩;rw[Nat.add_zero,←hmem.esz] at hc;simp only[Instr.loadAt,Instr.sureAddr,loadVar,Sem.run_bind,Sem.run_pure,Result.andThen_ok,run_isAgg hT hd,hagg,Bool.false_eq_true,if_false,run_load,hc]
      ·cases h
     ·cases h
    ·rw[hagg,cond_true] at h
     split at h
     ·rename_i ti hti
      split at h
      ·rename_i l hl;rcases hm:mat l σ with⟨vs,σ1⟩
       rw[hm] at h;cases h;have hi:i<xs.length:=of_decide_eq_true hok.1;refine Sound.assume ⟨(mat_sound (φ:=.nil) hm).1,(mat_sound hm).2,fun hw hDn ho=> ?_⟩;have hmem:=mem_of hg hF ho;obtain⟨us,u1,u2,u3,u4⟩:=sCells_read hmem hsv hi hl;obtain⟨ι',m1,m2,m3⟩:=mat_ok l us D ι σ σ1 vs hm (by omega) u4;refine⟨.agg us.toArray,ι',w,?_,.agg _ _ (by simp[m2]) fun k v u hv hu=>m3 k v u (by simpa using hv) (by simpa using hu),Post.mats hw m1 (Nat.le_refl _) rfl rfl (fun _ _=>rfl) hmem.fz (fun b c hb=>fz_here hlv hw hF b c hb) rfl rfl⟩
       have hload:=run_loadCells_list (P:=P) w ⟨b,o+i*(ι id).esz+j,none⟩ us fun k v hk=>by
        have hlt:k<ti.size:=by
         rcases Nat.lt_or_ge k ti.size with h|h
         ·exact h
         ·rw[List.getElem?_eq_none (by omega)] at hk;cases hk
        obtain⟨u,hu,hc⟩:=u3 k hlt;rw[hk] at hu;cases hu;rw[add_none,hmem.esz];exact hc
       rw[u1] at hload;simp only[Instr.loadAt,Instr.sureAddr,loadVar,Sem.run_bind,Sem.run_pure,Result.andThen_ok,run_isAgg hT hd,hagg,if_true,run_siz hT hti,hload]
      ·cases h
     ·cases h
   ·cases h
  ·cases h
 ·cases h
omit hT
def sIndexAddr (T:TE) (σ:St) (t:TypeId) (x ix:Value):Option R:=
 match x with
 | .tuple a=>match a.toList with
   |[.chan (some 2),.pointer (some ⟨id,0,none⟩)]=>match datOf (σ.heap.get id),T.und t,unsy ix with
    |some ⟨te,xs⟩,some (.slice elem),some (.int _ i)=>match T.inf elem with
     |some e=>bif Nat.beq e.size te.sz then some ⟨.pointer (some ⟨id,i.toNat,some 0⟩),(σ.assume (decide (i<xs.length))).assume (decide (0≤i)),⟨[],[id],[],[]⟩⟩ else none
     |none=>none
    |_,_,_=>none
   |_=>none
 |_=>none
include hT
theorem sIndexAddr_sound {t:TypeId} {x x' ix ix':Value} {r:R} (h:sIndexAddr T σ t x ix=some r) (hok:r.σ.Ok) (hx:VR D ι x x') (hix:VR D ι ix ix'):Sound P D ι σ w (Instr.indexAt t x' ix') r:=by
 unfold sIndexAddr at h
 split at h
 ·rename_i a
  split at h
  ·rename_i id ha;rw[tuple_eq ha] at hx;obtain⟨a,l,c,rfl,hD,hsv⟩:=dt_inv hx
   split at h
   ·rename_i te xs elem k i hg hu hi;obtain⟨rfl,_⟩:=unsy_spec hi hix
    split at h
    ·rename_i e he;cases hb:Nat.beq e.size te.sz
     ·rw[hb] at h;cases h
     rw[hb,cond_true] at h;have hb:=Nat.eq_of_beq_eq_true hb;cases h;have h0:0≤i:=of_decide_eq_true hok.1;have h1:i<xs.length:=of_decide_eq_true hok.2.1;refine Sound.assume (Sound.assume ⟨Nat.le_refl _,fun hw=>⟨hw,AFr.refl _ _⟩,fun hw _ ho=> ?_⟩);have hmem:=mem_of hg (.inr (.inl (by simp))) ho;rcases hmem.rd with⟨_,hn⟩|⟨b,o,c',arr,el,fr,g1,g2,g3,g4,g5,_⟩
     ·subst hn;simp at h1;omega
     ·rw[hsv] at g1;cases g1;refine⟨.pointer (some ⟨b,o+i.toNat*e.size,none⟩),ι,w,?_,?_,Post.same (St.rng_self σ) rfl rfl rfl rfl rfl⟩
      ·simp only[Instr.indexAt,asIntOf,Sem.run_bind,Sem.run_pure,Result.andThen_ok,run_und hT hu,h0,h1,and_self,if_true,run_siz hT he,add_none]
      ·have:=VR.pel (D:=fun i=>D i∨σ.rng σ i) (ι:=ι) id i.toNat 0 b o xs.length c (.inl hD) hsv;rw[hmem.esz,←hb,Nat.add_zero] at this;exact this
    ·cases h
   ·cases h
  ·cases h
 ·cases h
omit hT
def sFieldAddr (T:TE) (σ:St) (s:TypeId) (a:Value) (f:Nat):Option R:=
 match a with
 | .pointer (some ⟨id,i,some j⟩)=>match T.und s with
   |some (.struct fs)=>match fs[f]? with
    |some fd=>match T.inf fd.type with
     |some ti=>bif Nat.beq ti.size 0 then none else some ⟨.pointer (some ⟨id,i,some (j+fd.offset)⟩),σ,.nil⟩
     |none=>none
    |none=>none
   |_=>none
 |_=>none
include hT
theorem sFieldAddr_sound {s:TypeId} {a a':Value} {f:Nat} {r:R} (h:sFieldAddr T σ s a f=some r) (ha:VR D ι a a'):Sound P D ι σ w (Instr.fieldAt s a' f) r:=by
 unfold sFieldAddr at h
 split at h
 ·rename_i id i j;obtain⟨b,o,len,c,rfl,hD,hsv⟩:=pel_inv ha
  split at h
  ·rename_i fs hs
   split at h
   ·rename_i fd hf
    split at h
    ·rename_i ti hi;cases hb:Nat.beq ti.size 0
     ·rw[hb] at h;cases h;have hz:ti.size≠0:=fun e=>by rw[e] at hb;cases hb
      refine Sound.pure (v':=.pointer (some ⟨b,o+i*(ι id).esz+(j+fd.offset),none⟩)) ?_ (.pel id i _ b o len c hD hsv);simp only[Instr.fieldAt,Sem.run_bind,run_und hT hs,Result.andThen_ok,hf,Instr.sureAddr,Sem.run_pure,fieldPlace,run_siz hT hi,if_neg hz,add_none,Nat.add_assoc]
     ·rw[hb] at h;cases h
    ·cases h
   ·cases h
  ·cases h
 ·cases h
omit hT
def sLen (T:TE) (σ:St) (argTypes:List TypeId) (x:Value):Option R:=
 match x with
 | .tuple a=>match a.toList with
   |[.chan (some 2),.pointer (some ⟨id,0,none⟩)]=>match datOf (σ.heap.get id),argTypes with
    |some ⟨_,xs⟩,t::_=>match T.und t with
     |some (.slice _)=>some ⟨sy (.int .i64 xs.length),σ,⟨[],[id],[],[]⟩⟩
     |_=>none
    |_,_=>none
   |_=>none
 |_=>none
include hT
theorem sLen_sound {argTypes:Array TypeId} {ty:TypeId} {x x':Value} {r:R} (h:sLen T σ argTypes.toList x=some r) (hx:VR D ι x x'):Sound P D ι σ w (Builtin.len_ argTypes ty #[x']) r:=by
 have tl:∀t l,argTypes.toList=t::l→argTypes[0]?=some t:=fun t l e=>by rw[←Array.getElem?_toList,e];rfl
 unfold sLen at h
 split at h
 ·rename_i a
  split at h
  ·rename_i id ha;rw[tuple_eq ha] at hx;obtain⟨a,l,c,rfl,hD,hsv⟩:=dt_inv hx
   split at h
   ·rename_i te xs t tl' hg ht
    split at h
    ·rename_i e hu;cases h;refine⟨Nat.le_refl _,fun hw=>⟨hw,AFr.refl _ _⟩,fun hw _ ho=> ?_⟩;have hmem:=mem_of hg (.inr (.inl (by simp))) ho;have hl:l=xs.length:=by
      rcases hmem.rd with⟨⟨q,c1,h1⟩,hn⟩|⟨b,o,c',arr,el,fr,g1,g2,g3,g4,g5,_⟩
      ·rw[hsv] at h1;cases h1;subst hn;rfl
      ·rw[hsv] at g1;cases g1;rfl
     subst hl;refine⟨.int .i64 xs.length,ι,w,?_,.sym _ rfl,Post.same (St.rng_self σ) rfl rfl rfl rfl rfl⟩;simp only[Builtin.len_,tl _ _ ht,List.getElem?_toArray,List.getElem?_cons_zero,Sem.run_bind,run_und hT hu,Result.andThen_ok,Sem.run_pure,goInt]
    ·cases h
   ·cases h
  ·cases h
 ·cases h
omit hT
end
end Go.Eng
end
end
end
section
noncomputable section
noncomputable section
namespace Go.Eng
open Go
section
variable {P:Program} {T:TE} (hT:T.OK P) {D:Nat→Prop} {ι ι':Nat→Reg} {σ σ':St} {w w':World} {φ:Foot}
def sBnds (len:Nat) (lo hi:Option Value):Option (Option Int×Option Int×List Bool):=
 match lo,hi with
 |none,none=>some (none,none,[])
 |some l,none=>match unsy l with
  |some (.int _ n)=>some (some n,none,[decide (0≤n),decide (n≤len)])
  |_=>none
 |none,some h=>match unsy h with
  |some (.int _ m)=>some (none,some m,[decide (0≤m),decide (m≤len)])
  |_=>none
 |some l,some h=>match unsy l,unsy h with
  |some (.int _ n),some (.int _ m)=>some (some n,some m,[decide (0≤n),decide (n≤m),decide (m≤len)])
  |_,_=>none
def cutL {α:Type} (xs:List α) (lo hi:Option Int):List α:=
 match lo,hi with
 |none,none=>xs
 |some n,none=>xs.drop n.toNat
 |none,some m=>xs.take m.toNat
 |some n,some m=>(xs.take m.toNat).drop n.toNat
theorem sBnds_run {len cap:Nat} {lo hi lo' hi':Option Value} {n m:Option Int} {ps:List Bool} {α:Type} (xs:List α) (hx:xs.length=len) (h:sBnds len lo hi=some (n,m,ps)) (hp:AllP ps) (hc:len≤cap) (h1:OR D ι lo lo') (h2:OR D ι hi hi') (w:World):
  ∃l h,(Instr.sliceBounds true len cap lo' hi' none).run P w=.ok (l,h,cap) w∧l≤h∧h≤len∧cutL xs n m=(xs.take h).drop l:=by
 unfold sBnds at h
 split at h
 ·cases h;cases h1;cases h2;exact⟨0,len,by simp[Instr.sliceBounds],Nat.zero_le _,Nat.le_refl _,by simp[cutL,←hx]⟩
 ·rename_i l
  split at h
  ·rename_i k n0 hu;cases h;cases h2;cases h1 with
   |some _ b hb=>
    obtain⟨rfl,_⟩:=unsy_spec hu hb;have p0:(0:Int)≤n0:=of_decide_eq_true hp.1;have p1:n0≤len:=of_decide_eq_true hp.2.1;have e:=fun c=>bound_run (P:=P) (k:=k) (code:=c) p0 (y:=len) p1 w
    exact⟨n0.toNat,len,by simp[Instr.sliceBounds,e],by omega,Nat.le_refl _,by simp[cutL,←hx]⟩
  ·cases h
 ·rename_i l
  split at h
  ·rename_i k n0 hu;cases h;cases h1;cases h2 with
   |some _ b hb=>
    obtain⟨rfl,_⟩:=unsy_spec hu hb;have p0:(0:Int)≤n0:=of_decide_eq_true hp.1;have p1:n0≤len:=of_decide_eq_true hp.2.1;have e:=fun c=>bound_run (P:=P) (k:=k) (code:=c) p0 (y:=cap) (by omega) w
    exact⟨0,n0.toNat,by simp[Instr.sliceBounds,e],Nat.zero_le _,by omega,by simp[cutL]⟩
  ·cases h
 ·rename_i l h0
  split at h
  ·rename_i k n0 k2 m0 hu hu2;cases h;cases h1 with
   |some _ b hb=>
    cases h2 with
    |some _ b2 hb2=>
     obtain⟨rfl,_⟩:=unsy_spec hu hb;obtain⟨rfl,_⟩:=unsy_spec hu2 hb2;have p0:(0:Int)≤n0:=of_decide_eq_true hp.1;have p1:n0≤m0:=of_decide_eq_true hp.2.1;have p2:m0≤len:=of_decide_eq_true hp.2.2.1;have e:=fun c=>bound_run (P:=P) (k:=k2) (code:=c) (by omega:0≤m0) (y:=cap) (by omega) w
     have e2:=fun c=>bound_run (P:=P) (k:=k) (code:=c) p0 (y:=m0.toNat) (by omega) w
     exact⟨n0.toNat,m0.toNat,by simp[Instr.sliceBounds,e,e2],by omega,by omega,by simp[cutL]⟩
  ·cases h
def St.assumes (σ:St) (ps:List Bool):St:=ps.foldr (fun p σ=>σ.assume p) σ
theorem assumes_ok:∀(ps:List Bool) (σ:St),(σ.assumes ps).Ok↔AllP ps∧σ.Ok
 |[],σ=>by simp[St.assumes,AllP]
 |p::ps,σ=>by
  show((σ.assumes ps).assume p).Ok↔_;rw[St.assume_ok,assumes_ok ps σ,AllP,and_assoc]
theorem Sound.assumes {e:Sem Value} {v:Value} {φ:Foot}:∀(ps:List Bool) {σ':St},Sound P D ι σ w e ⟨v,σ',φ⟩→Sound P D ι σ w e ⟨v,σ'.assumes ps,φ⟩
 |[],_,h=>h
 |_::ps,_,h=>(Sound.assumes ps h).assume
def sCutD (T:TE) (σ:St) (t:TypeId) (x:Value) (lo hi:Option Value):Option R:=
 match x with
 | .tuple a=>match a.toList with
   |[.chan (some 2),.pointer (some ⟨id,0,none⟩)]=>match σ.heap.get id,T.und t with
    |some (.dat te xs),some (.slice elem)=>match T.inf elem with
     |some e=>bif Nat.beq e.size te.sz then match sBnds xs.length lo hi with
      |some (n,m,ps)=>some ⟨dt σ.next,(σ.new (.dat te (cutL xs n m))).assumes ps,⟨[],[id],[],[]⟩⟩
      |none=>none
      else none
     |none=>none
    |_,_=>none
   |_=>none
 |_=>none
include hT
theorem sCutD_sound {t:TypeId} {x x':Value} {lo hi lo' hi':Option Value} {r:R} (h:sCutD T σ t x lo hi=some r) (hok:r.σ.Ok) (hx:VR D ι x x') (h1:OR D ι lo lo') (h2:OR D ι hi hi'):Sound P D ι σ w (Instr.sliceAt t x' lo' hi' none) r:=by
 have hsl:∀e,T.und t=some (.slice e)→∀w,(Instr.sliceAt t x' lo' hi' none).run P w=(Instr.slice t x' lo' hi' none).run P w:=fun e hu w=>by
  simp only[Instr.sliceAt,Sem.run_bind,run_und hT hu,Result.andThen_ok]
 unfold sCutD at h
 split at h
 ·rename_i a
  split at h
  ·rename_i id ha;rw[tuple_eq ha] at hx;obtain⟨a,len,c,rfl,hD,hsv⟩:=dt_inv hx
   split at h
   ·rename_i te xs elem hg hu
    split at h
    ·rename_i e he;cases hb:Nat.beq e.size te.sz
     ·rw[hb] at h;cases h
     rw[hb,cond_true] at h;have hb:=Nat.eq_of_beq_eq_true hb
     split at h
     ·rename_i n m ps hbn;cases h;obtain⟨hp, -⟩:=(assumes_ok _ _).1 hok;refine Sound.assumes ps ?_;have hm:mat [.s te (cutL xs n m)] σ=([dt σ.next],σ.new (.dat te (cutL xs n m))):=rfl;refine⟨(mat_sound (φ:=.nil) hm).1,(mat_sound hm).2,fun hw hDn ho=> ?_⟩;have hF:(⟨[],[id],[],[]⟩:Foot).Fi id:=.inr (.inl (by simp))
      have hmem:=mem_of (show datOf (σ.heap.get id)=some ⟨te,xs⟩ by rw[hg];rfl) hF ho;obtain⟨g1, -, -,g4⟩:=ho.hd id _ hF (St.hdr_of hg);have key:∃u,(Instr.slice t (.slice a len c) lo' hi' none).run P w=.ok u w∧RdS (ι id).fz te (cutL xs n m) u:=by
       rcases g1 with⟨⟨q,c1,e1⟩,rfl⟩|⟨b,o,c',arr,e1,e2,e3,e4,e5⟩
       ·rw[hsv] at e1;cases e1;obtain⟨l,h,r1,r2,r3,r4⟩:=sBnds_run (P:=P) (cap:=c) ([]:List te.Den) rfl hbn hp (Nat.zero_le _) h1 h2 w;have r3:h≤0:=r3;have r1:(Instr.sliceBounds true 0 c lo' hi' none).run P w=.ok (l,h,c) w:=r1;have:l=0:=by omega
        have:h=0:=by omega
        subst l h;exact⟨.slice (if c=0 then a else a.map (·.add (0*e.size))) (0-0) (c-0),by simp only[Instr.slice,Sem.run_bind,run_und hT hu,Result.andThen_ok,r1,run_siz hT he,Sem.run_pure],.inl ⟨⟨_,_,rfl⟩,by rw[r4];rfl⟩⟩
       ·rw[hsv] at e1;cases e1;obtain⟨l,h,r1,r2,r3,r4⟩:=sBnds_run (P:=P) (cap:=c) xs rfl hbn hp e4 h1 h2 w;have hlen:(cutL xs n m).length=h-l:=by rw[r4,List.length_drop,List.length_take];omega
        refine⟨.slice (if c=l then some ⟨b,o,none⟩ else(some ⟨b,o,none⟩:Option Addr).map (·.add (l*e.size))) (h-l) (c-l),by simp only[Instr.slice,Sem.run_bind,run_und hT hu,Result.andThen_ok,r1,run_siz hT he,Sem.run_pure],?_⟩;by_cases hc:c=l
        ·subst hc;refine .inr ⟨b,o,0,arr,by rw[if_pos rfl,hlen];simp,e2,by rw[hlen,show h-c=0 by omega];omega,by rw[hlen];omega,fun i x hx=> ?_⟩;rw[List.getElem?_eq_none (by omega)] at hx;cases hx
        ·refine .inr ⟨b,o+l*te.sz,c-l,arr,by rw[if_neg hc,hlen,Option.map_some,add_none,hb],e2,?_,by rw[hlen];omega,fun i x hx=> ?_⟩
         ·rw[hlen];have:l*te.sz+(h-l)*te.sz=h*te.sz:=by rw[←Nat.add_mul];congr 1;omega
          have:h*te.sz≤xs.length*te.sz:=Nat.mul_le_mul_right _ r3;omega
         ·rw[r4,List.getElem?_drop,List.getElem?_take] at hx
          split at hx
          ·have:=e5 (l+i) x hx;rwa[Nat.add_mul,←Nat.add_assoc] at this
          ·cases hx
      obtain⟨u,hrun,hrd⟩:=key;obtain⟨ι',m1,m2,m3⟩:=mat_ok [.s te (cutL xs n m)] [u] D ι σ _ _ hm rfl fun k d u' hd hu'=>by
       rcases k with _|k
       ·simp only[List.getElem?_cons_zero,Option.some.injEq] at hd hu';subst hd hu';exact hrd
       ·simp at hd
      exact⟨u,ι',w,(hsl _ hu w).trans hrun,m3 0 _ u rfl rfl,Post.mats hw m1 (Nat.le_refl _) rfl rfl (fun _ _=>rfl) g4 (fun b c hb=>fz_here (St.lv_of hg) hw hF b c hb) rfl rfl⟩
     ·cases h
    ·cases h
   ·cases h
  ·cases h
 ·cases h
omit hT
end
end Go.Eng
end
end
end
section
noncomputable section
noncomputable section
namespace Go.Eng
open Go
def isEr:Value→Bool
 | .tuple a=>match a.toList with
   |[.chan (some 3),.bool _]=>true
   |_=>false
 |_=>false
def isAi:Value→Bool
 | .tuple a=>match a.toList with
   |[.chan (some 4),.int _ 0]=>true
   |_=>false
 |_=>false
def glc (c:Value):Bool:=plainN 8 c||isEr c||isAi c
def glR (c u:Value):Prop:=(plainN 8 c=true∧u=c)∨(∃b,c=er b∧isE b u=true)∨∃k n,c=ai k∧u=.int k n
theorem isAi_spec {c:Value} (h:isAi c=true):∃k,c=ai k:=by
 unfold isAi at h
 split at h
 ·rename_i a
  split at h
  ·rename_i k hb;refine⟨k,?_⟩;cases a;simp only at hb;rw[hb]
  ·cases h
 ·cases h
theorem ai_inv {D:Nat→Prop} {ι:Nat→Reg} {k:IntKind} {x':Value} (h:VR D ι (ai k) x'):∃n,x'=.int k n:=by
 cases h with
 |aint _ n=>exact⟨n,rfl⟩
 |tuple as bs hs h=>
  have hb:bs[0]?=some (bs[0]'(by rw[←hs];exact Nat.succ_pos _)):=Array.getElem?_eq_getElem _;exact(h 0 _ _ rfl hb).no_chan.elim
theorem isEr_spec {c:Value} (h:isEr c=true):∃b,c=er b:=by
 unfold isEr at h
 split at h
 ·rename_i a
  split at h
  ·rename_i b hb;refine⟨b,?_⟩;cases a;simp only at hb;rw[hb]
  ·cases h
 ·cases h
theorem er_inv {D:Nat→Prop} {ι:Nat→Reg} {b:Bool} {x':Value} (h:VR D ι (er b) x'):isE b x'=true:=by
 cases h with
 |err _ _ h=>exact h
 |tuple as bs hs h=>
  have hb:bs[0]?=some (bs[0]'(by rw[←hs];exact Nat.succ_pos _)):=Array.getElem?_eq_getElem _;exact(h 0 _ _ rfl hb).no_chan.elim
theorem glR.vr {D:Nat→Prop} {ι:Nat→Reg} {c u:Value} (h:glR c u):VR D ι c u:=by
 rcases h with⟨h,rfl⟩|⟨b,rfl,h⟩|⟨k,n,rfl,rfl⟩
 ·exact plain_refl 8 _ h
 ·exact .err b u h
 ·exact .aint k n
theorem glR.of {D:Nat→Prop} {ι:Nat→Reg} {c u:Value} (h:glc c=true) (hv:VR D ι c u):glR c u:=by
 unfold glc at h;rw[Bool.or_eq_true,Bool.or_eq_true] at h;rcases h with(h|h)|h
 ·exact .inl ⟨h,plain_eq 8 _ _ h hv⟩
 ·obtain⟨b,rfl⟩:=isEr_spec h;exact .inr (.inl ⟨b,rfl,er_inv hv⟩)
 ·obtain⟨k,rfl⟩:=isAi_spec h;obtain⟨n,rfl⟩:=ai_inv hv;exact .inr (.inr ⟨k,n,rfl,rfl⟩)
def GlW (gl:List (Nat×List Value)) (w:World):Prop:=(∀p,p∈gl→∀(i:Nat) c,p.2[i]?=some c→∃u,w.cell? ⟨p.1,i,none⟩=some u∧glR c u)∧
 ∀p,p∈gl→∃(c:Array Value) (e:TypeId) (fr:Nat×Nat),w.heap[p.1]?=some (.cells c e fr)∧c.size=p.2.length
def Same (w w':World):Prop:=w.heap.size≤w'.heap.size∧w'.os=w.os∧w'.output=w.output∧∀b,b<w.heap.size→w'.heap[b]?=w.heap[b]?
def PureC (P:Program) (gl:List (Nat×List Value)) (f:FuncId) (S:PSpec):Prop:=
 ∀(fz:Nat→Option (Array Value)) (w:World) (args:Array Value) (x:DenL S.ts),FzOK fz w→GlW gl w→RdAll fz S.ts x args.toList→S.pre x→
  Calls P f args w fun e w'=>∃vs fz',e=.returned (resV vs)∧(∀b c,fz b=some c→fz' b=some c)∧FzOK fz' w'∧(∀b c,fz' b=some c→fz b=some c∨w.heap.size≤b)∧RdAll fz' S.rs (S.g x) vs∧Same w w'
def ObjQ (P:Program) (S:OSpec) (fz:Nat→Option (Array Value)) (w:World) (r:Reg) (own:List Nat) (z:S.root.Den×DenO S.rs) (e:Ending) (w':World):Prop:=
 ∃vs fz' own1 own2,e=.returned (resV vs)∧(∀b c,fz b=some c→fz' b=some c)∧FzOK fz' w'∧(∀b c,fz' b=some c→fz b=some c∨w.heap.size≤b∨b∈own)∧
  (roB S.rb r++(own1++own2)).Nodup∧(∀b,b∈roB S.rb r++(own1++own2)→fz' b=none)∧(∀b,b∈own1++own2→b∈own∨w.heap.size≤b)∧
  (S.rb=true→RootOK P w' fz' r S.root S.re z.1 own1)∧(S.rb=false→own1=[])∧RdR P w' fz' S.rs z.2 vs own2∧
  w.heap.size≤w'.heap.size∧w'.os=w.os∧w'.output=w.output∧∀b,b<w.heap.size→b∉roB S.rb r++own→w'.heap[b]?=w.heap[b]?
def ObjC (P:Program) (gl:List (Nat×List Value)) (f:FuncId) (S:OSpec):Prop:=
 ∀(fz:Nat→Option (Array Value)) (w:World) (r:Reg) (own1 own2:List Nat) (args:List Value) (x:S.root.Den) (y:DenO S.ts),FzOK fz w→GlW gl w→(roB S.rb r++(own1++own2)).Nodup→(∀b,b∈roB S.rb r++(own1++own2)→fz b=none)→(∀p,p∈gl→p.1∉roB S.rb r++(own1++own2))→
  (S.rb=true→RootOK P w fz r S.root S.re x own1)→(S.rb=false→own1=[])→RdR P w fz S.ts y args own2→S.pre x y=true→
  Calls P f (insR S.ri (roV S.rb r) args).toArray w (ObjQ P S fz w r (own1++own2) (S.g x y))
def CmpOK (P:Program) (t:TypeId) (l:List (TypeId×Nat)):Prop:=
 ∃fs:Array Field,P.underlying t=some (.struct fs)∧fs.toList.map (fun f=>(f.type,f.offset))=l∧(∀f,f∈fs.toList→f.name≠ "_")∧P.stoodInHeld t=false∧P.eqGuardType P.depth t=false
structure VSpec where
 t:Ty
 e:TypeId
 pre:List t.Den→Bool
 g:List t.Den→List t.Den
def VecC (P:Program) (gl:List (Nat×List Value)) (f:FuncId) (S:VSpec):Prop:=
 ∀(r:Reg) (w:World) (xs:List S.t.Den),GlW gl w→HdrOK P (fun _=>r) 0 w (.vec S.t xs S.e)→(∀p,p∈gl→¬r.Own p.1)→S.pre xs=true→
  Calls P f #[r.sv] w fun e w'=>e=.returned (.tuple #[])∧HdrOK P (fun _=>r) 0 w' (.vec S.t (S.g xs) S.e)∧w.heap.size≤w'.heap.size∧w'.os=w.os∧w'.output=w.output∧∀b,b<w.heap.size→¬r.Own b→w'.heap[b]?=w.heap[b]?
structure Env where
 T:TE
 G:Nat
 fn:FuncId→Option Func
 ext:FuncId→List Value→Option Value
 sum:FuncId→List Value→Option Value
 gl:List (Nat×List Value)
 spec:FuncId→Option PSpec
 mnz:FuncId→Option TypeId:=fun _=>none
 vt:TypeId→Option Ty:=fun _=>none
 cmp:TypeId→Option (List (TypeId×Nat)):=fun _=>none
 osp:FuncId→Option OSpec:=fun _=>none
 vsp:FuncId→Option VSpec:=fun _=>none
 cus:FuncId→List Value→St→Option (Value×St×Foot):=fun _ _ _=>none
 conc:Bool:=false
def GI (E:Env) (D:Nat→Prop) (ι:Nat→Reg):Prop:=∀g,g<E.G→D g∧(ι g).blk=g∧(ι g).base=0∧∀p,p∈E.gl→p.1=g→(ι g).room=p.2.length
def CusOK (P:Program) (E:Env) (f:FuncId) (args:List Value) (σ:St) (v:Value) (σ':St) (φ:Foot):Prop:=
 σ.next≤σ'.next∧(σ.wf→σ'.wf∧AFr σ σ' φ)∧
  (σ'.Ok→∀(D:Nat→Prop) (ι:Nat→Reg) (w:World) (args':Array Value),σ.wf→GI E D ι→(∀id,σ.rng σ' id→¬D id)→AR D ι args.toArray args'→HOn P D ι σ.H φ w→
   Calls P f args' w fun e w'=>∃v' ι',e=.returned v'∧VR (fun i=>D i∨σ.rng σ' i) ι' v v'∧Post P D (σ.rng σ') ι σ.H w φ ι' σ'.H w')
structure Env.OK (E:Env) (P:Program):Prop where
 T:E.T.OK P
 fn:∀f x,E.fn f=some x→P.funcs[f]?=some x∧x.body.isSome=true∧(x.name== "runtime.NumGoroutine")=false
 ext:∀f a v,E.ext f a=some v→∀(D:Nat→Prop) (ι:Nat→Reg) (a':Array Value) (w:World),AR D ι a.toArray a'→∃v',VR D ι v v'∧(callFunc f a').run P w=.ok (.value v') w
 sum:∀f a v,E.sum f a=some v→plainN 8 v=true∧a.all (plainN 8)=true∧∀w,GlW E.gl w→Calls P f a.toArray w fun e w'=>e=.returned v∧Same w w'
 gl:∀p,p∈E.gl→p.1<E.G∧p.2.all glc=true
 mixed:P.follows .mixedOrders=true
 spec:∀f S,E.spec f=some S→PureC P E.gl f S
 mnz:∀f e,E.mnz f=some e→∀(n:Nat) (w:World),n≤281474976710656→∃cs:Array Value,(callFunc f #[.int .i64 n]).run P w=.ok (.value (.slice (some ⟨w.heap.size,0,none⟩) n cs.size)) (w.drew.drew.alloc (.cells cs e))∧n≤cs.size
 cmp:∀t l,E.cmp t=some l→CmpOK P t l
 osp:∀f S,E.osp f=some S→ObjC P E.gl f S
 vsp:∀f S,E.vsp f=some S→VecC P E.gl f S
 cus:∀f args σ v σ' φ,E.cus f args σ=some (v,σ',φ)→CusOK P E f args σ v σ' φ
theorem GI.b {E:Env} {D:Nat→Prop} {ι:Nat→Reg} (h:GI E D ι):∀g,g<E.G→D g∧(ι g).blk=g∧(ι g).base=0:=fun g x=>⟨(h g x).1,(h g x).2.1,(h g x).2.2.1⟩
inductive OpR where
 |val (r:R)
 |enter (f:FuncId) (args:List Value)
def av (G:Nat) (s:Tr Value):Operand→Option Value
 | .tmp t=>s.get t
 | .const v=>bif plainN 8 v then some v else none
 | .global g=>bif Nat.blt g G then some (.pointer (some ⟨g,0,none⟩)) else none
 | .func f=>some (.func (.func f) #[] #[])
def avs (G:Nat) (s:Tr Value):List Operand→Option (List Value)
 |[]=>some []
 |x::xs=>match av G s x with
  |some v=>match avs G s xs with
   |some l=>some (v::l)
   |none=>none
  |none=>none
def avo (G:Nat) (s:Tr Value):Option Operand→Option (Option Value)
 |none=>some none
 |some x=>match av G s x with
  |some v=>some (some v)
  |none=>none
def avp (G:Nat) (s:Tr Value):List (Nat×Operand)→Option (List (Nat×Value))
 |[]=>some []
 |(i,x)::xs=>match av G s x with
  |some v=>match avp G s xs with
   |some l=>some ((i,v)::l)
   |none=>none
  |none=>none
def pureV (σ:St):Option Value→Option OpR
 |some v=>some (.val ⟨v,σ,.nil⟩)
 |none=>none
def memV:Option R→Option OpR
 |some r=>some (.val r)
 |none=>none
def aBin (P:Program) (T:TE) (op:BinOp) (t:TypeId) (ox oy:Operand) (x y:Value):Option Value:=
 match x,y with
 | .int k a,.int k' b=>match op with
   | .shl=>shBin .shl k a b
   | .shr=>shBin .shr k a b
   |_=>if k=k' then intBin op k a b else none
 | .string a,.string b=>strBin op a b
 |_,_=>match aEqV T t x y,op with
  |some b,.eql=>some (.bool b)
  |some b,.neq=>some (.bool (!b))
  |_,_=>bif plainN 8 x&&plainN 8 y then
    match prun P (do eqGuard op t ox oy x y;binOp op t x y) with
    |some v=>bif plainN 8 v then some v else none
    |none=>none
   else none
def prunV (P:Program) (e:Sem Value):Option Value:=
 match prun P e with
 |some v=>bif plainN 8 v then some v else none
 |none=>none
def isU8:Option TypeDesc→Bool
 |some (.int .u8)=>true
 |_=>false
def aConv (P:Program) (T:TE) (σ:St) (src dst:TypeId) (x:Value):Option R:=
 match T.und src,T.und dst,x with
 |some _,some (.int k),.int _ n=>some ⟨.int k (k.wrap n),σ,.nil⟩
 |some _,some .string,.string s=>some ⟨.string s,σ,.nil⟩
 |some _,some (.slice e),.string s=>bif isU8 (T.und e) then aStringToBytes T σ e s else none
 |some (.slice e),some .string,.slice a l c=>bif isU8 (T.und e) then aBytesToString σ (.slice a l c) else none
 |some (.pointer t),some .unsafePointer,.pointer a=>aToUns T σ t (.pointer a)
 |some .unsafePointer,some (.pointer t),.pointer a=>aFromUns T σ t (.pointer a)
 |_,_,_=>bif plainN 8 x then match prunV P (convert src dst x) with
   |some v=>some ⟨v,σ,.nil⟩
   |none=>none
  else none
def aBuiltin (P:Program) (T:TE) (σ:St) (b:Builtin) (argTypes:Array TypeId) (ty:TypeId) (consts:Array Bool) (args:List Value):Option R:=
 match b,args with
 | .len,[.slice _ n _]=>match argTypes.toList with
   |t::_=>match T.und t with
    |some (.slice _)=>some ⟨goInt n,σ,.nil⟩
    |_=>none
   |_=>none
 | .len,[.string s]=>match argTypes.toList with
   |t::_=>match T.und t with
    |some .string=>some ⟨goInt s.size,σ,.nil⟩
    |_=>none
   |_=>none
 | .cap,[.slice _ _ c]=>match argTypes.toList with
   |t::_=>match T.und t with
    |some (.slice _)=>bif Nat.beq c unk then none else some ⟨goInt c,σ,.nil⟩
    |_=>none
   |_=>none
 | .append,[s,x]=>aAppend T σ argTypes s x
 | .copy,[d,x]=>aCopy T σ argTypes d x
 | .unsafeSliceData,[x]=>match aSliceData x with
   |some v=>some ⟨v,σ,.nil⟩
   |none=>none
 | .unsafeString,[x,.int _ n]=>match argTypes.toList with
   |pt::_=>aUString T σ pt x n
   |_=>none
 |_,_=>bif args.all (plainN 8) then match prun P (builtin b argTypes ty consts args.toArray) with
   |some (.value v)=>bif plainN 8 v then some ⟨v,σ,.nil⟩ else none
   |_=>none
  else none
def aOp (P:Program) (E:Env) (s:Tr Value) (σ:St) (o:Oper):Option OpR:=
 match o.op with
 | .move x=>pureV σ (av E.G s x)
 | .assign x=>pureV σ (av E.G s x)
 | .pick c a b=>match av E.G s c with
   |some (.bool true)=>pureV σ (av E.G s a)
   |some (.bool false)=>pureV σ (av E.G s b)
   |_=>none
 | .alloc elem=>memV (aAlloc E.T σ elem)
 | .box elem x=>match av E.G s x with
   |some v=>bif notJ v then memV (aNew E.T σ elem v.cells.toList) else none
   |none=>none
 | .build t ps=>match avp E.G s ps.toList with
   |some l=>pureV σ (aBuild E.T t l)
   |none=>none
 | .buildSlice t n ps=>match avp E.G s ps.toList with
   |some l=>memV (aBuildSlice E.T σ t n l)
   |none=>none
 | .load t a=>match av E.G s a with
   |some v=>memV (aLoad E.T σ t v)
   |none=>none
 | .store t a x=>match av E.G s a,av E.G s x with
   |some v,some u=>memV (aStore E.T σ t v u)
   |_,_=>none
 | .nilCheck x=>match av E.G s x with
   |some (.pointer (some a))=>pureV σ (some (.pointer (some a)))
   |some (.iface t v)=>pureV σ (some (.iface t v))
   |some (.func (.func f) a b)=>pureV σ (some (.func (.func f) a b))
   |_=>none
 | .binOp op t x y _=>match av E.G s x,av E.G s y with
   |some a,some b=>pureV σ (aBin P E.T op t x y a b)
   |_,_=>none
 | .unOp op _ x=>match av E.G s x with
   |some (.bool b)=>match op with
    | .not=>pureV σ (some (.bool (!b)))
    |_=>none
   |some v=>pureV σ (bif plainN 8 v then prunV P (Op.unary op v) else none)
   |none=>none
 | .convert src dst x=>match av E.G s x with
   |some v=>memV (aConv P E.T σ src dst v)
   |none=>none
 | .makeInterface t x=>match av E.G s x,E.T.und t with
   |some v,some d=>match d with
    | .interface _=>none
    |_=>pureV σ (some (.iface t v))
   |_,_=>none
 | .makeFunc fn first captured=>match avs E.G s first.toList,avs E.G s captured.toList with
   |some l,some m=>pureV σ (some (.func fn l.toArray m.toArray))
   |_,_=>none
 | .makeSlice t l c=>match av E.G s l,av E.G s c with
   |some a,some b=>memV (aMakeSlice E.T σ t a b)
   |_,_=>none
 | .slice t x lo hi mx=>match av E.G s x,avo E.G s lo,avo E.G s hi,avo E.G s mx with
   |some v,some l,some h,some m=>memV (aSlice E.T σ t v l h m)
   |_,_,_,_=>none
 | .fieldAddr t x f=>match av E.G s x with
   |some v=>memV (aFieldAddr E.T σ t v f)
   |none=>none
 | .field t x f=>match av E.G s x with
   |some v=>pureV σ (aField E.T t v f)
   |none=>none
 | .indexAddr t x i=>match av E.G s x,av E.G s i with
   |some v,some u=>memV (aIndexAddr E.T σ t v u)
   |_,_=>none
 | .index t x i=>match av E.G s x,av E.G s i with
   |some v,some u=>pureV σ (aIndex E.T t v u)
   |_,_=>none
 | .range t x=>match av E.G s x with
   |some v=>memV (aRange E.T σ t v)
   |none=>none
 | .next it isS=>match av E.G s it with
   |some v=>memV (aNext σ v isS)
   |none=>none
 | .extract x i=>match av E.G s x with
   |some v=>pureV σ (aExtract v i)
   |none=>none
 | .call c=>match avs E.G s c.args.toList with
   |some args=>match c.callee with
    | .builtin b=>memV (aBuiltin P E.T σ b c.argTypes o.type (c.args.map fun| .const _=>true|_=>false) args)
    | .value f=>match av E.G s f with
      |some (.func (.func g) first captured)=>match E.fn g with
       |some _=>some (.enter g (first.toList++args++captured.toList))
       |none=>pureV σ (E.ext g (first.toList++args++captured.toList))
      |_=>none
    |_=>none
   |none=>none
 |_=>none
section
variable {P:Program} {E:Env} (hE:E.OK P) {D:Nat→Prop} {ι:Nat→Reg} {σ:St} {w:World} {s:Tr Value} {ρ:Operand→Value}
def SoundN (P:Program) (D:Nat→Prop) (ι:Nat→Reg) (σ:St) (w:World) (e:Sem Next) (r:R):Prop:=
 σ.next≤r.σ.next∧(σ.wf→r.σ.wf∧AFr σ r.σ r.φ)∧(σ.wf→(∀id,σ.rng r.σ id→¬D id)→HOn P D ι σ.H r.φ w→
  ∃nx v' ι' w',e.run P w=.ok nx w'∧(nx=.value v'∨(nx=.skip∧v'=undef))∧VR (fun i=>D i∨σ.rng r.σ i) ι' r.v v'∧Post P D (σ.rng r.σ) ι σ.H w r.φ ι' r.σ.H w')
theorem Sound.next {e:Sem Value} {r:R} (h:Sound P D ι σ w e r):SoundN P D ι σ w (do Pure.pure (.value (←e))) r:=by
 obtain⟨h1,h2,h3⟩:=h;refine⟨h1,h2,fun a b c=> ?_⟩;obtain⟨v',ι',w',g1,g2,g3⟩:=h3 a b c;exact⟨.value v',v',ι',w',by simp only[Sem.run_bind,g1,Result.andThen_ok,Sem.run_pure],.inl rfl,g2,g3⟩
theorem Sound.nextU {e:Sem Unit} {r:R} (h:Sound P D ι σ w (do e;Pure.pure undef) r):SoundN P D ι σ w (do e;Pure.pure .skip) r:=by
 obtain⟨h1,h2,h3⟩:=h;refine⟨h1,h2,fun a b c=> ?_⟩;obtain⟨v',ι',w',g1,g2,g3⟩:=h3 a b c;simp only[Sem.run_bind] at g1;cases hr:e.run P w with
 |ok u w2=>
  rw[hr] at g1;simp only[Result.andThen_ok,Sem.run_pure,Result.ok.injEq] at g1;obtain⟨rfl,rfl⟩:=g1;exact⟨.skip,undef,ι',w2,by simp only[Sem.run_bind,hr,Result.andThen_ok,Sem.run_pure],.inr ⟨rfl,rfl⟩,g2,g3⟩
 |halt hh w2=>rw[hr] at g1;simp at g1
def Rel (G:Nat) (D:Nat→Prop) (ι:Nat→Reg) (s:Tr Value) (ρ:Operand→Value) (x:Operand):Prop:=∀v,av G s x=some v→VR D ι v (ρ x)
theorem avs_rel {G:Nat}:∀(xs:List Operand) (l:List Value),avs G s xs=some l→(∀x,x∈xs→Rel G D ι s ρ x)→AR D ι l.toArray (xs.map ρ).toArray
 |[],l,h,_=>by
  simp only[avs,Option.some.injEq] at h;subst h;exact⟨rfl,by simp⟩
 |x::xs,l,h,hr=>by
  simp only[avs] at h
  split at h
  ·rename_i v hv
   split at h
   ·rename_i l' hl;cases h;obtain⟨h1,h2⟩:=avs_rel xs l' hl fun y hy=>hr y (by simp[hy])
    refine⟨by simpa using h1,fun i a b ha hb=> ?_⟩;rcases i with _|i
    ·simp at ha hb;subst ha hb;exact hr x (by simp) v hv
    ·exact h2 i a b (by simpa using ha) (by simpa using hb)
   ·cases h
  ·cases h
theorem avo_rel {G:Nat} {x:Option Operand} {v:Option Value} (h:avo G s x=some v) (hr:∀y,x=some y→Rel G D ι s ρ y):OR D ι v (x.map ρ):=by
 unfold avo at h
 split at h
 ·cases h;exact .none
 ·rename_i y
  split at h
  ·rename_i u hu;cases h;exact .some _ _ (hr y rfl u hu)
  ·cases h
theorem avp_rel {G:Nat}:∀(xs:List (Nat×Operand)) (l:List (Nat×Value)),avp G s xs=some l→(∀x,x∈xs.map (·.2)→Rel G D ι s ρ x)→PR D ι l (xs.map fun(i,x)=>(i,ρ x))
 |[],l,h,_=>by
  simp only[avp,Option.some.injEq] at h;subst h;exact .nil
 |(i,x)::xs,l,h,hr=>by
  simp only[avp] at h
  split at h
  ·rename_i v hv
   split at h
   ·rename_i l' hl;cases h;exact .cons i v (ρ x) l' _ (hr x (by simp) v hv) (avp_rel xs l' hl fun y hy=>hr y (by
     simp only[List.map_cons,List.mem_cons];exact .inr hy))
   ·cases h
  ·cases h
theorem prunV_sound {e:Sem Value} {v:Value} (h:prunV P e=some v):Sound P D ι σ w e ⟨v,σ,.nil⟩:=by
 unfold prunV at h
 split at h
 ·rename_i u hu;cases hp:plainN 8 u
  ·rw[hp] at h;cases h
  ·rw[hp] at h;cases h;exact prun_sound hu hp
 ·cases h
theorem eqGuard_run {op:BinOp} {t:TypeId} {ox oy:Operand} {x y:Value} (h1:x=.nilIface→y≠ .nilIface) (h2:∀c,x≠ .agg c) (w:World):(eqGuard op t ox oy x y).run P w=.ok () w:=by
 have:eqGuard op t ox oy x y=Pure.pure ():=by
  cases op<;>first
   |rfl
   |(cases x<;>first
    |rfl
    |exact absurd rfl (h2 _)
    |(cases y<;>first|rfl|exact absurd rfl (h1 rfl)))
 rw[this];rfl
def notNum:Value→Bool
 | .int .. | .float .. | .complex .. | .string _| .chan (some _)| .tuple _=>false
 |_=>true
theorem VR.notNum {x x':Value} (h:VR D ι x x') (hn:notNum x=true):notNum x'=true:=by cases h<;>first|rfl|cases hn
theorem aEqV_notNum {T:TE} {t:TypeId} {x y:Value} {b:Bool} (h:aEqV T t x y=some b):notNum x=true:=by
 cases x<;>first|rfl|simp[aEqV] at h
theorem binOp_eql {t:TypeId} {x y:Value} (h:notNum x=true):binOp .eql t x y=(do Pure.pure (.bool (←Op.equal t x y))):=by
 cases x<;>first|rfl|cases h
theorem binOp_neq {t:TypeId} {x y:Value} (h:notNum x=true):binOp .neq t x y=(do Pure.pure (.bool (!(←Op.equal t x y)))):=by
 cases x<;>first|rfl|cases h
include hE
theorem aBin_sound {op:BinOp} {t:TypeId} {ox oy:Operand} {x y x' y' v:Value} (h:aBin P E.T op t ox oy x y=some v) (hx:VR D ι x x') (hy:VR D ι y y'):
  Sound P D ι σ w (do eqGuard op t ox oy x' y';binOp op t x' y') ⟨v,σ,.nil⟩:=by
 unfold aBin at h
 split at h
 ·rename_i k a k' b;cases hx;cases hy;have hg:=fun w=>eqGuard_run (P:=P) (op:=op) (t:=t) (ox:=ox) (oy:=oy) (x:=.int k a) (y:=.int k' b) (by simp) (by simp) w
  have hi:∀u,intBin op k a b=some u→VR D ι u u:=fun u hu=>by
   cases op<;>simp only[intBin] at hu<;>first|(cases hu;done)|(cases hu;exact .int _ _)|(cases hu;exact .bool _)|(split at hu<;>cases hu<;>exact .int _ _)
  have hsh:∀op u,shBin op k a b=some u→VR D ι u u:=fun op u hu=>by
   unfold shBin at hu
   split at hu
   ·cases hu
   ·cases op<;>simp only at hu<;>cases hu<;>exact .int _ _
  split at h
  ·exact Sound.pure (v':=v) (by simp only[Sem.run_bind,hg,Result.andThen_ok];exact shBin_run h w) (hsh _ v h)
  ·exact Sound.pure (v':=v) (by simp only[Sem.run_bind,hg,Result.andThen_ok];exact shBin_run h w) (hsh _ v h)
  ·split at h
   ·rename_i hk;subst hk;exact Sound.pure (v':=v) (by simp only[Sem.run_bind,hg,Result.andThen_ok];exact intBin_run h w) (hi v h)
   ·cases h
 ·rename_i a b;cases hx;cases hy;have hg:=fun w=>eqGuard_run (P:=P) (op:=op) (t:=t) (ox:=ox) (oy:=oy) (x:=.string a) (y:=.string b) (by simp) (by simp) w
  have hv:VR D ι v v:=by
   cases op<;>simp only[strBin] at h<;>first|(cases h;done)|(cases h;exact .bool _)|skip
   cases hb:Nat.ble (a.size+b.size) 1099511627776
   ·rw[hb] at h;cases h
   ·rw[hb] at h;cases h;exact .string _
  refine Sound.pure (v':=v) ?_ hv;have e:binOp op t (.string a) (.string b)=Op.stringOp op a b:=by cases op<;>rfl
  simp only[Sem.run_bind,hg,Result.andThen_ok,e];exact strBin_run h w
 ·split at h
  ·rename_i b hb;cases h;obtain⟨e1,e2,e3⟩:=aEqV_run hE.T hb hx hy w;refine Sound.pure (v':=.bool b) ?_ (.bool _);have hn:=hx.notNum (aEqV_notNum hb);simp only[Sem.run_bind,eqGuard_run e2 e3,Result.andThen_ok,binOp_eql hn,e1,Sem.run_pure]
  ·rename_i b hb;cases h;obtain⟨e1,e2,e3⟩:=aEqV_run hE.T hb hx hy w;refine Sound.pure (v':=.bool (!b)) ?_ (.bool _);have hn:=hx.notNum (aEqV_notNum hb);simp only[Sem.run_bind,eqGuard_run e2 e3,Result.andThen_ok,binOp_neq hn,e1,Sem.run_pure]
  ·cases hp:(plainN 8 x&&plainN 8 y)
   ·rw[hp] at h;cases h
   ·rw[hp,cond_true] at h;rw[Bool.and_eq_true] at hp;have ex:=plain_eq 8 x x' hp.1 hx;have ey:=plain_eq 8 y y' hp.2 hy;subst ex ey;exact prunV_sound h
omit hE
end
end Go.Eng
end
end
end
section
noncomputable section
noncomputable section
namespace Go.Eng
open Go
def eqS (d:TypeDesc) (u v:Value):Option Bool:=
 match d,u,v with
 | .bool,.bool a,.bool b=>some (a==b)
 | .int _,.int k a,.int k' b=>bif decide (k=k') then some (a==b) else none
 | .string,.string a,.string b=>some (toL a==toL b)
 |_,_,_=>none
def gCells (T:TE) (xs ys:List Value):List (TypeId×Nat)→Option Bool
 |[]=>some true
 |x::r=>match T.und x.1,xs[x.2]?,ys[x.2]? with
  |some d,some a,some b=>match unsy a,unsy b with
   |some u,some v=>match eqS d u v,gCells T xs ys r with
    |some c,some c'=>some (c&&c')
    |_,_=>none
   |_,_=>none
  |_,_,_=>none
def gBin (T:TE) (cmp:TypeId→Option (List (TypeId×Nat))) (op:BinOp) (t:TypeId) (a b:Value):Option SV:=
 match a,b,cmp t with
 | .agg xs,.agg ys,some l=>match op with
   | .eql=>match gCells T xs.toList ys.toList l with
     |some c=>some (.bool c,[])
     |none=>none
   | .neq=>match gCells T xs.toList ys.toList l with
     |some c=>some (.bool (!c),[])
     |none=>none
   |_=>none
 |_,_,_=>none
def cmpOf (T:TE) (l:List TypeId) (t:TypeId):Option (List (TypeId×Nat)):=bif l.any (Nat.beq t) then match T.und t with
 |some (.struct fs)=>some (fs.toList.map fun f=>(f.type,f.offset))
 |_=>none else none
def cmpB (P:Program) (l:List TypeId):Bool:=l.all fun t=>match P.underlying t with
 |some (.struct fs)=>fs.toList.all (fun f=>f.name != "_")&&(!(P.stoodInHeld t)&& !(P.eqGuardType P.depth t))
 |_=>false
section
variable {P:Program} {T:TE} (hT:T.OK P) {D:Nat→Prop} {ι:Nat→Reg}
include hT
theorem eqS_run {n:Nat} {t:TypeId} {d:TypeDesc} {u v:Value} {c:Bool} (hd:T.und t=some d) (h:eqS d u v=some c) (w:World):isAggD d=false∧(Op.equalIn (n+1) t u v).run P w=.ok c w:=by
 unfold eqS at h
 split at h
 ·cases h;exact⟨rfl,run_equalIn_bool' w n t _ _ (hT.und t _ hd)⟩
 ·rename_i k0 k a k' b;by_cases hk:k=k'
  ·subst hk;simp only[decide_true,cond_true,Option.some.injEq] at h;subst h;exact⟨rfl,run_equalIn_int w n t _ _ _ _ (hT.und t _ hd)⟩
  ·simp[hk] at h
 ·rename_i a b;cases h;refine⟨rfl,(run_equalIn_string w n t _ _ (hT.und t _ hd)).trans ?_⟩;rw[toList_toL,toList_toL]
 ·cases h
theorem gCells_run {xs ys xs' ys':Array Value} (hx:AR D ι xs xs') (hy:AR D ι ys ys') (n:Nat) (w:World):∀(fs:List Field) (c:Bool),(∀f,f∈fs→f.name≠ "_")→gCells T xs.toList ys.toList (fs.map fun f=>(f.type,f.offset))=some c→
  (Op.eqFields (n+1) xs' ys' fs).run P w=.ok c w
 |[],c,_,h=>by
  simp only[List.map_nil,gCells,Option.some.injEq] at h;subst h;rfl
 |f::fs,c,hn,h=>by
  simp only[List.map_cons,gCells] at h
  split at h
  ·rename_i d a b hd ha hb
   split at h
   ·rename_i u v hu hv
    split at h
    ·rename_i c1 c2 h1 h2;cases h;obtain⟨hg,hr⟩:=eqS_run hT (n:=n) hd h1 w;have get:∀{zs zs':Array Value} {z u:Value},AR D ι zs zs'→zs.toList[f.offset]?=some z→unsy z=some u→zs'[f.offset]?=some u:=by
      intro zs zs' z u hz h1 h2;rw[Array.getElem?_toList] at h1;have hlt:=(Array.getElem?_eq_some_iff.1 h1).1;have hlt':f.offset<zs'.size:=by rw[←hz.1];exact hlt
      have e':zs'[f.offset]?=some zs'[f.offset]:=Array.getElem?_eq_getElem hlt';have:=hz.2 f.offset _ _ h1 e';rw[e',(unsy_spec h2 this).1]
     have p1:(part f.type xs' f.offset).run P w=.ok u w:=by
      simp only[part,Sem.run_bind,run_isAgg hT hd,hg,Result.andThen_ok,Bool.false_eq_true,if_false,get hx ha hu,Sem.run_pure]
     have p2:(part f.type ys' f.offset).run P w=.ok v w:=by
      simp only[part,Sem.run_bind,run_isAgg hT hd,hg,Result.andThen_ok,Bool.false_eq_true,if_false,get hy hb hv,Sem.run_pure]
     have ih:=gCells_run hx hy n w fs c2 (fun g hg=>hn g (List.mem_cons_of_mem _ hg)) h2;simp only[Op.eqFields,if_pos (hn f (List.mem_cons_self ..)),Sem.run_bind,p1,p2,hr,Result.andThen_ok];cases c1
     ·simp
     ·simp[ih]
    ·cases h
   ·cases h
  ·cases h
theorem gBin_run {cmp:TypeId→Option (List (TypeId×Nat))} (hc:∀t l,cmp t=some l→CmpOK P t l) {op:BinOp} {t:TypeId} {ox oy:Operand} {a b a' b' v:Value} {ps:List Bool} (h:gBin T cmp op t a b=some (v,ps)) (ha:VR D ι a a') (hb:VR D ι b b') (w:World):
  (do eqGuard op t ox oy a' b';binOp op t a' b').run P w=.ok v w∧scal v=true:=by
 unfold gBin at h
 split at h
 ·rename_i xs ys l hl;obtain⟨fs,hu,rfl,hn,hs,hg⟩:=hc _ _ hl;obtain⟨xs',rfl,hx⟩:∃xs',a'=.agg xs'∧AR D ι xs xs':=by
   cases ha with|agg _ bs hs hh=>exact⟨bs,rfl,hs,hh⟩
  obtain⟨ys',rfl,hy⟩:∃ys',b'=.agg ys'∧AR D ι ys ys':=by
   cases hb with|agg _ bs hs hh=>exact⟨bs,rfl,hs,hh⟩
  have hf:P.fieldsOf t=fs:=by unfold Program.fieldsOf;rw[hu]
  have key:∀c,gCells T xs.toList ys.toList (fs.toList.map fun f=>(f.type,f.offset))=some c→(Op.equalIn 10000 t (.agg xs') (.agg ys')).run P w=.ok c w:=fun c hcc=>by
   rw[show(10000:Nat)=9999+1 from rfl,run_equalIn_struct w 9999 t xs' ys' (by rw[hf];exact hu) hs,hf];exact gCells_run hT hx hy 9998 w fs.toList c hn hcc
  have hgd:∀op,(eqGuard op t ox oy (.agg xs') (.agg ys')).run P w=.ok () w:=fun op=>run_eqGuard_agg w op t ox oy xs' ys' hg
  split at h
  ·split at h
   ·rename_i c hcc;cases h;exact⟨by simp only[Sem.run_bind,hgd,Result.andThen_ok,run_eql_struct,key c hcc],rfl⟩
   ·cases h
  ·split at h
   ·rename_i c hcc;cases h;exact⟨by simp only[Sem.run_bind,hgd,Result.andThen_ok,run_neq_struct,key c hcc],rfl⟩
   ·cases h
  ·cases h
 ·cases h
theorem cmpOf_ok {l:List TypeId} (h:cmpB P l=true):∀t l',cmpOf T l t=some l'→CmpOK P t l':=by
 intro t l' hc;unfold cmpOf at hc;cases ha:l.any (Nat.beq t)
 ·rw[ha] at hc;cases hc
 rw[ha,cond_true] at hc
 split at hc
 ·rename_i fs hf;cases hc;obtain⟨x,hx,e⟩:=List.any_eq_true.1 ha;have e:=Nat.eq_of_beq_eq_true e;subst e;have:=List.all_eq_true.1 h t hx;rw[hT.und t _ hf] at this;simp only[Bool.and_eq_true,Bool.not_eq_true',List.all_eq_true,bne_iff_ne,ne_eq] at this;exact⟨fs,hT.und t _ hf,rfl,this.1,this.2.1,this.2.2⟩
 ·cases hc
omit hT
end
end Go.Eng
end
end
end
section
noncomputable section
noncomputable section
namespace Go.Eng
open Go
section
variable {P:Program} {E:Env} (hE:E.OK P) {D:Nat→Prop} {ι:Nat→Reg} {σ:St} {w:World} {s:Tr Value} {ρ:Operand→Value}
theorem isU8_spec {d:Option TypeDesc} (h:isU8 d=true):d=some (.int .u8):=by
 unfold isU8 at h
 split at h
 ·rfl
 ·cases h
theorem plain_arr {l:List Value} {a:Array Value} (h:l.all (plainN 8)=true) (hl:AR D ι l.toArray a):a=l.toArray:=by
 refine Array.ext (by rw[←hl.1]) fun i h1 h2=> ?_
 rw[List.all_eq_true] at h;have hi:i<l.length:=by simpa using h2
 exact plain_eq 8 _ _ (h l[i] (List.getElem_mem hi)) (hl.2 i l[i] a[i] (by simp) (Array.getElem?_eq_getElem h1))
theorem AR.two {x y:Value} {a:Array Value} (h:AR D ι [x,y].toArray a):∃x' y',a=#[x',y']∧VR D ι x x'∧VR D ι y y':=by
 obtain⟨h1,h2⟩:=h;have hs:a.size=2:=by simpa using h1.symm
 refine⟨a[0],a[1],?_,h2 0 x a[0] rfl (Array.getElem?_eq_getElem (by omega)),h2 1 y a[1] rfl (Array.getElem?_eq_getElem (by omega))⟩;apply Array.ext
 ·simp[hs]
 ·intro i g1 g2
  match i,g2 with
  |0,_=>rfl
  |1,_=>rfl
theorem AR.one {x:Value} {a:Array Value} (h:AR D ι [x].toArray a):∃x',a=#[x']∧VR D ι x x':=by
 obtain⟨h1,h2⟩:=h;have hs:a.size=1:=by simpa using h1.symm
 refine⟨a[0],?_,h2 0 x a[0] rfl (Array.getElem?_eq_getElem (by omega))⟩;apply Array.ext
 ·simp[hs]
 ·intro i g1 g2
  match i,g2 with
  |0,_=>rfl
include hE
theorem aConv_sound {src dst:TypeId} {x x':Value} {r:R} (h:aConv P E.T σ src dst x=some r) (hx:VR D ι x x'):Sound P D ι σ w (convert src dst x') r:=by
 unfold aConv at h
 split at h
 ·rename_i d k kk n h1 h2;cases h;cases hx;refine Sound.pure (v':=.int k (k.wrap n)) ?_ (.int _ _);simp only[convert,Sem.run_bind,run_und hE.T h1,run_und hE.T h2,Result.andThen_ok,Conv.intToInt,Sem.run_pure]
 ·rename_i d s' h1 h2;cases h;cases hx;refine Sound.pure (v':=.string s') ?_ (.string _);simp only[convert,Sem.run_bind,run_und hE.T h1,run_und hE.T h2,Result.andThen_ok,Sem.run_pure]
 ·rename_i d e s' h1 h2;cases hx;cases hb:isU8 (E.T.und e)
  ·rw[hb] at h;cases h
  ·rw[hb,cond_true] at h;have hu:=isU8_spec hb;obtain⟨g1,g2,g3⟩:=aStringToBytes_sound (w:=w) (D:=D) (ι:=ι) hE.T h;refine⟨g1,g2,fun a b c=> ?_⟩;obtain⟨v',ι',w',k1,k2,k3⟩:=g3 a b c;refine⟨v',ι',w',?_,k2,k3⟩;simp only[convert,Sem.run_bind,run_und hE.T h1,run_und hE.T h2,Result.andThen_ok,run_und hE.T hu]
   exact k1
 ·rename_i e a l c h1 h2;cases hb:isU8 (E.T.und e)
  ·rw[hb] at h;cases h
  ·rw[hb,cond_true] at h;have hu:=isU8_spec hb;obtain⟨g1,g2,g3⟩:=aBytesToString_sound (P:=P) (w:=w) (D:=D) (ι:=ι) h hx;refine⟨g1,g2,fun a b c=> ?_⟩;obtain⟨v',ι',w',k1,k2,k3⟩:=g3 a b c;refine⟨v',ι',w',?_,k2,k3⟩;have hsl:∃a' l' c',x'=.slice a' l' c':=by cases hx<;>exact⟨_,_,_,rfl⟩
   obtain⟨a',l',c',rfl⟩:=hsl;simp only[convert,Sem.run_bind,run_und hE.T h1,run_und hE.T h2,Result.andThen_ok,run_und hE.T hu];exact k1
 ·rename_i t a h1 h2;have e1:=hE.T.und _ _ h1;have e2:=hE.T.und _ _ h2;exact aToUns_sound hE.T e1 e2 h hx
 ·rename_i t a h1 h2;have e1:=hE.T.und _ _ h1;have e2:=hE.T.und _ _ h2;exact aFromUns_sound hE.T e1 e2 h hx
 ·rename_i x _ _ _ _ _ _ _ _ _;cases hp:plainN 8 x
  ·rw[hp] at h;cases h
  ·rw[hp,cond_true] at h;have ex:=plain_eq 8 x x' hp hx;subst ex
   split at h
   ·rename_i v hv;cases h;exact prunV_sound hv
   ·cases h
theorem aBuiltin_sound {b:Builtin} {argTypes:Array TypeId} {ty:TypeId} {consts:Array Bool} {args:List Value} {args':Array Value} {r:R}
  (h:aBuiltin P E.T σ b argTypes ty consts args=some r) (ha:AR D ι args.toArray args'):SoundN P D ι σ w (builtin b argTypes ty consts args') r:=by
 have tl:∀t l,argTypes.toList=t::l→argTypes[0]?=some t:=fun t l e=>by rw[←Array.getElem?_toList,e];rfl
 unfold aBuiltin at h
 split at h
 ·rename_i a n c;obtain⟨x',rfl,hx⟩:=ha.one
  split at h
  ·rename_i t l ht
   split at h
   ·rename_i e hu;cases h;have hsl:∃a' c',x'=.slice a' n c':=by cases hx<;>exact⟨_,_,rfl⟩
    obtain⟨a',c',rfl⟩:=hsl;refine Sound.next (e:=Builtin.len_ argTypes ty #[.slice a' n c']) (Sound.pure (v':=goInt n) ?_ (.int _ _));simp only[Builtin.len_,tl _ _ ht,List.getElem?_toArray,List.getElem?_cons_zero,Sem.run_bind,run_und hE.T hu,Result.andThen_ok,Sem.run_pure]
   ·cases h
  ·cases h
 ·rename_i s';obtain⟨x',rfl,hx⟩:=ha.one;cases hx
  split at h
  ·rename_i t l ht
   split at h
   ·rename_i hu;cases h;refine Sound.next (e:=Builtin.len_ argTypes ty #[.string s']) (Sound.pure (v':=goInt s'.size) ?_ (.int _ _));simp only[Builtin.len_,tl _ _ ht,List.getElem?_toArray,List.getElem?_cons_zero,Sem.run_bind,run_und hE.T hu,Result.andThen_ok,Sem.run_pure]
   ·cases h
  ·cases h
 ·rename_i a n c;obtain⟨x',rfl,hx⟩:=ha.one
  split at h
  ·rename_i t l ht
   split at h
   ·rename_i e hu;cases hb:Nat.beq c unk
    ·rw[hb] at h;cases h;have hne:c≠unk:=fun e=>by rw[beq_t e] at hb;cases hb
     have hsl:∃a',x'=.slice a' n c:=by
      cases hx with
      |slN _ _=>exact⟨_,rfl⟩
      |slK _ _ _ _ _ _=>exact⟨_,rfl⟩
      |slU _ _ _ _ _ _ _=>exact absurd rfl hne
      |slE _ _ _ _ _ _ _=>exact absurd rfl hne
     obtain⟨a',rfl⟩:=hsl;refine Sound.next (e:=Builtin.cap_ argTypes ty #[.slice a' n c]) (Sound.pure (v':=goInt c) ?_ (.int _ _));simp only[Builtin.cap_,tl _ _ ht,List.getElem?_toArray,List.getElem?_cons_zero,Sem.run_bind,run_und hE.T hu,Result.andThen_ok,Sem.run_pure]
    ·rw[hb] at h;cases h
   ·cases h
  ·cases h
 ·obtain⟨x',y',rfl,hx,hy⟩:=ha.two;exact Sound.next (aAppend_sound hE.T h hx hy)
 ·obtain⟨x',y',rfl,hx,hy⟩:=ha.two;exact Sound.next (aCopy_sound hE.T h hx hy)
 ·obtain⟨x',rfl,hx⟩:=ha.one
  split at h
  ·rename_i v hv;cases h;exact Sound.next (aSliceData_sound hv hx)
  ·cases h
 ·obtain⟨x',y',rfl,hx,hy⟩:=ha.two;cases hy
  split at h
  ·rename_i pt tl' ht;exact Sound.next (aUString_sound hE.T ht h hx)
  ·cases h
 ·cases hp:args.all (plainN 8)
  ·rw[hp] at h;cases h
  ·rw[hp,cond_true] at h;have e:=plain_arr hp ha;subst e
   split at h
   ·rename_i v hv;cases hq:plainN 8 v
    ·rw[hq] at h;cases h
    ·rw[hq,cond_true] at h;cases h;refine⟨Nat.le_refl _,fun hw=>⟨hw,AFr.refl _ _⟩,fun _ _ _=>⟨.value v,v,ι,w,prun_run P _ _ hv w,.inl rfl,(plain_refl 8 v hq).mono (fun _=>.inl) fun _ _=>rfl,Post.same (St.rng_self σ) rfl rfl rfl rfl rfl⟩⟩
   ·cases h
omit hE
theorem pureV_spec {v:Option Value} {r:R} (h:pureV σ v=some (.val r)):∃u,v=some u∧r=⟨u,σ,.nil⟩:=by
 unfold pureV at h
 split at h
 ·cases h;exact⟨_,rfl,rfl⟩
 ·cases h
theorem memV_spec {v:Option R} {r:R} (h:memV v=some (.val r)):v=some r:=by
 unfold memV at h
 split at h
 ·cases h;rfl
 ·cases h
theorem pureV_enter {v:Option Value} {f:FuncId} {a:List Value}:pureV σ v≠some (.enter f a):=by
 unfold pureV;split<;>simp
theorem memV_enter {v:Option R} {f:FuncId} {a:List Value}:memV v≠some (.enter f a):=by
 unfold memV;split<;>simp
theorem SoundN.value {v v':Value} {e:Sem Next} (h:e.run P w=.ok (.value v') w) (hv:VR D ι v v'):SoundN P D ι σ w e ⟨v,σ,.nil⟩:=
 ⟨Nat.le_refl _,fun hw=>⟨hw,AFr.refl _ _⟩,fun _ _ _=>⟨.value v',v',ι,w,h,.inl rfl,hv.mono (fun _=>.inl) fun _ _=>rfl,Post.same (St.rng_self σ) rfl rfl rfl rfl rfl⟩⟩
theorem call_resolve {c:Call} {f:Operand} {ty:TypeId} {g:FuncId} {first captured:Array Value} (hc:c.callee=.value f) (hf:ρ f=.func (.func g) first captured) (w:World):
  (do let d←resolve ρ c ty;invoke d.target d.args:Sem Next).run P w=(callFunc g (first++c.args.map ρ++captured)).run P w:=by
 simp only[resolve,hc,Deferred.ofValue,hf,Sem.run_bind,Sem.run_pure,Result.andThen_ok,invoke]
theorem AR.catN {a b c:List Value} {a' b' c':Array Value} (h1:AR D ι a.toArray a') (h2:AR D ι b.toArray b') (h3:AR D ι c.toArray c'):AR D ι (a++b++c).toArray (a'++b'++c'):=by
 have l1:a.length=a'.size:=by simpa using h1.1
 have l2:b.length=b'.size:=by simpa using h2.1
 have l3:c.length=c'.size:=by simpa using h3.1
 refine⟨by simp;omega,fun i v v' hv hv'=> ?_⟩;simp only[List.getElem?_toArray] at hv;by_cases hi:i<(a++b).length
 ·rw[List.getElem?_append_left hi] at hv;obtain⟨u,hu,hvu⟩:=AR.append h1 h2 c' i v hv;rw[hu] at hv';cases hv';exact hvu
 ·rw[List.getElem?_append_right (by omega)] at hv;rw[Array.getElem?_append_right (by simp at hi⊢;omega)] at hv';refine h3.2 _ v v' (by simpa using hv) ?_;rw[←hv'];congr 1;simp;omega
include hE
theorem aOp_val {o:Oper} {r:R} (h:aOp P E s σ o=some (.val r)) (_hok:r.σ.Ok) (hs:∀x,x∈o.op.operands→Rel E.G D ι s ρ x):SoundN P D ι σ w (execOp ρ o) r:=by
 have pv:∀(x:Operand) (r:R),pureV σ (av E.G s x)=some (.val r)→Rel E.G D ι s ρ x→SoundN P D ι σ w (Pure.pure (.value (ρ x))) r:=by
  intro x r h hr;obtain⟨u,hu,rfl⟩:=pureV_spec h;exact SoundN.value rfl (hr u hu)
 unfold aOp at h;unfold execOp
 split at h
 ·rename_i x ho;simp only[ho,Op.operands] at hs⊢;exact pv x r h (hs x (by simp))
 ·rename_i x ho;simp only[ho,Op.operands] at hs⊢;exact pv x r h (hs x (by simp))
 ·rename_i c a b ho;simp only[ho,Op.operands] at hs⊢
  split at h
  ·rename_i hc;have e:=hs c (by simp) _ hc;obtain⟨u,hu,rfl⟩:=pureV_spec h;refine SoundN.value (v':=ρ a) ?_ (hs a (by simp) u hu);generalize ρ c=rc at e;cases e;simp only[Sem.run_bind,asBool,Sem.run_pure,Result.andThen_ok,if_true]
  ·rename_i hc;have e:=hs c (by simp) _ hc;obtain⟨u,hu,rfl⟩:=pureV_spec h;refine SoundN.value (v':=ρ b) ?_ (hs b (by simp) u hu);generalize ρ c=rc at e;cases e;simp only[Sem.run_bind,asBool,Sem.run_pure,Result.andThen_ok,Bool.false_eq_true,if_false]
  ·cases h
 ·rename_i elem ho;simp only[ho];exact Sound.next (aAlloc_sound hE.T (memV_spec h))
 ·rename_i elem x ho;simp only[ho,Op.operands] at hs⊢
  split at h
  ·rename_i v hv;cases hj:notJ v
   ·rw[hj] at h;cases h
   ·rw[hj,cond_true] at h;exact Sound.next (aBox_sound hE.T (memV_spec h) (hs x (by simp) v hv) hj)
  ·cases h
 ·rename_i t ps ho;simp only[ho,Op.operands] at hs⊢
  split at h
  ·rename_i l hl;obtain⟨u,hu,rfl⟩:=pureV_spec h;have hp:=avp_rel _ _ hl fun x hx=>hs x (by simpa using hx)
   exact Sound.next (aBuild_sound hE.T hu (by simpa using hp))
  ·cases h
 ·rename_i t n ps ho;simp only[ho,Op.operands] at hs⊢
  split at h
  ·rename_i l hl;have hp:=avp_rel _ _ hl fun x hx=>hs x (by simpa using hx)
   exact Sound.next (aBuildSlice_sound hE.T (memV_spec h) (by simpa using hp))
  ·cases h
 ·rename_i t a ho;simp only[ho,Op.operands] at hs⊢
  split at h
  ·rename_i v hv;exact Sound.next (aLoad_sound hE.T (memV_spec h) (hs a (by simp) v hv))
  ·cases h
 ·rename_i t a x ho;simp only[ho,Op.operands] at hs⊢
  split at h
  ·rename_i v u hv hu;exact Sound.nextU (aStore_sound hE.T (memV_spec h) (hs a (by simp) v hv) (hs x (by simp) u hu))
  ·cases h
 ·rename_i x ho;simp only[ho,Op.operands] at hs⊢
  split at h
  ·rename_i a hv;have e:=hs x (by simp) _ hv;obtain⟨u,hu,rfl⟩:=pureV_spec h;cases hu;obtain⟨a',ha'⟩:=e.ptr_shape;rw[ha'] at e;exact SoundN.value (v':=.pointer (some a')) (by rw[ha'];rfl) e
  ·rename_i t v hv;have e:=hs x (by simp) _ hv;obtain⟨u,hu,rfl⟩:=pureV_spec h;cases hu;generalize ρ x=rx at e;cases e with|iface _ _ v' h=>exact SoundN.value (v':=.iface t v') rfl (.iface _ _ _ h)
  ·rename_i f a b hv;have e:=hs x (by simp) _ hv;obtain⟨u,hu,rfl⟩:=pureV_spec h;cases hu;generalize ρ x=rx at e;cases e with|func _ _ a' _ b' h1 h2 h3 h4=>exact SoundN.value (v':=.func (.func f) a' b') rfl (.func _ _ _ _ _ h1 h2 h3 h4)
  ·cases h
 ·rename_i op t x y ty ho;simp only[ho,Op.operands] at hs⊢
  split at h
  ·rename_i a b ha hb;obtain⟨u,hu,rfl⟩:=pureV_spec h;exact Sound.next (aBin_sound hE hu (hs x (by simp) a ha) (hs y (by simp) b hb))
  ·cases h
 ·rename_i op t x ho;simp only[ho,Op.operands] at hs⊢
  split at h
  ·rename_i b hv
   split at h
   ·have e:=hs x (by simp) _ hv;obtain⟨u,hu,rfl⟩:=pureV_spec h;cases hu;generalize ρ x=rx at e;cases e;exact SoundN.value (v':=.bool (!b)) rfl (.bool _)
   ·cases h
  ·rename_i v hno hv;obtain⟨u,hu,rfl⟩:=pureV_spec h;cases hp:plainN 8 v
   ·rw[hp] at hu;cases hu
   ·rw[hp,cond_true] at hu;have e:=plain_eq 8 _ _ hp (hs x (by simp) v hv);rw[e];exact Sound.next (prunV_sound hu)
  ·cases h
 ·rename_i src dst x ho;simp only[ho,Op.operands] at hs⊢
  split at h
  ·rename_i v hv;exact Sound.next (aConv_sound hE (memV_spec h) (hs x (by simp) v hv))
  ·cases h
 ·rename_i t x ho;simp only[ho,Op.operands] at hs⊢
  split at h
  ·rename_i v d hv hd;have hni:(∀m,d≠ .interface m)∧pureV σ (some (.iface t v))=some (.val r):=by
    split at h
    ·cases h
    ·rename_i hn;exact⟨fun m e=>hn m e,h⟩
   obtain⟨u,hu,rfl⟩:=pureV_spec hni.2;cases hu;refine Sound.next (Sound.pure (v':=.iface t (ρ x)) ?_ (.iface _ _ _ (hs x (by simp) v hv)));simp only[Instr.makeInterface,Sem.run_bind,run_und hE.T hd,Result.andThen_ok]
   split
   ·rename_i m;exact absurd rfl (hni.1 m)
   ·rfl
  ·cases h
 ·rename_i fn first captured ho
  simp only[ho,Op.operands] at hs⊢
  split at h
  ·rename_i l m hl hm;obtain⟨u,hu,rfl⟩:=pureV_spec h;cases hu;have e1:=avs_rel (ρ:=ρ) _ _ hl fun x hx=>hs x (by simp at hx⊢;exact .inl hx)
   have e2:=avs_rel (ρ:=ρ) _ _ hm fun x hx=>hs x (by simp at hx⊢;exact .inr hx)
   have q1:(first.toList.map ρ).toArray=first.map ρ:=by apply Array.ext';simp
   have q2:(captured.toList.map ρ).toArray=captured.map ρ:=by apply Array.ext';simp
   rw[q1] at e1;rw[q2] at e2;exact Sound.next (Sound.pure (v':=.func fn (first.map ρ) (captured.map ρ)) rfl (.func _ _ _ _ _ e1.1 e2.1 e1.2 e2.2))
  ·cases h
 ·rename_i t l c ho;simp only[ho,Op.operands] at hs⊢
  split at h
  ·rename_i a b ha hb;exact Sound.next (aMakeSlice_sound hE.T (memV_spec h) (hs l (by simp) a ha) (hs c (by simp) b hb))
  ·cases h
 ·rename_i t x lo hi mx ho;simp only[ho,Op.operands] at hs⊢
  split at h
  ·rename_i v l h' m hv hl hh hm;exact Sound.next (aSlice_sound hE.T (memV_spec h) (hs x (by simp) v hv) (avo_rel hl fun y e=>hs y (by subst e;simp)) (avo_rel hh fun y e=>hs y (by subst e;simp)) (avo_rel hm fun y e=>hs y (by subst e;simp)))
  ·cases h
 ·rename_i t x f ho;simp only[ho,Op.operands] at hs⊢
  split at h
  ·rename_i v hv;exact Sound.next (aFieldAddr_sound hE.T (memV_spec h) (hs x (by simp) v hv))
  ·cases h
 ·rename_i t x f ho;simp only[ho,Op.operands] at hs⊢
  split at h
  ·rename_i v hv;obtain⟨u,hu,rfl⟩:=pureV_spec h;exact Sound.next (aField_sound hE.T hu (hs x (by simp) v hv))
  ·cases h
 ·rename_i t x i ho;simp only[ho,Op.operands] at hs⊢
  split at h
  ·rename_i v u hv hu;exact Sound.next (aIndexAddr_sound hE.T (memV_spec h) (hs x (by simp) v hv) (hs i (by simp) u hu))
  ·cases h
 ·rename_i t x i ho;simp only[ho,Op.operands] at hs⊢
  split at h
  ·rename_i v u hv hu;obtain⟨u',hu',rfl⟩:=pureV_spec h;exact Sound.next (aIndex_sound hE.T hu' (hs x (by simp) v hv) (hs i (by simp) u hu))
  ·cases h
 ·rename_i t x ho;simp only[ho,Op.operands] at hs⊢
  split at h
  ·rename_i v hv;exact Sound.next (aRange_sound hE.T (memV_spec h) (hs x (by simp) v hv))
  ·cases h
 ·rename_i it isS ho;simp only[ho,Op.operands] at hs⊢
  split at h
  ·rename_i v hv;exact Sound.next (aNext_sound (memV_spec h) (hs it (by simp) v hv))
  ·cases h
 ·rename_i x i ho;simp only[ho,Op.operands] at hs⊢
  split at h
  ·rename_i v hv;obtain⟨u,hu,rfl⟩:=pureV_spec h;exact Sound.next (aExtract_sound hu (hs x (by simp) v hv))
  ·cases h
 ·rename_i c ho;simp only[ho,Op.operands,Call.operands] at hs⊢
  split at h
  ·rename_i args hargs;have ea:=avs_rel (ρ:=ρ) _ _ hargs fun x hx=>hs x (by simp at hx⊢;exact .inr hx)
   have q1:(c.args.toList.map ρ).toArray=c.args.map ρ:=by apply Array.ext';simp
   rw[q1] at ea
   split at h
   ·rename_i b hc;have hb:=aBuiltin_sound hE (w:=w) (memV_spec h) ea;have e:(do let d←resolve ρ c o.type;invoke d.target d.args:Sem Next)=builtin b c.argTypes o.type (c.args.map fun| .const _=>true|_=>false) (c.args.map ρ):=by
     simp only[resolve,hc];rfl
    rw[e];exact hb
   ·rename_i f hc
    split at h
    ·rename_i g first captured hf
     split at h
     ·cases h
     ·obtain⟨u,hu,rfl⟩:=pureV_spec h;have ef:=hs f (by simp[hc]) _ hf;generalize hrf:ρ f=rf at ef;cases ef with
      |func _ _ a' _ b' h1 h2 h3 h4=>
       have hcat:AR D ι (first.toList++args++captured.toList).toArray (a'++c.args.map ρ++b'):=AR.catN ⟨by simpa using h1,by simpa using h3⟩ ea ⟨by simpa using h2,by simpa using h4⟩;obtain⟨u',x1,x2⟩:=hE.ext _ _ _ hu D ι _ w hcat;refine SoundN.value (v':=u') ?_ x1;rw[call_resolve hc hrf];exact x2
    ·cases h
   ·cases h
  ·cases h
 ·cases h
theorem aOp_enter {o:Oper} {f:FuncId} {args:List Value} (h:aOp P E s σ o=some (.enter f args)) (hs:∀x,x∈o.op.operands→Rel E.G D ι s ρ x):
  ∃args' fn,AR D ι args.toArray args'∧E.fn f=some fn∧(execOp ρ o).run P w=.ok (.enter f args') w:=by
 unfold aOp at h;unfold execOp;simp only[Bool.cond_eq_ite] at h
 split at h
 case h_25 c ho=>
  simp only[ho,Op.operands,Call.operands] at hs⊢
  split at h
  ·rename_i as hargs;have ea:=avs_rel (ρ:=ρ) _ _ hargs fun x hx=>hs x (by simp at hx⊢;exact .inr hx)
   have q1:(c.args.toList.map ρ).toArray=c.args.map ρ:=by apply Array.ext';simp
   rw[q1] at ea
   split at h
   ·exact absurd h memV_enter
   ·rename_i g hc
    split at h
    ·rename_i g' first captured hf
     split at h
     ·rename_i fn hfn;cases h;have ef:=hs g (by simp[hc]) _ hf;generalize hrf:ρ g=rf at ef;cases ef with
      |func _ _ a' _ b' h1 h2 h3 h4=>
       refine⟨_,fn,AR.catN ⟨by simpa using h1,by simpa using h3⟩ ea ⟨by simpa using h2,by simpa using h4⟩,hfn,?_⟩;rw[call_resolve hc hrf];obtain⟨y1,y2,y3⟩:=hE.fn _ _ hfn;have y4:fn.body.isNone=false:=by cases hb:fn.body<;>simp_all
       simp only[callFunc,Sem.run_bind,run_program,Result.andThen_ok,y1,y3,Bool.false_eq_true,if_false,y4,Sem.run_pure]
     ·exact absurd h pureV_enter
    ·cases h
   ·cases h
  ·cases h
 all_goals (repeat' split at h)<;>first|exact absurd h pureV_enter|exact absurd h memV_enter|cases h
omit hE
end
end Go.Eng
end
end
end
