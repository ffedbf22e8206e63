/-
  The engine, part 10: an abstract evaluator over the model's code, proved sound. No condition.
-/
import Derived.Test.YtikedhemjoljpaaGreatDoorEng8
import Derived.Test.YtikedhemjoljpaaGreatDoorEng9
import Derived.Test.YtikedhemjoljpaaGreatDoorEng7
section
noncomputable section
noncomputable section
namespace Go.Eng
open Go
def glHeap:List (Nat×List Value)→Tr AO
 |[]=>.lf
 |p::ps=>(glHeap ps).set p.1 (some (.row p.2 0 true))
theorem glHeap_get:∀{gl:List (Nat×List Value)} {id:Nat} {o:AO},(glHeap gl).get id=some o→∃p,p∈gl∧p.1=id∧o=.row p.2 0 true
 |[],_,_,h=>by rw[glHeap,Tr.get_lf] at h;cases h
 |p::ps,id,o,h=>by
  rw[glHeap,Tr.set_get] at h;by_cases e:id=p.1
  ·rw[if_pos e] at h;cases h;exact⟨p,by simp,e.symm,rfl⟩
  ·rw[if_neg e] at h;obtain⟨q,h1,h2,h3⟩:=glHeap_get h;exact⟨q,by simp[h1],h2,h3⟩
def glStO (E:Env) (ora:List Nat):St:=⟨glHeap E.gl,E.G,[],ora⟩
def glSt (E:Env):St:=⟨glHeap E.gl,E.G,[],[]⟩
def glReg (w:World) (id:Nat):Reg:=rg id 0 (match w.heap[id]? with|some (.cells c _ _)=>c.size|_=>0) 0
theorem gl_room {gl:List (Nat×List Value)} {w:World} (hw:GlW gl w) {g:Nat} (p:Nat×List Value) (hp:p∈gl) (e:p.1=g):(glReg w g).room=p.2.length:=by
 obtain⟨c,t,fr,h1,h2⟩:=hw.2 p hp;subst e;simp only[glReg,h1,rg];exact h2
theorem gl_row {w:World} {p:Nat×List Value} (h:∀(i:Nat) c,p.2[i]?=some c→∃u,w.cell? ⟨p.1,i,none⟩=some u∧glR c u) (h0:p.2≠[]):∃c e fr,w.heap[p.1]?=some (.cells c e fr)∧p.2.length≤c.size:=by
 obtain⟨v,hv⟩:∃v,p.2[p.2.length-1]?=some v:=by
  have:p.2.length-1<p.2.length:=by
   have:=List.length_pos_iff.2 h0;omega
  exact⟨_,List.getElem?_eq_getElem this⟩
 obtain⟨u,hc, -⟩:=h _ v hv;simp only[World.cell?] at hc
 split at hc
 ·rename_i c e fr hh;refine⟨c,e,fr,hh,?_⟩;simp only[Option.isSome_none,Bool.false_eq_true,if_false] at hc;rcases Nat.lt_or_ge (p.2.length-1) c.size with h|h
  ·omega
  ·rw[Array.getElem?_eq_none h] at hc;cases hc
 ·cases hc
theorem run_of_g {P:Program} {E:Env} (hE:E.OK P) (hne:∀p,p∈E.gl→p.2≠[]) {n:Nat} {f:FuncId} {args:List Value} {args':Array Value} {ora:List Nat} {v:Value} {σ':St} {φ:Foot} (hr:kRun P E n f args (glStO E ora)=some (v,σ',φ)) (hok:σ'.Ok) (hv:plainN 8 v=true) (ha:∀(D:Nat→Prop) (ι:Nat→Reg),AR D ι args.toArray args')
  (w:World) (hw:GlW E.gl w):Calls P f args' w fun e w'=>e=.returned v∧Same w w':=by
 rw[kRun_eq] at hr;obtain⟨-, -,h3⟩:=(evCall_sound hE n).ok _ _ _ _ _ _ hr;have hwf:(glStO E ora).wf:=by
  intro id hid;cases hg:(glHeap E.gl).get id with
  |none=>exact hg
  |some o=>
   obtain⟨p,h1,h2,_⟩:=glHeap_get hg;have:=(hE.gl p h1).1;have hid:E.G≤id:=hid;omega
 have hro:∀id x,(glStO E ora).H.hdr id=some x→∃p,p∈E.gl∧p.1=id∧(glStO E ora).heap.get id=some (.row p.2 0 true)∧x=.row p.2.length 0 true:=by
  intro id x hx;cases hg:(glHeap E.gl).get id with
  |none=>
   have:(glStO E ora).H.hdr id=none:=by simp[St.H,glStO,hg]
   rw[this] at hx;cases hx
  |some o=>
   obtain⟨p,h1,h2,rfl⟩:=glHeap_get hg;have:(glStO E ora).H.hdr id=some (.row p.2.length 0 true):=St.hdr_of (σ:=glSt E) hg;rw[this] at hx;cases hx;exact⟨p,h1,h2,hg,rfl⟩
 have hnw:∀id,¬Wr (glStO E ora).H id:=by
  rintro id ⟨x,hx,hxw⟩;obtain⟨p,_,_,_,rfl⟩:=hro id x hx;cases hxw
 have key:=h3 hok (fun id=>id<E.G) (glReg w) w args' hwf (fun g hg=>⟨hg,rfl,rfl,gl_room hw⟩) (fun id hid h=>by simp only[St.rng,glStO] at hid;omega)
  (ha _ _)
  ⟨fun id x _ hx=>by
   obtain⟨p,h1,rfl,h2,rfl⟩:=hro id x hx;obtain⟨c,e,fr,g1,g2⟩:=gl_row (hw.1 p h1) (hne p h1);refine⟨c,e,fr,g1,?_,?_,⟨rfl,rg_fz _ _ _ _⟩,fun h=>by cases h⟩
   ·simp[glReg,g1]
   ·simpa[glReg,g1] using g2,
  fun id k u _ hl hu=>by
   obtain⟨x,hx⟩:=hl;obtain⟨p,h1,rfl,h2,rfl⟩:=hro id x hx;rw[St.cell_of h2] at hu;obtain⟨u',g1,g2⟩:=hw.1 p h1 k u hu;refine⟨rfl,u',?_,g2.vr⟩;exact .inl (by simpa[glReg] using g1),
  fun i j _ _ _ _ hij b hi=>⟨fun hj=>hij (hi.2.trans hj.2.symm),rg_fz _ _ _ _ b⟩⟩
 refine key.mono fun e w' ⟨v',ι',he,hvr,hp⟩=> ?_
 refine⟨by rw[he,plain_eq 8 v v' hv hvr],hp.size,hp.os,hp.out,fun b hb=> ?_⟩;exact(hp.cfr b hb fun id _ hid=>absurd hid (hnw id)).eq fun k ⟨id,_,_,hid,_⟩=>hnw id hid
theorem run_of {P:Program} {E:Env} (hE:E.OK P) (hne:∀p,p∈E.gl→p.2≠[]) {n:Nat} {f:FuncId} {args:List Value} {v:Value} {σ':St} {φ:Foot} (hr:kRun P E n f args (glSt E)=some (v,σ',φ)) (hok:σ'.Ok) (hv:plainN 8 v=true) (ha:args.all (plainN 8)=true)
  (w:World) (hw:GlW E.gl w):Calls P f args.toArray w fun e w'=>e=.returned v∧Same w w':=
 run_of_g (ora:=[]) hE hne hr hok hv (fun _ _=>⟨rfl,fun i a b h1 h2=>by
   rw[h1] at h2;cases h2;exact plain_refl 8 a (List.all_eq_true.1 ha a (List.mem_of_getElem? (by simpa using h1)))⟩) w hw
def kTrue (P:Program) (E:Env) (n:Nat) (f:FuncId) (args:List Value):Bool:=
 match kRun P E n f args (glSt E) with
 |some (.bool true,σ',_)=>match σ'.pc with
  |[]=>true
  |_=>false
 |_=>false
theorem true_of {P:Program} {E:Env} (hE:E.OK P) (hne:∀p,p∈E.gl→p.2≠[]) {n:Nat} {f:FuncId} {args:List Value} (hr:kTrue P E n f args=true) (ha:args.all (plainN 8)=true)
  (w:World) (hw:GlW E.gl w):Calls P f args.toArray w fun e w'=>e=.returned (.bool true)∧Same w w':=by
 unfold kTrue at hr
 split at hr
 ·rename_i σ' φ h
  split at hr
  ·rename_i hpc;exact run_of hE hne h (by unfold St.Ok;rw[hpc];trivial) rfl ha w hw
  ·cases hr
 ·cases hr
def kTrueS (P:Program) (E:Env) (n:Nat) (ora:List Nat) (f:FuncId) (args:List Value):Option (List Bool):=
 match kRun P E n f args (glStO E ora) with
 |some (.bool true,σ',_)=>some σ'.pc
 |_=>none
theorem true_of_s {P:Program} {E:Env} (hE:E.OK P) (hne:∀p,p∈E.gl→p.2≠[]) {n:Nat} {ora:List Nat} {f:FuncId} {args:List Value} {args':Array Value} {pc:List Bool} (hr:kTrueS P E n ora f args=some pc) (hpc:AllP pc) (ha:∀(D:Nat→Prop) (ι:Nat→Reg),AR D ι args.toArray args')
  (w:World) (hw:GlW E.gl w):Calls P f args' w fun e w'=>e=.returned (.bool true)∧Same w w':=by
 unfold kTrueS at hr
 split at hr
 ·rename_i σ' φ h;cases hr;exact run_of_g hE hne h hpc rfl ha w hw
 ·cases hr
end Go.Eng
end
end
end
section
noncomputable section
noncomputable section
namespace Go.Eng
open Go
section
variable {P:Program} {D N K:Nat→Prop} {ι ι1:Nat→Reg} {h h' g g1:H} {w w1:World} {φ φ1:Foot}
theorem HOn.part (ho:HOn P D ι h φ w) (hs:∀id x,g.hdr id=some x→h.hdr id=some x∧(∀k,h.cell id k=g.cell id k)∧∀k,φ.Fc id k) (ψ:Foot):HOn P D ι g ψ w where
 hd:=fun id x _ e=>ho.hd id x ((hs id x e).2.2 0).fi (hs id x e).1
 ce:=fun id k v _ l e=>by
  obtain⟨x,hx⟩:=l;exact ho.ce id k v ((hs id x hx).2.2 k) ⟨x,(hs id x hx).1⟩ (((hs id x hx).2.1 k).trans e)
 inj:=fun i j _ _ wi lj hij=>by
  obtain⟨x,hx,hw⟩:=wi;obtain⟨y,hy⟩:=lj;exact ho.inj i j ((hs i x hx).2.2 0).fi ((hs j y hy).2.2 0).fi ⟨x,(hs i x hx).1,hw⟩ ⟨y,(hs j y hy).1⟩ hij
theorem Post.lift (p:Post P D N ι g w φ1 ι1 g1 w1) (ho:HOn P D ι h φ w) (hDN:∀id,N id→¬D id)
  (hs:∀id x,g.hdr id=some x→h.hdr id=some x∧(∀k,h.cell id k=g.cell id k)∧∀k,φ.Fc id k)
  (hw:∀id k,φ1.Wc id k→¬N id→φ.Wi id) (hc:∀id k,φ.Wc id k→φ.Wi id) (hk:∀id,φ.Wi id→K id∧Lv g id)
  (kn:∀id,K id→N id∨φ.Wi id) (k1:∀id,K id→h'.hdr id=g1.hdr id∧∀k,h'.cell id k=g1.cell id k)
  (k2:∀id,¬K id→¬N id→h'.hdr id=h.hdr id∧∀k,h'.cell id k=h.cell id k) (k3:∀id,¬K id→N id→h'.hdr id=none) (nl:∀id,N id→h.hdr id=none):
  Post P D N ι h w φ ι1 h' w1:=by
 have lvK:∀id,N id→Lv h' id→K id:=fun id hn ⟨x,hx⟩=>Classical.byContradiction fun hk=>by rw[k3 id hk hn] at hx;cases hx
 have sWr:∀id,Wr g id→Wr h id:=fun id ⟨x,hx,hw⟩=>⟨x,(hs id x hx).1,hw⟩
 have sLv:∀id,Lv g id→Lv h id:=fun id ⟨x,hx⟩=>⟨x,(hs id x hx).1⟩
 have toLv:∀id,K id→Lv h' id→Lv g1 id:=fun id hk ⟨x,hx⟩=>⟨x,by rw[←(k1 id hk).1];exact hx⟩
 have toWr:∀id,K id→Wr h' id→Wr g1 id:=fun id hk ⟨x,hx,hw⟩=>⟨x,by rw[←(k1 id hk).1];exact hx,hw⟩
 have wi:∀id,φ1.Wi id→¬N id→φ.Wi id:=fun id hx hn=>hw id 0 (hx.wc 0) hn
 have gone:∀b,(∃k,φ1.Wi k∧¬N k∧Wr g k∧¬Lv g1 k∧(ι k).Own b)→∃k,φ.Wi k∧¬N k∧Wr h k∧¬Lv h' k∧(ι k).Own b:=by
  rintro b ⟨k,a1,a2,a3,a4,a5⟩;have hwi:=wi k a1 a2;exact⟨k,hwi,a2,sWr k a3,fun hl=>a4 (toLv k (hk k hwi).1 hl),a5⟩
 exact {
  io:=p.io
  size:=p.size
  os:=p.os
  out:=p.out
  hdr:=fun id x hx e=>by
   by_cases hn:N id
   ·have hK:=lvK id hn ⟨x,e⟩;exact p.hdr id x (.inr hn) (by rw[←(k1 id hK).1];exact e)
   ·have hwi:=hx.resolve_right hn;have e':g1.hdr id=some x:=by rw[←(k1 id (hk id hwi).1).1];exact e
    exact(p.hon (ψ:=⟨[],[id],[],[]⟩) (ho.part hs _) hDN).hd id x (.inr (.inl (by simp))) e'
  cel:=fun id k v hx l e=>by
   by_cases hn:N id
   ·have hK:=lvK id hn l;exact p.cel id k v (.inr hn) (toLv id hK l) (by rw[←(k1 id hK).2 k];exact e)
   ·have hwi:=hc id k (hx.resolve_right hn);have hK:=(hk id hwi).1;exact(p.hon (ψ:=⟨[],[id],[],[]⟩) (ho.part hs _) hDN).ce id k v (.inr (.inl (by simp))) (toLv id hK l) (by rw[←(k1 id hK).2 k];exact e)
  ahdr:=fun id hn hx=>(k2 id (fun hK=>(kn id hK).elim hn hx) hn).1
  acel:=fun id k hn hx=>(k2 id (fun hK=>(kn id hK).elim hn fun h=>hx (h.wc k)) hn).2 k
  cfr:=fun b hb hx=>by
   refine(p.cfr b hb fun id h1 h2 h3=> ?_).mono ?_
   ·by_cases hn:N id
    ·obtain⟨x,hx,_⟩:=h2;rw[p.nl id hn] at hx;cases hx
    ·exact hx id (wi id h1 hn) (sWr id h2) h3
   ·rintro o ⟨id,k,a1,a2,a3,a4⟩;by_cases hn:N id
    ·obtain⟨x,hx,_⟩:=a2;rw[p.nl id hn] at hx;cases hx
    ·exact⟨id,k,(hw id k a1 hn).wc k,sWr id a2,a3,a4⟩
  fresh:=fun id hn l b hb=>(p.fresh id hn (toLv id (lvK id hn l) l) b hb).imp_right (gone b)
  freshF:=fun id hn l b hb=>by
   rcases p.freshF id hn (toLv id (lvK id hn l) l) b hb with a|a|⟨k,a1,a2,⟨x,a3⟩,a4⟩
   ·exact .inl a
   ·exact .inr (.inl (gone b a))
   ·exact .inr (.inr ⟨k,((hs k x a3).2.2 0).fi,a2,⟨x,(hs k x a3).1⟩,a4⟩)
  dist:=fun i j ni nj wri lj hij=>p.dist i j ni nj (toWr i (lvK i ni wri.lv) wri) (toLv j (lvK j nj lj) lj) hij
  nl:=nl
  wl:=fun id k hx hn=>sLv id (hk id (hc id k hx)).2
  wrm:=fun id hn hx=>by
   by_cases hK:K id
   ·exact sWr id (p.wrm id hn (toWr id hK hx))
   ·exact hx.of_hdr (k2 id hK hn).1
  wrow:=fun id k hx hn=>absurd (hc id k hx) hn}
end
def okV (p:Nat→Bool):Nat→Value→Bool
 |0,_=>false
 |n+1,v=>match v with
  | .bool _| .int .. | .float .. | .complex .. | .string _| .pointer none| .slice none _ _| .map none| .chan _| .nilFunc| .nilIface=>true
  | .pointer (some a)=>p a.block
  | .slice (some a) _ _=>p a.block
  | .map (some i)=>p i
  | .iface _ v=>okV p n v
  | .agg cs=>cs.toList.all (okV p n)
  | .tuple cs=>cs.toList.all (okV p n)
  | .func _ as cs=>as.toList.all (okV p n)&&cs.toList.all (okV p n)
def okO (p:Nat→Bool):AO→Bool
 | .row cs _ _=>cs.all (okV p 9)
 | .iter _ _=>true
 | .mp es _=>es.all fun q=>okV p 9 q.1&&okV p 9 q.2
 |_=>false
theorem okV_vr {p:Nat→Bool} {D:Nat→Prop} {ι:Nat→Reg}:∀(n:Nat) {v v':Value},okV p n v=true→VR D ι v v'→VR (fun i=>D i∧p i=true) ι v v':=by
 intro n
 induction n with
 |zero=>intro v v' h;cases h
 |succ n ih=>
  intro v v' h hv;have arr:∀(as bs:Array Value),as.toList.all (okV p n)=true→(∀(i:Nat) v v',as[i]?=some v→bs[i]?=some v'→VR D ι v v')→∀(i:Nat) v v',as[i]?=some v→bs[i]?=some v'→VR (fun i=>D i∧p i=true) ι v v':=
   fun as bs ha hh i a b e e'=>ih (List.all_eq_true.1 ha a (List.mem_of_getElem? (by simpa using e))) (hh i a b e e')
  cases hv with
  |junk=>exact .junk _
  |sym _ hs=>exact .sym _ hs
  |err b _ hb=>exact .err b _ hb
  |aint k n=>exact .aint k n
  |dat id a l c hd e=>
   have:=List.all_eq_true.1 h (.pointer (some ⟨id,0,none⟩)) (by simp);refine .dat id a l c ⟨hd,?_⟩ e;cases n with
   |zero=>cases this
   |succ n=>exact this
  |pfx id m a l c hd e h1=>
   have:=List.all_eq_true.1 h (.slice (some ⟨id,0,none⟩) m 0) (by simp);refine .pfx id m a l c ⟨hd,?_⟩ e h1;cases n with
   |zero=>cases this
   |succ n=>exact this
  |pel id i j b o l c hd e=>exact .pel id i j b o l c ⟨hd,h⟩ e
  |bool b=>exact .bool b
  |int k n=>exact .int k n
  |float k n=>exact .float k n
  |complex k a b=>exact .complex k a b
  |string s=>exact .string s
  |ptrN=>exact .ptrN
  |ptr id off hd=>exact .ptr id off ⟨hd,h⟩
  |slN l c=>exact .slN l c
  |slK id off l c hd hc=>exact .slK id off l c ⟨hd,h⟩ hc
  |slU id off l c hd h1 h2=>exact .slU id off l c ⟨hd,h⟩ h1 h2
  |slE id off o' c hd h1 h2=>exact .slE id off o' c ⟨hd,h⟩ h1 h2
  |mapN=>exact .mapN
  |mapP id hd=>exact .mapP id ⟨hd,h⟩
  |chanN=>exact .chanN
  |nilFunc=>exact .nilFunc
  |nilIface=>exact .nilIface
  |iface t v v' hv=>exact .iface t v v' (ih h hv)
  |agg as bs hs hh=>exact .agg as bs hs (arr as bs h hh)
  |tuple as bs hs hh=>exact .tuple as bs hs (arr as bs h hh)
  |func fn as bs cs ds hs hs' hh hh'=>
   have h:(as.toList.all (okV p n)&&cs.toList.all (okV p n))=true:=h;rw[Bool.and_eq_true] at h;exact .func fn as bs cs ds hs hs' (arr as bs h.1 hh) (arr cs ds h.2 hh')
theorem okO_cell {p:Nat→Bool} {o:AO} {k:Nat} {v:Value} (h:okO p o=true) (hv:cellOf (some o) k=some v):okV p 11 v=true:=by
 have up:∀(n:Nat) (v:Value),okV p n v=true→okV p (n+1) v=true:=by
  intro n
  induction n with
  |zero=>intro v h;cases h
  |succ n ih=>
   intro v h;have arr:∀as:Array Value,as.toList.all (okV p n)=true→as.toList.all (okV p (n+1))=true:=fun as ha=>List.all_eq_true.2 fun a hm=>ih a (List.all_eq_true.1 ha a hm)
   cases v<;>first|exact h|skip
   case iface t v=>exact ih v h
   case agg as=>exact arr as h
   case tuple as=>exact arr as h
   case func fn as cs=>
    have h:(as.toList.all (okV p n)&&cs.toList.all (okV p n))=true:=h;rw[Bool.and_eq_true] at h;show(as.toList.all (okV p (n+1))&&cs.toList.all (okV p (n+1)))=true;rw[arr as h.1,arr cs h.2];rfl
   case pointer a=>cases a<;>exact h
   case slice a l c=>cases a<;>exact h
   case map i=>cases i<;>exact h
 cases o with
 |row cs e ro=>exact up 10 _ (up 9 _ (List.all_eq_true.1 h v (List.mem_of_getElem? hv)))
 |mp es ex=>
  obtain⟨a,ha,rfl⟩:=Option.map_eq_some_iff.1 hv;have:=List.all_eq_true.1 h a (List.mem_of_getElem? ha);rw[Bool.and_eq_true] at this;show [a.1,a.2].all (okV p 10)=true;simp only[List.all_cons,List.all_nil,up 9 _ this.1,up 9 _ this.2,Bool.and_self]
 |_=>cases hv
section
variable {P:Program} {D N:Nat→Prop} {ι ι1:Nat→Reg} {h h':H} {w w1:World} {φ:Foot} {p:Nat→Bool}
theorem HOn.only (ho:HOn P D ι h φ w) (hp:∀id k v,φ.Fc id k→Lv h id→h.cell id k=some v→okV p 11 v=true):HOn P (fun i=>D i∧p i=true) ι h φ w:=
 ⟨ho.hd,fun id k v f l e=>by
  obtain⟨a,v',b,c⟩:=ho.ce id k v f l e;exact⟨a,v',b,okV_vr 11 (hp id k v f l e) c⟩,ho.inj⟩
theorem Post.shut {N':Nat→Prop} (q:Post P (fun i=>D i∧p i=true) N ι h w φ ι1 h' w1) (hN':∀i,¬N' i) (hpN:∀i,p i=true→¬N i) (hN:∀id,N id→h'.hdr id=none∧h'.hdr id=h.hdr id∧∀k,h'.cell id k=h.cell id k) (hW:∀id k,φ.Wc id k→¬N id)
  (hv:∀id k v,φ.Wc id k→h'.cell id k=some v→okV p 11 v=true):Post P D N' ι h w φ ι h' w1 where
 io:=fun _ _=>rfl
 size:=q.size
 os:=q.os
 out:=q.out
 hdr:=fun id x hx e=>by
  have hx:=hx.resolve_right (hN' id);exact(q.hdr id x (.inl hx) e).as (q.io id (hW id 0 (hx.wc 0))).symm
 cel:=fun id k v hx l e=>by
  have hx:=hx.resolve_right (hN' id);obtain⟨a,v',b,c⟩:=q.cel id k v (.inl hx) l e;have hi:=q.io id (hW id k hx);rw[hi] at a b;refine⟨a,v',b,?_⟩;have c':=okV_vr 11 (hv id k v hx e) c;refine c'.mono (fun i hi=> ?_) fun i hi=>(q.io i (hpN i hi.2)).symm
  rcases hi.1 with h1|h1
  ·exact .inl h1.1
  ·exact absurd h1 (hpN i hi.2)
 ahdr:=fun id _ hx=>by
  by_cases hn:N id
  ·exact(hN id hn).2.1
  ·exact q.ahdr id hn hx
 acel:=fun id k _ hx=>by
  by_cases hn:N id
  ·exact(hN id hn).2.2 k
  ·exact q.acel id k hn hx
 cfr:=q.cfr
 fresh:=fun id hn=>absurd hn (hN' id)
 freshF:=fun id hn=>absurd hn (hN' id)
 dist:=fun i _ hn=>absurd hn (hN' i)
 nl:=fun id hn=>absurd hn (hN' id)
 wl:=fun id k hx _=>q.wl id k hx (hW id k hx)
 wrm:=fun id _ hx=>by
  by_cases hn:N id
  ·obtain⟨x,e,_⟩:=hx;rw[(hN id hn).1] at e;cases e
  ·exact q.wrm id hn hx
 wrow:=fun id k hx hx2 _=>q.wrow id k hx hx2 (hW id k hx)
end
def setT:List (Nat×AO)→Tr AO→Tr AO
 |[],t=>t
 |p::l,t=>(setT l t).set p.1 (some p.2)
def lk {α:Type}:List (Nat×α)→Nat→Option α
 |[],_=>none
 |p::l,j=>bif Nat.beq j p.1 then some p.2 else lk l j
theorem setT_get:∀(l:List (Nat×AO)) (t:Tr AO) (j:Nat),(setT l t).get j=(match lk l j with|some o=>some o|none=>t.get j)
 |[],_,_=>rfl
 |p::l,t,j=>by
  simp only[setT,lk,Tr.set_get,setT_get l t j];by_cases e:j=p.1
  ·rw[if_pos e,beq_t e];rfl
  ·rw[if_neg e,beq_f e];rfl
theorem lk_mem {α:Type}:∀{l:List (Nat×α)} {j:Nat} {o:α},lk l j=some o→(j,o)∈l
 |p::l,j,o,h=>by
  simp only[lk] at h;by_cases e:j=p.1
  ·rw[beq_t e] at h;cases h;subst e;exact List.mem_cons_self ..
  ·rw[beq_f e] at h;exact List.mem_cons_of_mem _ (lk_mem h)
def setC:List (Nat×Option AO)→Tr AO→Tr AO
 |[],t=>t
 |p::l,t=>(setC l t).set p.1 p.2
theorem setC_get:∀(l:List (Nat×Option AO)) (t:Tr AO) (j:Nat),(setC l t).get j=(match lk l j with|some o=>o|none=>t.get j)
 |[],_,_=>rfl
 |p::l,t,j=>by
  simp only[setC,lk,Tr.set_get,setC_get l t j];by_cases e:j=p.1
  ·rw[if_pos e,beq_t e];rfl
  ·rw[if_neg e,beq_f e];rfl
structure Ent where
 f:FuncId
 a:List Value
 n0:Nat
 pre:List (Nat×AO)
 v:Value
 ch:List (Nat×Option AO)
 n1:Nat
 wr:List Nat
 keep:Bool
def Ent.s0 (e:Ent):St:=⟨setT e.pre .lf,e.n0,[],[]⟩
def isIn (l:List Nat) (i:Nat):Bool:=l.any (Nat.beq i)
theorem isIn_mem {l:List Nat} {i:Nat} (h:isIn l i=true):i∈l:=by
 obtain⟨x,hx,hb⟩:=List.any_eq_true.1 h;rw[Nat.eq_of_beq_eq_true hb];exact hx
def Ent.foot (e:Ent) (φ:Foot):Bool:=φ.wc.all (fun p=>isIn e.wr p.1||Nat.ble e.n0 p.1)&&φ.wh.all fun i=>isIn e.wr i||Nat.ble e.n0 i
def okQ (p:Nat→Bool):Option AO→Bool
 |some o=>okO p o
 |none=>true
def Ent.old (e:Ent) (i:Nat):Bool:=Nat.blt i e.n0
def Ent.shut (e:Ent):Bool:=bif e.keep then true else e.a.all (okV e.old 9)&&(e.pre.all (fun q=>okO e.old q.2)&&(okV e.old 9 e.v&&e.ch.all fun q=>isIn e.wr q.1&&okQ e.old q.2))
def Ent.ok (e:Ent):Bool:=
 e.pre.all (fun p=>Nat.blt p.1 e.n0)&&(e.ch.all (fun p=>(Nat.ble e.n0 p.1&&Nat.blt p.1 e.n1)||isIn e.wr p.1)&&(e.wr.all (fun i=>(lk e.pre i).isSome&&(lk e.ch i).isSome)&&Nat.ble e.n0 e.n1))
def Ent.hit (e:Ent) (f:FuncId) (args:List Value) (σ:St):Bool:=
 bif Nat.beq e.f f&&(bif e.keep then Nat.beq e.n0 σ.next else Nat.ble e.n0 σ.next) then eqL (eqV 9) args e.a&&e.pre.all (fun p=>match σ.heap.get p.1 with|some o=>eqO o p.2|none=>false) else false
def Ent.res (e:Ent) (σ:St):Value×St×Foot:=(e.v,⟨setC e.ch σ.heap,bif e.keep then e.n1 else σ.next,σ.pc,σ.ora⟩,⟨[],e.pre.map Prod.fst,[],e.wr⟩)
def tabF:List Ent→FuncId→List Value→St→Option (Value×St×Foot)
 |[],_,_,_=>none
 |e::l,f,args,σ=>bif e.hit f args σ then some (e.res σ) else tabF l f args σ
def eqQ:Option AO→Option AO→Bool
 |some a,some b=>eqO a b
 |none,none=>true
 |_,_=>false
theorem eqQ_eq {a b:Option AO} (h:eqQ a b=true):a=b:=by
 cases a<;>cases b<;>simp only[eqQ] at h<;>first|rfl|(cases h;done)|rw[eqO_eq h]
def Ent.good (e:Ent) (r:Option (Value×St×Foot)):Bool:=
 match r with
 |some (v,σ,φ)=>eqV 9 v e.v&&(e.ch.all (fun p=>eqQ (σ.heap.get p.1) p.2)&&(Nat.beq σ.next e.n1&&(σ.pc.isEmpty&&e.foot φ)))
 |none=>false
structure EntF (P:Program) (E:Env) (e:Ent) (n:Nat) (v:Value) (σ1:St) (φ1:Foot):Prop where
 run:evCall P E n e.f e.a e.s0=some (v,σ1,φ1)
 v:v=e.v
 ch:∀i o,lk e.ch i=some o→σ1.heap.get i=o
 n1:σ1.next=e.n1
 pc:σ1.pc=[]
 fo:e.foot φ1=true
theorem Ent.good_facts {P:Program} {E:Env} {n:Nat} {e:Ent} (hr:e.good (kRun P E n e.f e.a e.s0)=true):∃v σ1 φ1,EntF P E e n v σ1 φ1:=by
 rw[kRun_eq] at hr;unfold Ent.good at hr
 split at hr
 ·rename_i v σ φ h;simp only[Bool.and_eq_true] at hr;refine⟨v,σ,φ,h,eqV_eq 9 _ _ hr.1,fun i o hl=> ?_,Nat.eq_of_beq_eq_true hr.2.2.1,by simpa using hr.2.2.2.1,hr.2.2.2.2⟩;exact eqQ_eq (List.all_eq_true.1 hr.2.1 _ (lk_mem hl))
 ·cases hr
structure EntO (e:Ent):Prop where
 o1:∀i o,lk e.pre i=some o→i<e.n0
 o2:∀i o,lk e.ch i=some o→(e.n0≤i∧i<e.n1)∨i∈e.wr
 o3:∀i,i∈e.wr→(∃o,lk e.pre i=some o)∧∃o,lk e.ch i=some o
 o4:e.n0≤e.n1
theorem Ent.ok_facts {e:Ent} (hok:e.ok=true):EntO e:=by
 simp only[Ent.ok,Bool.and_eq_true] at hok;obtain⟨o1,o2,o3,o4⟩:=hok;refine⟨fun i o h=> ?_,fun i o h=> ?_,fun i h=> ?_,Nat.le_of_ble_eq_true o4⟩
 ·have:=List.all_eq_true.1 o1 _ (lk_mem h);simpa using this
 ·have:=List.all_eq_true.1 o2 _ (lk_mem h);simp only[Bool.or_eq_true,Bool.and_eq_true] at this;exact this.imp (fun h=>⟨Nat.le_of_ble_eq_true h.1,by simpa using h.2⟩) isIn_mem
 ·have:=List.all_eq_true.1 o3 _ h;rw[Bool.and_eq_true] at this;exact⟨Option.isSome_iff_exists.1 this.1,Option.isSome_iff_exists.1 this.2⟩
structure EntH (e:Ent) (f:FuncId) (args:List Value) (σ:St):Prop where
 f:e.f=f
 n:e.n0≤σ.next
 k:e.keep=true→e.n0=σ.next
 a:args=e.a
 pre:∀i o,lk e.pre i=some o→σ.heap.get i=some o
theorem Ent.hit_facts {e:Ent} {f:FuncId} {args:List Value} {σ:St} (hh:e.hit f args σ=true):EntH e f args σ:=by
 unfold Ent.hit at hh;cases hb:(Nat.beq e.f f&&(bif e.keep then Nat.beq e.n0 σ.next else Nat.ble e.n0 σ.next))
 ·rw[hb] at hh;cases hh
 rw[hb,cond_true,Bool.and_eq_true] at hh;rw[Bool.and_eq_true] at hb;have hn:e.n0≤σ.next∧(e.keep=true→e.n0=σ.next):=by
  have h2:=hb.2;cases hk:e.keep with
  |true=>
   rw[hk,cond_true] at h2;have:=Nat.eq_of_beq_eq_true h2;exact⟨Nat.le_of_eq this,fun _=>this⟩
  |false=>
   rw[hk,cond_false] at h2;exact⟨Nat.le_of_ble_eq_true h2,fun h=>by cases h⟩
 refine⟨Nat.eq_of_beq_eq_true hb.1,hn.1,hn.2,eqL_eq (eqV_eq 9) hh.1,fun i o h=> ?_⟩;have:=List.all_eq_true.1 hh.2 _ (lk_mem h);simp only at this
 split at this
 ·rename_i o' ho';rw[ho',eqO_eq this]
 ·cases this
theorem Ent.res_get (e:Ent) (σ:St) (i:Nat):(e.res σ).2.1.heap.get i=(match lk e.ch i with|some o=>o|none=>σ.heap.get i):=setC_get _ _ _
theorem Ent.core {P:Program} {E:Env} (hE:E.OK P) {n:Nat} {e:Ent} {v0:Value} {σ1:St} {φ1:Foot} (F:EntF P E e n v0 σ1 φ1) (O:EntO e) {f:FuncId} {args:List Value} {σ:St} (hH:EntH e f args σ) (hn:e.n0=σ.next) (hwf:σ.wf)
  {D:Nat→Prop} {ι:Nat→Reg} {w:World} {args':Array Value} (hGI:GI E D ι) (hD:∀id,e.n0≤id→id<e.n1→¬D id) (hargs:AR D ι args.toArray args') (ho:HOn P D ι σ.H (e.res σ).2.2 w):
  Calls P f args' w fun en w'=>∃v' ι',en=.returned v'∧VR (fun i=>D i∨(e.n0≤i∧i<e.n1)) ι' e.v v'∧Post P D (fun i=>e.n0≤i∧i<e.n1) ι σ.H w (e.res σ).2.2 ι' (e.res σ).2.1.H w':=by
 obtain⟨hrun,hv0,hch,hn1,hpc,hfo⟩:=F;obtain⟨o1,o2,o3,o4⟩:=O;obtain⟨hf,_,_,ha,hpre⟩:=hH;subst hf ha hv0;have g0:∀i,e.s0.heap.get i=lk e.pre i:=fun i=>by
  show(setT e.pre .lf).get i=_;rw[setT_get];cases lk e.pre i<;>first|rfl|exact Tr.get_lf _
 have gs:=e.res_get σ;have hrng:e.s0.rng σ1=fun i=>e.n0≤i∧i<e.n1:=by
  funext i;simp only[St.rng,Ent.s0,hn1]
 have hs:∀id x,e.s0.H.hdr id=some x→σ.H.hdr id=some x∧(∀k,σ.H.cell id k=e.s0.H.cell id k)∧∀k,(e.res σ).2.2.Fc id k:=fun id x hx=>by
  simp only[St.H,g0] at hx;cases hl:lk e.pre id with
  |none=>rw[hl] at hx;cases hx
  |some o=>
   rw[hl] at hx;refine⟨by simp only[St.H,hpre id o hl];exact hx,fun k=>by simp only[St.H,hpre id o hl,g0,hl],fun k=>.inr (.inl ?_)⟩;exact List.mem_map.2 ⟨_,lk_mem hl,rfl⟩
 have hwf0:e.s0.wf:=fun i hi=>by
  rw[g0];cases hl:lk e.pre i with
  |none=>rfl
  |some o=>have:=o1 i o hl;have hi:e.n0≤i:=hi;omega
 obtain⟨_,_,main⟩:=(evCall_sound hE n).ok e.f e.a e.s0 e.v σ1 φ1 hrun;refine(main (by unfold St.Ok;rw[hpc];trivial) D ι w args' hwf0 hGI (fun i h=>by rw[hrng] at h;exact hD i h.1 h.2) hargs (ho.part hs _)).mono ?_;rintro en w' ⟨v',ι',he,hv,hp⟩;rw[hrng] at hv hp;refine⟨v',ι',he,hv,hp.lift (K:=fun i=>∃o,lk e.ch i=some o) ho (fun i h=>hD i h.1 h.2) hs ?_ ?_ ?_ ?_ ?_ ?_ ?_ ?_⟩
 ·intro id k hx hnn;have hl:=hp.wl id k hx hnn;obtain⟨x,hx'⟩:=hl;have hlt:id<e.n0:=by
   simp only[St.H,g0] at hx';cases hl:lk e.pre id with
   |none=>rw[hl] at hx';cases hx'
   |some o=>exact o1 id o hl
  simp only[Ent.foot,Bool.and_eq_true] at hfo;have fin:(isIn e.wr id||Nat.ble e.n0 id)=true→id∈e.wr:=fun h=>by
   rw[Bool.or_eq_true] at h;rcases h with h|h
   ·exact isIn_mem h
   ·have:=Nat.le_of_ble_eq_true h;omega
  rcases hx with hx|hx
  ·exact fin (List.all_eq_true.1 hfo.1 _ hx)
  ·exact fin (List.all_eq_true.1 hfo.2 _ hx)
 ·intro id k hx;rcases hx with hx|hx
  ·cases hx
  ·exact hx
 ·intro id hx;obtain⟨⟨o,h1⟩,h2⟩:=o3 id hx;exact⟨h2,o.hd,by simp only[St.H,g0,h1];rfl⟩
 ·rintro id ⟨o,hl⟩;rcases o2 id o hl with h|h
  ·exact .inl h
  ·exact .inr h
 ·rintro id ⟨o,hl⟩;have h1:=gs id;rw[hl] at h1;have h2:=hch id o hl;exact⟨by simp only[St.H,h1,h2],fun k=>by simp only[St.H,h1,h2]⟩
 ·intro id hk _;have h1:=gs id;cases hl:lk e.ch id with
  |some o=>exact absurd ⟨o,hl⟩ hk
  |none=>
   rw[hl] at h1;exact⟨by simp only[St.H,h1],fun k=>by simp only[St.H,h1]⟩
 ·intro id hk hnn;have h1:=gs id;cases hl:lk e.ch id with
  |some o=>exact absurd ⟨o,hl⟩ hk
  |none=>
   rw[hl] at h1;simp only[St.H,h1,hwf id (by omega),Option.map_none]
 ·intro id hnn;exact St.hdr_none hwf id (by omega)
theorem Ent.core0 {P:Program} {E:Env} (hE:E.OK P) {n:Nat} {e:Ent} {v0:Value} {σ1:St} {φ1:Foot} (F:EntF P E e n v0 σ1 φ1) (O:EntO e) (hk:e.keep=false) (hsh:e.shut=true) (hGn:E.G≤e.n0) {f:FuncId} {args:List Value} {σ:St} (hH:EntH e f args σ) (_:σ.wf)
  {D:Nat→Prop} {ι:Nat→Reg} {w:World} {args':Array Value} (hGI:GI E D ι) (hargs:AR D ι args.toArray args') (ho:HOn P D ι σ.H (e.res σ).2.2 w):
  Calls P f args' w fun en w'=>∃v',en=.returned v'∧VR D ι e.v v'∧Post P D (fun _=>False) ι σ.H w (e.res σ).2.2 ι (e.res σ).2.1.H w':=by
 obtain⟨hf,hn,_,ha,hpre⟩:=hH;subst hf ha;unfold Ent.shut at hsh;rw[hk,cond_false] at hsh;simp only[Bool.and_eq_true] at hsh;obtain⟨s1,s2,s3,s4⟩:=hsh;have old:∀i,e.old i=true→i<e.n0:=fun i h=>by simpa[Ent.old] using h
 have wr0:∀i,i∈e.wr→i<e.n0:=fun i h=>by
  obtain⟨⟨o,h'⟩,_⟩:=O.o3 i h;exact O.o1 i o h'
 have chw:∀i o,lk e.ch i=some o→i∈e.wr∧okQ e.old o=true:=fun i o h=>by
  have:=List.all_eq_true.1 s4 _ (lk_mem h);rw[Bool.and_eq_true] at this;exact⟨isIn_mem this.1,this.2⟩
 have g0:∀i,e.s0.heap.get i=lk e.pre i:=fun i=>by
  show(setT e.pre .lf).get i=_;rw[setT_get];cases lk e.pre i<;>first|rfl|exact Tr.get_lf _
 have hH0:EntH e e.f e.a e.s0:=⟨rfl,Nat.le_refl _,fun _=>rfl,rfl,fun i o h=>by rw[g0,h]⟩
 have hwf0:e.s0.wf:=fun i hi=>by
  rw[g0];cases hl:lk e.pre i with
  |none=>rfl
  |some o=>have:=O.o1 i o hl;have hi:e.n0≤i:=hi;omega
 have inpre:∀id,id∈e.pre.map Prod.fst→∃o,lk e.pre id=some o:=fun id h=>by
  obtain⟨q,hq,rfl⟩:=List.mem_map.1 h;cases hl:lk e.pre q.1 with
  |some o=>exact⟨o,rfl⟩
  |none=>
   exfalso;have:∀l:List (Nat×AO),q∈l→lk l q.1≠none:=by
    intro l
    induction l with
    |nil=>intro h;cases h
    |cons r l ih=>
     intro h h0;simp only[lk] at h0;by_cases er:q.1=r.1
     ·rw[beq_t er] at h0;cases h0
     ·rw[beq_f er] at h0;rcases List.mem_cons.1 h with h|h
      ·exact er (by rw[h])
      ·exact ih h h0
   exact this _ hq hl
 have foot:∀id k,(e.res σ).2.2.Fc id k→∃o,lk e.pre id=some o:=fun id k h=>by
  rcases h with h|h|h|h
  ·cases h
  ·exact inpre id h
  ·cases h
  ·exact(O.o3 id h).1
 have hargs0:AR (fun i=>D i∧e.old i=true) ι e.a.toArray args':=⟨hargs.1,fun i a b h1 h2=>okV_vr 9 (List.all_eq_true.1 s1 a (List.mem_of_getElem? (by simpa using h1))) (hargs.2 i a b h1 h2)⟩
 have hs:∀id x,e.s0.H.hdr id=some x→σ.H.hdr id=some x∧(∀k,σ.H.cell id k=e.s0.H.cell id k)∧∀k,(e.res σ).2.2.Fc id k:=fun id x hx=>by
  simp only[St.H,g0] at hx;cases hl:lk e.pre id with
  |none=>rw[hl] at hx;cases hx
  |some o=>
   rw[hl] at hx;refine⟨by simp only[St.H,hpre id o hl];exact hx,fun k=>by simp only[St.H,hpre id o hl,g0,hl],fun k=>.inr (.inl ?_)⟩;exact List.mem_map.2 ⟨_,lk_mem hl,rfl⟩
 have ho1:HOn P D ι e.s0.H (e.res e.s0).2.2 w:=ho.part hs _;have ho0:HOn P (fun i=>D i∧e.old i=true) ι e.s0.H (e.res e.s0).2.2 w:=ho1.only fun id k v h _ hc=>by
  obtain⟨o,hl⟩:=foot id k h;simp only[St.H,g0,hl] at hc;exact okO_cell (List.all_eq_true.1 s2 _ (lk_mem hl)) hc
 have hGI0:GI E (fun i=>D i∧e.old i=true) ι:=fun g hg=>by
  obtain⟨h1,h2⟩:=hGI g hg;refine⟨⟨h1,?_⟩,h2⟩;simpa[Ent.old] using(show g<e.n0 by omega)
 have gs0:=e.res_get e.s0;have gs:=e.res_get σ;refine(Ent.core hE F O hH0 rfl hwf0 hGI0 (fun i h1 h2 h3=>by have:=old i h3.2;omega) hargs0 ho0).mono ?_;rintro en w' ⟨v',ι',he,hv,hp⟩;have q:=hp.shut (D:=D) (N':=fun _=>False) (fun _ h=>h) (fun i h1 h2=>by have:=old i h1;omega) (fun id hn'=> ?_) (fun id k h1 h2=> ?_) (fun id k v h1 h2=> ?_)
 ·refine⟨v',he,(okV_vr 9 s3 hv).mono (fun i hi=> ?_) fun i hi=>(hp.io i fun h=>by have:=old i hi.2;omega).symm,q.lift (K:=fun i=>∃o,lk e.ch i=some o) ho (fun _ h=>h.elim) hs ?_ ?_ ?_ ?_ ?_ ?_ ?_ ?_⟩
  ·rcases hi.1 with h1|h1
   ·exact h1.1
   ·have:=old i hi.2;omega
  ·intro id k hx _;rcases hx with hx|hx
   ·cases hx
   ·exact hx
  ·intro id k hx;rcases hx with hx|hx
   ·cases hx
   ·exact hx
  ·intro id hx;obtain⟨⟨o,h1⟩,h2⟩:=O.o3 id hx;exact⟨h2,o.hd,by simp only[St.H,g0,h1];rfl⟩
  ·rintro id ⟨o,hl⟩;exact .inr (chw id o hl).1
  ·rintro id ⟨o,hl⟩;have h1:=gs id;have h2:=gs0 id;rw[hl] at h1 h2;exact⟨by simp only[St.H,h1,h2],fun k=>by simp only[St.H,h1,h2]⟩
  ·intro id hk _;have h1:=gs id;cases hl:lk e.ch id with
   |some o=>exact absurd ⟨o,hl⟩ hk
   |none=>
    rw[hl] at h1;exact⟨by simp only[St.H,h1],fun k=>by simp only[St.H,h1]⟩
  ·exact fun id _ h=>h.elim
  ·exact fun id h=>h.elim
 ·have h0:e.s0.heap.get id=none:=hwf0 id hn'.1;have h1:(e.res e.s0).2.1.heap.get id=none:=by
   rw[gs0];cases hl:lk e.ch id with
   |none=>exact h0
   |some o=>have:=wr0 id (chw id o hl).1;omega
  exact⟨by simp only[St.H,h1,Option.map_none],by simp only[St.H,h0,h1],fun k=>by simp only[St.H,h0,h1]⟩
 ·have:=wr0 id (by rcases h1 with h1|h1;cases h1;exact h1);omega
 ·have hw:id∈e.wr:=by rcases h1 with h1|h1;cases h1;exact h1
  obtain⟨o,hl⟩:=(O.o3 id hw).2;have hg:=gs0 id;rw[hl] at hg;simp only[St.H,hg] at h2;have:=(chw id o hl).2;cases o with
  |none=>cases h2
  |some o=>exact okO_cell this h2
theorem Ent.cusF {P:Program} {E E':Env} (hE:E.OK P) (hG:E'.G=E.G) (hgl:E'.gl=E.gl) {n:Nat} {e:Ent} {v0:Value} {σ1:St} {φ1:Foot} (F:EntF P E e n v0 σ1 φ1) (hok:e.ok=true) (hsh:e.shut=true) (hGn:Nat.ble E.G e.n0=true)
  {f:FuncId} {args:List Value} {σ:St} (hh:e.hit f args σ=true):CusOK P E' f args σ (e.res σ).1 (e.res σ).2.1 (e.res σ).2.2:=by
 have O:=Ent.ok_facts hok;have hH:=Ent.hit_facts hh;have gs:=e.res_get σ;have wr0:∀i,i∈e.wr→i<e.n0:=fun i h=>by
  obtain⟨⟨o,h'⟩,_⟩:=O.o3 i h;exact O.o1 i o h'
 have hsn:σ.next≤(e.res σ).2.1.next∧∀i o,lk e.ch i=some o→i<(e.res σ).2.1.next∧(σ.next≤i∨i∈e.wr):=by
  cases hk:e.keep with
  |true=>
   have hn:=hH.k hk;have:(e.res σ).2.1.next=e.n1:=by show(bif e.keep then e.n1 else σ.next)=_;rw[hk];rfl
   rw[this];refine⟨by rw[←hn];exact O.o4,fun i o h=> ?_⟩;rcases O.o2 i o h with h1|h1
   ·exact⟨h1.2,.inl (by rw[←hn];exact h1.1)⟩
   ·have:=wr0 i h1;have:=O.o4;exact⟨by omega,.inr h1⟩
  |false=>
   have:(e.res σ).2.1.next=σ.next:=by show(bif e.keep then e.n1 else σ.next)=_;rw[hk];rfl
   rw[this];refine⟨Nat.le_refl _,fun i o h=> ?_⟩;unfold Ent.shut at hsh;rw[hk,cond_false] at hsh;simp only[Bool.and_eq_true] at hsh;have:=List.all_eq_true.1 hsh.2.2.2 _ (lk_mem h);rw[Bool.and_eq_true] at this;have hw:=isIn_mem this.1;have:=wr0 i hw;have:=hH.n;exact⟨by omega,.inr hw⟩
 refine⟨hsn.1,fun hw=>⟨fun i hi=> ?_,?_⟩,fun _ D ι w args' hwf hGI hD hargs ho=> ?_⟩
 ·rw[gs];cases hl:lk e.ch i with
  |none=>exact hw i (by have:=hsn.1;omega)
  |some o=>have:=(hsn.2 i o hl).1;omega
 ·have same:∀i,¬σ.rng (e.res σ).2.1 i→¬(e.res σ).2.2.Wi i→(e.res σ).2.1.heap.get i=σ.heap.get i:=fun i h1 h2=>by
   rw[gs];cases hl:lk e.ch i with
   |none=>rfl
   |some o=>
    obtain⟨h3,h4⟩:=hsn.2 i o hl;rcases h4 with h|h
    ·exact absurd ⟨h,h3⟩ h1
    ·exact absurd h h2
  exact⟨fun i h1 h2=>by simp only[St.H,same i h1 h2],fun i k h1 h2=>by simp only[St.H,same i h1 fun h=>h2 (.inr h)],fun h=>h⟩
 ·have hGI':GI E D ι:=by unfold GI at hGI⊢;rw[hG,hgl] at hGI;exact hGI
  cases hk:e.keep with
  |true=>
   have hn:=hH.k hk;have h2:(e.res σ).2.1.next=e.n1:=by show(bif e.keep then e.n1 else σ.next)=_;rw[hk];rfl
   have hrng:σ.rng (e.res σ).2.1=fun i=>e.n0≤i∧i<e.n1:=by
    funext i;simp only[St.rng,h2,hn]
   rw[hrng] at hD⊢;exact Ent.core hE F O hH hn hwf hGI' (fun i h1 h2=>hD i ⟨h1,h2⟩) hargs ho
  |false=>
   have h2:(e.res σ).2.1.next=σ.next:=by show(bif e.keep then e.n1 else σ.next)=_;rw[hk];rfl
   have hrng:σ.rng (e.res σ).2.1=fun _=>False:=by
    funext i;simp only[St.rng,h2];exact propext ⟨fun h=>by omega,fun h=>h.elim⟩
   rw[hrng];refine(Ent.core0 hE F O hk hsh (Nat.le_of_ble_eq_true hGn) hH hwf hGI' hargs ho).mono ?_;rintro en w' ⟨v',he,hv,hp⟩;exact⟨v',ι,he,hv.mono (fun _=>.inl) fun _ _=>rfl,hp⟩
theorem Ent.cus {P:Program} {E E':Env} (hE:E.OK P) (hG:E'.G=E.G) (hgl:E'.gl=E.gl) {n:Nat} {e:Ent} (hr:e.good (kRun P E n e.f e.a e.s0)=true) (hok:e.ok=true) (hsh:e.shut=true) (hGn:Nat.ble E.G e.n0=true)
  {f:FuncId} {args:List Value} {σ:St} (hh:e.hit f args σ=true):CusOK P E' f args σ (e.res σ).1 (e.res σ).2.1 (e.res σ).2.2:=by
 obtain⟨v0,σ1,φ1,F⟩:=Ent.good_facts hr;exact Ent.cusF hE hG hgl F hok hsh hGn hh
theorem orN_mem:∀(l:List Nat) (i:Nat),(orN l 0).testBit i=true→i∈l
 |[],i,h=>by
  have h:(0:Nat).testBit i=true:=h;rw[Nat.zero_testBit] at h;cases h
 |p::l,i,h=>by
  have h:(1<<<p|||orN l 0).testBit i=true:=h;rw[Nat.testBit_or,Bool.or_eq_true] at h;rcases h with h|h
  ·rw[Nat.testBit_shiftLeft,Bool.and_eq_true] at h;have h1:=of_decide_eq_true h.1;have h2:i-p=0:=by
    rcases Nat.eq_zero_or_pos (i-p) with h0|h0
    ·exact h0
    ·have h3:=h.2;rw[show i-p=(i-p-1)+1 by omega,Nat.testBit_succ] at h3;simp at h3
   have:i=p:=by omega
   rw[this];exact List.mem_cons_self ..
  ·exact List.mem_cons_of_mem _ (orN_mem l i h)
def Ent.wok (e:Ent) (w:Nat):Bool:=Nat.beq (Nat.lor w (orN e.wr 0)) (orN e.wr 0)
def Ent.good2 (e:Ent) (r:Option (Value×St×Nat)):Bool:=
 match r with
 |some (v,σ,w)=>eqV 9 v e.v&&(e.ch.all (fun p=>eqQ (σ.heap.get p.1) p.2)&&(Nat.beq σ.next e.n1&&(σ.pc.isEmpty&&e.wok w)))
 |none=>false
theorem Ent.good2_facts {P:Program} {E:Env} {n:Nat} {e:Ent} (hr:e.good2 (kzRun P E n e.f e.a e.s0)=true):∃v σ1 φ1,EntF P E e n v σ1 φ1:=by
 unfold Ent.good2 at hr
 split at hr
 ·rename_i v σ w h;simp only[Bool.and_eq_true] at hr;obtain⟨φ,h1,h2⟩:=kzRun_ok h;have hin:∀i k,φ.Wc i k→isIn e.wr i=true:=fun i k hw=>by
   have h3:=lor_l (b:=orN e.wr 0) (h2 i k hw);rw[Nat.eq_of_beq_eq_true hr.2.2.2.2] at h3;exact List.any_eq_true.2 ⟨i,orN_mem _ _ h3,beq_t rfl⟩
  refine⟨v,σ,φ,h1,eqV_eq 9 _ _ hr.1,fun i o hl=> ?_,Nat.eq_of_beq_eq_true hr.2.2.1,by simpa using hr.2.2.2.1,?_⟩
  ·exact eqQ_eq (List.all_eq_true.1 hr.2.1 _ (lk_mem hl))
  ·unfold Ent.foot;rw[Bool.and_eq_true];exact⟨List.all_eq_true.2 fun p hp=>by rw[hin p.1 p.2 (.inl hp)];rfl,List.all_eq_true.2 fun i hi=>by rw[hin i 0 (.inr hi)];rfl⟩
 ·cases hr
theorem Ent.cus2 {P:Program} {E E':Env} (hE:E.OK P) (hG:E'.G=E.G) (hgl:E'.gl=E.gl) {n:Nat} {e:Ent} (hr:e.good2 (kzRun P E n e.f e.a e.s0)=true) (hok:e.ok=true) (hsh:e.shut=true) (hGn:Nat.ble E.G e.n0=true)
  {f:FuncId} {args:List Value} {σ:St} (hh:e.hit f args σ=true):CusOK P E' f args σ (e.res σ).1 (e.res σ).2.1 (e.res σ).2.2:=by
 obtain⟨v0,σ1,φ1,F⟩:=Ent.good2_facts hr;exact Ent.cusF hE hG hgl F hok hsh hGn hh
def EntOK (P:Program) (E:Env) (e:Ent):Prop:=∀f args σ,e.hit f args σ=true→CusOK P E f args σ (e.res σ).1 (e.res σ).2.1 (e.res σ).2.2
theorem tabF_ok {P:Program} {E:Env} {f:FuncId} {args:List Value} {σ σ':St} {v:Value} {φ:Foot}:∀{l:List Ent},(∀e,e∈l→EntOK P E e)→tabF l f args σ=some (v,σ',φ)→CusOK P E f args σ v σ' φ
 |[],_,h=>by cases h
 |e::l,hl,h=>by
  simp only[tabF] at h;cases hb:e.hit f args σ
  ·rw[hb,cond_false] at h;exact tabF_ok (fun e he=>hl e (List.mem_cons_of_mem _ he)) h
  ·rw[hb,cond_true] at h;have:=hl e (List.mem_cons_self ..) f args σ hb;rw[Option.some.inj h] at this;exact this
def kzTrue (P:Program) (E:Env) (n:Nat) (f:FuncId) (args:List Value):Bool:=
 match kzRun P E n f args (glSt E) with
 |some (.bool true,σ',_)=>match σ'.pc with
  |[]=>true
  |_=>false
 |_=>false
theorem kz_true {P:Program} {E:Env} (hE:E.OK P) (hne:∀p,p∈E.gl→p.2≠[]) {n:Nat} {f:FuncId} {args:List Value} (hr:kzTrue P E n f args=true) (ha:args.all (plainN 8)=true)
  (w:World) (hw:GlW E.gl w):Calls P f args.toArray w fun e w'=>e=.returned (.bool true)∧Same w w':=by
 unfold kzTrue at hr
 split at hr
 ·rename_i σ' m h
  split at hr
  ·rename_i hpc;obtain⟨φ,h1, -⟩:=kzRun_ok h;rw[←kRun_eq] at h1;exact run_of hE hne h1 (by unfold St.Ok;rw[hpc];trivial) rfl ha w hw
  ·cases hr
 ·cases hr
def kzTrueS (P:Program) (E:Env) (n:Nat) (ora:List Nat) (f:FuncId) (args:List Value):Option (List Bool):=
 match kzRun P E n f args (glStO E ora) with
 |some (.bool true,σ',_)=>some σ'.pc
 |_=>none
theorem kz_true_s {P:Program} {E:Env} (hE:E.OK P) (hne:∀p,p∈E.gl→p.2≠[]) {n:Nat} {ora:List Nat} {f:FuncId} {args:List Value} {args':Array Value} {pc:List Bool} (hr:kzTrueS P E n ora f args=some pc) (hpc:AllP pc) (ha:∀(D:Nat→Prop) (ι:Nat→Reg),AR D ι args.toArray args')
  (w:World) (hw:GlW E.gl w):Calls P f args' w fun e w'=>e=.returned (.bool true)∧Same w w':=by
 unfold kzTrueS at hr
 split at hr
 ·rename_i σ' m h;cases hr;obtain⟨φ,h1, -⟩:=kzRun_ok h;rw[←kRun_eq] at h1;exact run_of_g hE hne h1 hpc rfl ha w hw
 ·cases hr
def mkT (l:List Ent):Tr (List Ent):=List.rec .lf (fun e _ ih=>ih.set e.f (some (e::Option.rec [] (fun l=>l) (ih.get e.f)))) l
def tabT (t:Tr (List Ent)) (f:FuncId) (args:List Value) (σ:St):Option (Value×St×Foot):=Option.rec none (fun l=>tabF l f args σ) (t.get f)
theorem mkT_mem:∀(l:List Ent) (f:FuncId) (l':List Ent),(mkT l).get f=some l'→∀e,e∈l'→e∈l
 |[],f,l',h,e,he=>by
  have h:(Tr.lf:Tr (List Ent)).get f=some l':=h;rw[Tr.get_lf] at h;cases h
 |x::l,f,l',h,e,he=>by
  have h:((mkT l).set x.f (some (x::Option.rec [] (fun l=>l) ((mkT l).get x.f)))).get f=some l':=h;rw[Tr.set_get] at h;by_cases hf:f=x.f
  ·rw[if_pos hf] at h;cases h;rcases List.mem_cons.1 he with rfl|he
   ·exact List.mem_cons_self ..
   ·refine List.mem_cons_of_mem _ ?_;cases hg:(mkT l).get x.f with
    |none=>rw[hg] at he;cases he
    |some l2=>rw[hg] at he;exact mkT_mem l x.f l2 hg e he
  ·rw[if_neg hf] at h;exact List.mem_cons_of_mem _ (mkT_mem l f l' h e he)
theorem tabT_ok {P:Program} {E:Env} {l:List Ent} (h:∀e,e∈l→EntOK P E e) {f:FuncId} {args:List Value} {σ σ':St} {v:Value} {φ:Foot} (hr:tabT (mkT l) f args σ=some (v,σ',φ)):CusOK P E f args σ v σ' φ:=by
 unfold tabT at hr;cases hg:(mkT l).get f with
 |none=>rw[hg] at hr;cases hr
 |some l2=>
  rw[hg] at hr;exact tabF_ok (fun e he=>h e (mkT_mem l f l2 hg e he)) hr
def only {α:Type} (t:Tr Unit) (f:FuncId) (x:Option α):Option α:=Option.rec none (fun _=>x) (t.get f)
theorem only_some {α:Type} {t:Tr Unit} {f:FuncId} {x:Option α} {y:α} (h:only t f x=some y):x=some y:=by
 unfold only at h;cases hg:t.get f with
 |none=>rw[hg] at h;cases h
 |some u=>rw[hg] at h;exact h
def idT (l:List Nat):Tr Unit:=List.rec .lf (fun i _ ih=>ih.set i (some ())) l
end Go.Eng
end
end
end
section
noncomputable section
noncomputable section
namespace Go.Eng
open Go
section
variable {P:Program} {E:Env}
theorem Post.back {D N0 N1 K:Nat→Prop} {ι0 ι1:Nat→Reg} {h0 h1 h2:H} {w w':World} {φ:Foot} {p:Nat→Bool} (hp:Post P D N1 ι0 h0 w φ ι1 h1 w') (hN:∀id,N0 id→N1 id) (hW:∀id k,φ.Wc id k→¬N1 id)
  (hK0:∀id,¬N1 id→K id) (hK1:∀id,K id→N1 id→N0 id)
  (keep:∀id,K id→h2.hdr id=h1.hdr id∧∀k,h2.cell id k=h1.cell id k) (gone:∀id,¬K id→h2.hdr id=none∧∀k,h2.cell id k=h0.cell id k)
  (pn:∀id,p id=true→K id) (hv:∀id k v,K id→h1.cell id k=some v→okV p 11 v=true):
  ∃ι2,(∀id,K id→ι2 id=ι1 id)∧Post P D N0 ι0 h0 w φ ι2 h2 w':=by
 classical
 let ι2:Nat→Reg:=fun id=>if K id then ι1 id else ι0 id
 have e1:∀id,K id→ι2 id=ι1 id:=fun id h=>if_pos h
 have e0:∀id,¬K id→ι2 id=ι0 id:=fun id h=>if_neg h
 have wi:∀id,φ.Wi id→¬N1 id:=fun id h=>hW id 0 (h.wc 0)
 have lv:∀id,Lv h2 id→K id:=fun id ⟨x,hx⟩=>Classical.byContradiction fun h0=>by rw[(gone id h0).1] at hx;cases hx
 have lv1:∀id,Lv h2 id→Lv h1 id:=fun id hl=>by
  obtain⟨x,hx⟩:=hl;exact⟨x,by rw[←(keep id (lv id ⟨x,hx⟩)).1];exact hx⟩
 have wr1:∀id,Wr h2 id→Wr h1 id:=fun id hl=>by
  obtain⟨x,hx,hw⟩:=hl;exact⟨x,by rw[←(keep id (lv id ⟨x,hx⟩)).1];exact hx,hw⟩
 have alt:∀b,(∃k,φ.Wi k∧¬N1 k∧Wr h0 k∧¬Lv h1 k∧(ι0 k).Own b)→∃k,φ.Wi k∧¬N0 k∧Wr h0 k∧¬Lv h2 k∧(ι0 k).Own b:=by
  rintro b ⟨k,a1,a2,a3,a4,a5⟩;exact⟨k,a1,fun h=>a2 (hN k h),a3,fun hl=>a4 (lv1 k hl),a5⟩
 refine⟨ι2,e1,{
  io:=fun id hn=> ?_
  size:=hp.size
  os:=hp.os
  out:=hp.out
  hdr:=fun id x hx e=> ?_
  cel:=fun id k v hx l e=> ?_
  ahdr:=fun id hn hx=> ?_
  acel:=fun id k hn hx=> ?_
  cfr:=hp.cfr
  fresh:=fun id hn l b hb=> ?_
  freshF:=fun id hn l b hb=> ?_
  dist:=fun i j ni nj wri lj hij=> ?_
  nl:=fun id h=>hp.nl id (hN id h)
  wl:=fun id k hx _=>hp.wl id k hx (hW id k hx)
  wrm:=fun id hn hx=> ?_
  wrow:=fun id k hx hi _=>hp.wrow id k hx hi (hW id k hx)}⟩
 ·by_cases h:K id
  ·rw[e1 id h];exact hp.io id fun h1=>hn (hK1 id h h1)
  ·exact e0 id h
 ·have h:=lv id ⟨x,e⟩;rw[(keep id h).1] at e;exact(hp.hdr id x (hx.imp_right (hN id)) e).as (e1 id h)
 ·have h:=lv id l;rw[(keep id h).2 k] at e;obtain⟨a,v',b,c⟩:=hp.cel id k v (hx.imp_right (hN id)) (lv1 id l) e;rw[←e1 id h] at a b;refine⟨a,v',b,(okV_vr 11 (hv id k v h e) c).mono (fun i hi=> ?_) fun i hi=>e1 i (pn i hi.2)⟩;rcases hi.1 with h1|h1
  ·exact .inl h1
  ·exact .inr (hK1 i (pn i hi.2) h1)
 ·by_cases h1:N1 id
  ·rw[(gone id fun hk=>hn (hK1 id hk h1)).1,hp.nl id h1]
  ·rw[(keep id (hK0 id h1)).1];exact hp.ahdr id h1 hx
 ·by_cases h1:N1 id
  ·exact(gone id fun hk=>hn (hK1 id hk h1)).2 k
  ·rw[(keep id (hK0 id h1)).2 k];exact hp.acel id k h1 hx
 ·rw[e1 id (lv id l)] at hb;exact(hp.fresh id (hN id hn) (lv1 id l) b hb).imp_right (alt b)
 ·rw[e1 id (lv id l)] at hb;rcases hp.freshF id (hN id hn) (lv1 id l) b hb with a|a|⟨k,a1,a2,a3,a4⟩
  ·exact .inl a
  ·exact .inr (.inl (alt b a))
  ·exact .inr (.inr ⟨k,a1,fun h=>a2 (hN k h),a3,a4⟩)
 ·intro b hb;rw[e1 i (lv i wri.lv)] at hb;rw[e1 j (lv j lj)];exact hp.dist i j (hN i ni) (hN j nj) (wr1 i wri) (lv1 j lj) hij b hb
 ·by_cases h1:N1 id
  ·obtain⟨x,e,_⟩:=hx;rw[(gone id fun hk=>hn (hK1 id hk h1)).1] at e;cases e
  ·exact hp.wrm id h1 (wr1 id hx)
def allB (f:Nat→Bool) (n:Nat):Bool:=Nat.rec true (fun k r=>f k&&r) n
theorem allB_spec {f:Nat→Bool}:∀{n:Nat},allB f n=true→∀i,i<n→f i=true
 |0,_,i,h=>absurd h (Nat.not_lt_zero i)
 |n+1,h,i,hi=>by
  have h':(f n&&allB f n)=true:=h;rw[Bool.and_eq_true] at h';rcases Nat.lt_or_ge i n with h1|h1
  ·exact allB_spec h'.2 i h1
  ·have:i=n:=by omega
   rw[this];exact h'.1
def regT:List (Nat×Value)→Tr Value
 |[]=>.lf
 |p::l=>(regT l).set p.1 (some p.2)
theorem regT_get:∀(l:List (Nat×Value)) (j:Nat),(regT l).get j=lk l j
 |[],j=>Tr.get_lf j
 |p::l,j=>by
  simp only[regT,lk,Tr.set_get,regT_get l j];by_cases e:j=p.1
  ·rw[if_pos e,beq_t e,cond_true]
  ·rw[if_neg e,beq_f e,cond_false]
def backP (m0:Nat) (l:List (Nat×AO)) (j:Nat):Bool:=Nat.blt j m0||(lk l j).isSome
def regK:List Nat→Tr Value→Tr Value
 |[],_=>.lf
 |t::l,s=>match s.get t with
  |some v=>(regK l s).set t (some v)
  |none=>regK l s
theorem regK_get:∀{l:List Nat} {s:Tr Value} {t:Nat} {v:Value},(regK l s).get t=some v→t∈l∧s.get t=some v
 |[],_,t,v,h=>by rw[regK,Tr.get_lf] at h;cases h
 |u::l,s,t,v,h=>by
  simp only[regK] at h
  split at h
  ·rename_i x hx;rw[Tr.set_get] at h;by_cases e:t=u
   ·rw[if_pos e] at h;subst e;exact⟨by simp,by rw[hx];exact h⟩
   ·rw[if_neg e] at h;obtain⟨h1,h2⟩:=regK_get h;exact⟨by simp[h1],h2⟩
  ·obtain⟨h1,h2⟩:=regK_get h;exact⟨by simp[h1],h2⟩
def okB (p:Nat→Bool):Option AO→Bool
 |none=>true
 |some (.dat _ _)=>true
 |some o=>okO p o
theorem okB_cell {p:Nat→Bool} {o:Option AO} {k:Nat} {v:Value} (h:okB p o=true) (hv:cellOf o k=some v):okV p 11 v=true:=by
 unfold okB at h
 split at h
 ·cases hv
 ·cases hv
 ·exact okO_cell h hv
def backB (σb:St) (m:Nat) (l:List (Nat×AO)) (keep:List Nat) (s:Tr Value) (σ:St):Bool:=
 (Nat.ble σb.next m&&Nat.ble m σ.next)&&(allB (fun i=>okB (backP σb.next l) (σb.heap.get i)) σb.next&&(l.all (fun q=>(Nat.ble σb.next q.1&&Nat.blt q.1 m)&&(match σ.heap.get q.1 with
  |some o=>eqO o q.2
  |none=>false)&&okO (backP σb.next l) q.2)&&keep.all fun t=>match s.get t with
  |some v=>okV (backP σb.next l) 9 v
  |none=>true))
def backS (σb:St) (m:Nat) (l:List (Nat×AO)):St:=⟨setT l σb.heap,m,[],[]⟩
def footB (m0:Nat) (φ:Foot):Bool:=φ.wc.all (fun p=>Nat.ble m0 p.1)&&φ.wh.all fun i=>Nat.ble m0 i
theorem footB_spec {m0:Nat} {φ:Foot} (h:footB m0 φ=true) {id k:Nat} (hx:φ.Wc id k):m0≤id:=by
 unfold footB at h;rw[Bool.and_eq_true] at h;rcases hx with hx|hx
 ·exact Nat.le_of_ble_eq_true (List.all_eq_true.1 h.1 _ hx)
 ·exact Nat.le_of_ble_eq_true (List.all_eq_true.1 h.2 _ hx)
theorem gl_facts (hE:E.OK P) (hne:∀p,p∈E.gl→p.2≠[]) {w:World} (hw:GlW E.gl w):
  (glSt E).wf∧GI E (fun id=>id<E.G) (glReg w)∧(∀φ,HOn P (fun id=>id<E.G) (glReg w) (glSt E).H φ w)∧∀id,¬Wr (glSt E).H id:=by
 have hwf:(glSt E).wf:=by
  intro id hid;cases hg:(glHeap E.gl).get id with
  |none=>exact hg
  |some o=>
   obtain⟨p,h1,h2,_⟩:=glHeap_get hg;have:=(hE.gl p h1).1;have hid:E.G≤id:=hid;omega
 have hro:∀id x,(glSt E).H.hdr id=some x→∃p,p∈E.gl∧p.1=id∧(glSt E).heap.get id=some (.row p.2 0 true)∧x=.row p.2.length 0 true:=by
  intro id x hx;cases hg:(glHeap E.gl).get id with
  |none=>
   have:(glSt E).H.hdr id=none:=by simp[St.H,glSt,hg]
   rw[this] at hx;cases hx
  |some o=>
   obtain⟨p,h1,h2,rfl⟩:=glHeap_get hg;have:(glSt E).H.hdr id=some (.row p.2.length 0 true):=St.hdr_of (σ:=glSt E) hg;rw[this] at hx;cases hx;exact⟨p,h1,h2,hg,rfl⟩
 refine⟨hwf,fun g hg=>⟨hg,rfl,rfl,gl_room hw⟩,fun φ=>⟨fun id x _ hx=> ?_,fun id k u _ hl hu=> ?_,fun i j _ _ _ _ hij b hi=>⟨fun hj=>hij (hi.2.trans hj.2.symm),rg_fz _ _ _ _ b⟩⟩,?_⟩
 ·obtain⟨p,h1,rfl,h2,rfl⟩:=hro id x hx;obtain⟨c,e,fr,g1,g2⟩:=gl_row (hw.1 p h1) (hne p h1);refine⟨c,e,fr,g1,?_,?_,⟨rfl,rg_fz _ _ _ _⟩,fun h=>by cases h⟩
  ·simp[glReg,g1]
  ·simpa[glReg,g1] using g2
 ·obtain⟨x,hx⟩:=hl;obtain⟨p,h1,rfl,h2,rfl⟩:=hro id x hx;rw[St.cell_of h2] at hu;obtain⟨u',g1,g2⟩:=hw.1 p h1 k u hu;exact⟨rfl,u',.inl (by simpa[glReg] using g1),g2.vr⟩
 ·rintro id ⟨x,hx,hxw⟩;obtain⟨p,_,_,_,rfl⟩:=hro id x hx;cases hxw
structure Base (P:Program) (E:Env) (w:World) (σb:St) (ι0:Nat→Reg):Prop where
 wf:σb.wf
 gi:GI E (fun id=>id<σb.next) ι0
 on:∀φ,HOn P (fun id=>id<σb.next) ι0 σb.H φ w
 nw:∀id,¬Wr σb.H id
theorem Base.plain (hE:E.OK P) (hne:∀p,p∈E.gl→p.2≠[]) {w:World} (hw:GlW E.gl w):Base P E w (glSt E) (glReg w):=
 let⟨h1,h2,h3,h4⟩:=gl_facts hE hne hw
 ⟨h1,h2,h3,h4⟩
def Here (P:Program) (_E:Env) (w0:World) (σb:St) (ι0:Nat→Reg) (nt:Nat) (s:Tr Value) (σ:St) (a:Act) (w:World):Prop:=
 ∃φ0 ι,Post P (fun id=>id<σb.next) (σb.rng σ) ι0 σb.H w0 φ0 ι σ.H w∧SRel nt (fun i=>i<σb.next∨σb.rng σ i) ι s a∧σ.wf∧σb.next≤σ.next∧∀id,id<σb.next→σ.H.hdr id=σb.H.hdr id∧∀k,σ.H.cell id k=σb.H.cell id k
def seqL:List Code→Code→Code
 |[],d=>d
 |c::l,d=>.seq c (seqL l d)
def cutC:Nat→Code→List Code×Code
 |0,c=>([],c)
 |k+1,c=>match c with
  | .seq a b=>(a::(cutC k b).1,(cutC k b).2)
  |c=>([],c)
theorem cutC_eq:∀(k:Nat) (c:Code),seqL (cutC k c).1 (cutC k c).2=c
 |0,c=>rfl
 |k+1,c=>by
  cases c<;>first|rfl|skip
  rename_i a b;show Code.seq a (seqL (cutC k b).1 (cutC k b).2)=_;rw[cutC_eq k b]
def kEvL (P:Program) (E:Env) (n nt m0:Nat):List Code→Tr Value→St→Option (Tr Value×St)
 |[],s,σ=>some (s,σ)
 |c::l,s,σ=>match kEv P E n none nt c s σ with
  |some (.normal,s',σ',φ)=>bif footB m0 φ then kEvL P E n nt m0 l s' σ' else none
  |_=>none
theorem kEvL_ok (hE:E.OK P) {n nt m0:Nat}:∀(l:List Code) (s:Tr Value) (σ:St) (s':Tr Value) (σ':St),kEvL P E n nt m0 l s σ=some (s',σ')→σ.wf→σ'.Ok→σ.Ok
 |[],s,σ,s',σ',h,_,hok=>by
  simp only[kEvL,Option.some.injEq,Prod.mk.injEq] at h;obtain⟨rfl,rfl⟩:=h;exact hok
 |c::l,s,σ,s',σ',h,hwf,hok=>by
  simp only[kEvL] at h
  split at h
  ·rename_i s1 σ1 φ1 h1;cases hf:footB m0 φ1
   ·rw[hf] at h;cases h
   rw[hf,cond_true] at h;rw[kEv_eq] at h1;obtain⟨hab, -⟩:=(ev_ok hE n).plain _ _ _ _ _ _ _ _ h1;exact(hab.2 hwf).2.ok (kEvL_ok hE l _ _ _ _ h (hab.2 hwf).1 hok)
  ·cases h
def segR (P:Program) (E:Env) (n nt:Nat) (σb:St) (l:List Code) (s:Tr Value) (σ:St) (m:Nat) (os:List (Nat×AO)) (keep:List Nat):Option (Tr Value×List Bool):=
 match kEvL P E n nt σb.next l s σ with
 |some (s',σ')=>bif backB σb m os keep s' σ' then some (regK keep s',σ'.pc) else none
 |none=>none
def segX (P:Program) (E:Env) (n nt:Nat) (σb:St) (c:Code) (s:Tr Value) (σ:St) (m:Nat) (os:List (Nat×AO)) (keep:List Nat):Option (Exit×Tr Value×List Bool):=
 match kEv P E n none nt c s σ with
 |some (x,s',σ',φ)=>bif footB σb.next φ&&backB σb m os keep s' σ' then some (x,regK keep s',σ'.pc) else none
 |none=>none
variable (hE:E.OK P) {w0 w:World} {σb:St} {ι0:Nat→Reg} (hB:Base P E w0 σb ι0) {nt n:Nat} {s s':Tr Value} {σ σ':St} {φ:Foot} {a:Act}
theorem Base.begin (hB:Base P E w0 σb ι0) (hs:SRel nt (fun i=>i<σb.next) ι0 s a):Here P E w0 σb ι0 nt s σb a w0:=
 ⟨.nil,ι0,Post.refl _ _ _ _ _ _ (St.rng_self _),hs.mono (fun _=>.inl) fun _ _=>rfl,hB.wf,Nat.le_refl _,fun _ _=>⟨rfl,fun _=>rfl⟩⟩
theorem Here.regs {a':Act} {t:Tr Value} (h:Here P E w0 σb ι0 nt s σ a w) (hs:∀D ι,SRel nt D ι s a→SRel nt D ι t a'):Here P E w0 σb ι0 nt t σ a' w:=by
 obtain⟨φ0,ι,hp,hs0,r⟩:=h;exact⟨φ0,ι,hp,hs _ _ hs0,r⟩
theorem Here.state {τ:St} (h:Here P E w0 σb ι0 nt s σ a w) (h1:τ.heap=σ.heap) (h2:τ.next=σ.next):Here P E w0 σb ι0 nt s τ a w:=by
 obtain⟨hp,nx,pc,ora⟩:=τ;cases h1;cases h2;exact h
theorem Here.reg {t:Nat} {v:Value} (h:Here P E w0 σb ι0 nt s σ a w) (hg:s.get t=some v):∃ι,(∀id,id<σb.next→ι id=ι0 id)∧VR (fun i=>i<σb.next∨σb.rng σ i) ι v (a.tmps.getD t undef):=by
 obtain⟨φ0,ι,hp,hs, -⟩:=h;exact⟨ι,fun id hi=>hp.io id fun hn=>by have:=hn.1;omega,(hs.2 t v hg).2⟩
include hB
theorem Here.same (h:Here P E w0 σb ι0 nt s σ a w):Same w0 w:=by
 obtain⟨φ0,ι,hp, -⟩:=h;refine⟨hp.size,hp.os,hp.out,fun b hb=> ?_⟩;exact(hp.cfr b hb fun id _ hid=>absurd hid (hB.nw id)).eq fun k ⟨id,_,_,hid,_⟩=>hB.nw id hid
theorem Here.hon (h:Here P E w0 σb ι0 nt s σ a w):∃ι,GI E (fun i=>i<σb.next∨σb.rng σ i) ι∧SRel nt (fun i=>i<σb.next∨σb.rng σ i) ι s a∧∀ψ,HOn P (fun i=>i<σb.next∨σb.rng σ i) ι σ.H ψ w:=by
 obtain⟨φ0,ι,hp,hs, -⟩:=h;have hd:∀id,σb.rng σ id→¬id<σb.next:=fun id hid h=>by have:=hid.1;omega
 exact⟨ι,hB.gi.next hd hp.io,hs,fun ψ=>hp.hon (hB.on _) hd⟩
theorem Here.back {m:Nat} {l:List (Nat×AO)} {keep:List Nat} (h:Here P E w0 σb ι0 nt s σ a w) (hb:backB σb m l keep s σ=true):Here P E w0 σb ι0 nt (regK keep s) (backS σb m l) a w:=by
 obtain⟨φ0,ι,hp,hs,hwf,hle,hlow⟩:=h;have hwf0:=hB.wf;unfold backB at hb;simp only[Bool.and_eq_true] at hb;obtain⟨⟨b1,b2⟩,b3,b4,b5⟩:=hb;have b1:=Nat.le_of_ble_eq_true b1;have b2:=Nat.le_of_ble_eq_true b2;have inl:∀id o,lk l id=some o→σb.next≤id∧id<m∧σ.heap.get id=some o∧okO (backP σb.next l) o=true:=fun id o ho=>by
  have:=List.all_eq_true.1 b4 _ (lk_mem ho);simp only[Bool.and_eq_true] at this;obtain⟨⟨⟨c1,c2⟩,c3⟩,c4⟩:=this;refine⟨Nat.le_of_ble_eq_true c1,by simpa using c2,?_,c4⟩
  split at c3
  ·rename_i o' ho';rw[ho',eqO_eq c3]
  ·cases c3
 have tget:∀id,(backS σb m l).heap.get id=(match lk l id with|some o=>some o|none=>σb.heap.get id):=fun id=>setT_get l _ id
 have tlow:∀id,id<σb.next→(backS σb m l).heap.get id=σb.heap.get id:=fun id hi=>by
  rw[tget];cases hl:lk l id with
  |some o=>have:=(inl id o hl).1;omega
  |none=>rfl
 let K:Nat→Prop:=fun id=>id<σb.next∨(∃o,lk l id=some o)∨σ.next≤id
 have kget:∀id,K id→(backS σb m l).H.hdr id=σ.H.hdr id∧∀k,(backS σb m l).H.cell id k=σ.H.cell id k:=fun id hk=>by
  by_cases hi:id<σb.next
  ·obtain⟨q1,q2⟩:=hlow id hi;refine⟨?_,fun k=> ?_⟩
   ·rw[q1];simp only[St.H,tlow id hi]
   ·rw[q2 k];simp only[St.H,tlow id hi]
  ·have:(backS σb m l).heap.get id=σ.heap.get id:=by
    rw[tget];cases hl:lk l id with
    |some o=>exact(inl id o hl).2.2.1.symm
    |none=>
     rcases hk with hk|⟨o,ho⟩|hk
     ·exact absurd hk hi
     ·rw[hl] at ho;cases ho
     ·show σb.heap.get id=_;rw[hwf0 id (by omega),hwf id hk]
   exact⟨by simp only[St.H,this],fun k=>by simp only[St.H,this]⟩
 have gone:∀id,¬K id→(backS σb m l).heap.get id=none∧σb.heap.get id=none:=fun id hk=>by
  have h1:σb.next≤id:=Nat.le_of_not_lt fun h=>hk (.inl h)
  have h2:lk l id=none:=by
   cases hl:lk l id with
   |none=>rfl
   |some o=>exact absurd (.inr (.inl ⟨o,hl⟩)) hk
  rw[tget,h2];exact⟨hwf0 id h1,hwf0 id h1⟩
 have pk:∀id,backP σb.next l id=true→id<σb.next∨∃o,lk l id=some o:=fun id h=>by
  unfold backP at h;rw[Bool.or_eq_true] at h;rcases h with h|h
  ·exact .inl (by simpa using h)
  ·exact .inr (Option.isSome_iff_exists.1 h)
 have hd0:∀id,σb.rng σ id→σb.next≤id∧id<σ.next:=fun id h=>h
 have hd1:∀id,σb.rng (backS σb m l) id↔σb.next≤id∧id<m:=fun id=>Iff.rfl
 have hK1:∀id,K id→σb.rng σ id→σb.rng (backS σb m l) id:=fun id hk hr=>by
  obtain⟨r1,r2⟩:=hd0 id hr;rcases hk with hk|⟨o,ho⟩|hk
  ·omega
  ·exact(hd1 id).2 ⟨r1,(inl id o ho).2.1⟩
  ·omega
 have hpt:=hp.trim (n:=σb.next) fun id hid=>by simp only[St.H,hwf0 id hid,Option.map_none]
 obtain⟨ι2,k1,k2⟩:=Post.back (K:=K) (N0:=σb.rng (backS σb m l)) (h2:=(backS σb m l).H) (p:=backP σb.next l) hpt
  (fun id h=>⟨((hd1 id).1 h).1,by have:=((hd1 id).1 h).2;omega⟩)
  (fun id k hx hr=>by have:=(trim_Wc.1 hx).2;have:=(hd0 id hr).1;omega)
  (fun id hr=>by
   by_cases h1:id<σb.next
   ·exact .inl h1
   ·exact .inr (.inr (Nat.le_of_not_lt fun h2=>hr ⟨Nat.le_of_not_lt h1,h2⟩)))
  hK1 kget
  (fun id hk=>⟨by simp only[St.H,(gone id hk).1,Option.map_none],fun k=>by simp only[St.H,(gone id hk).1,(gone id hk).2]⟩)
  (fun id h=>(pk id h).imp_right .inl)
  (fun id k v hk hc=>by
   by_cases hi:id<σb.next
   ·rw[(hlow id hi).2 k] at hc;exact okB_cell (allB_spec b3 id hi) hc
   ·simp only[St.H] at hc;cases hg:σ.heap.get id with
    |none=>rw[hg] at hc;cases hc
    |some o=>
     rw[hg] at hc;refine okO_cell ?_ hc;rcases hk with hk|⟨o',ho'⟩|hk
     ·exact absurd hk hi
     ·have:=inl id o' ho';rw[hg] at this;have e:=Option.some.inj this.2.2.1;rw[e];exact this.2.2.2
     ·rw[hwf id hk] at hg;cases hg)
 refine⟨_,ι2,k2,⟨hs.1,fun t v e=> ?_⟩,fun id hid=> ?_,b1,fun id hi=>⟨by simp only[St.H,tlow id hi],fun k=>by simp only[St.H,tlow id hi]⟩⟩
 ·obtain⟨e1,e2⟩:=regK_get e;have:=List.all_eq_true.1 b5 _ e1;simp only[e2] at this;obtain⟨q1,q2⟩:=hs.2 t v e2;refine⟨q1,(okV_vr 9 this q2).mono (fun i hi=> ?_) fun i hi=>k1 i ((pk i hi.2).imp_right .inl)⟩;rcases hi.1 with h1|h1
  ·exact .inl h1
  ·exact .inr (hK1 i ((pk i hi.2).imp_right .inl) h1)
 ·have hid:m≤id:=hid;rw[tget];cases hl:lk l id with
  |none=>exact hwf0 id (by omega)
  |some o=>have:=(inl id o hl).2.1;omega
include hE
theorem Here.results {fn:Func} {v:Value} {ψ:Foot} (h:Here P E w0 σb ι0 nt s σ a w) (hr:resAll E s σ fn.results.toList=some ([v],ψ)) (hv:plainN 8 v=true):(results fn a.tmps).run P w=.ok v w:=by
 obtain⟨ι, -,hs,ho⟩:=h.hon hB;obtain⟨v',e1,e2, -⟩:=results_run hE hr hs (ho ψ);rw[e1,plain_eq 8 v v' hv e2]
omit hE in
theorem Here.going (h:Here P E w0 σb ι0 nt s σ a w) {Q:Exit→Act→World→Prop} {x:Exit} {wp:(Exit→Act→World→Prop)→Act→World→Prop}
  (hab:Abs3 σ σ' φ) (g:Good P E nt s s' σ σ' φ x wp) (hok:σ'.Ok) (hf:footB σb.next φ=true) (hQ:∀a' w',Here P E w0 σb ι0 nt s' σ' a' w'→a'.defers=a.defers→Q x a' w'):wp Q a w:=by
 obtain⟨φ0,ι,hp,hs,hwf,hle,hlow⟩:=h;have hwf0:=hB.wf;have hd:∀id,σb.rng σ id→¬id<σb.next:=fun id hid h=>by have:=hid.1;omega
 have hd2:∀id,σ.rng σ' id→¬(id<σb.next∨σb.rng σ id):=fun id hid h=>by
  simp only[St.rng] at hid h;omega
 refine g hok _ ι w a Q hwf (hB.gi.next hd hp.io) hd2 hs (hp.hon (hB.on _) hd) fun ι' w' a' h1 h2 h3=>hQ a' w' ⟨φ0.add φ,ι',?_,?_,(hab.2 hwf).1,Nat.le_trans hle hab.1,fun id hi=> ?_⟩ h2
 ·have ht:=Post.trans (hB.on _) hp h3 hd2 fun id hr=>by
   exact St.hdr_none hwf0 id (by simp only[St.rng] at hr;omega)
  rw[rng_union hle hab.1] at ht;exact ht
 ·rw[D_union _ hle hab.1] at h1;exact h1
 ·obtain⟨q1,q2⟩:=hlow id hi;have hn:¬σ.rng σ' id:=fun hr=>by simp only[St.rng] at hr;omega
  have hfr:=(hab.2 hwf).2;refine⟨(hfr.h id hn fun hx=> ?_).trans q1,fun k=>(hfr.c id k hn fun hx=> ?_).trans (q2 k)⟩
  ·have:=footB_spec hf (hx.wc 0);omega
  ·have:=footB_spec hf hx;omega
theorem Here.code (h:Here P E w0 σb ι0 nt s σ a w) {c:Code} {x:Exit} (hr:kEv P E n none nt c s σ=some (x,s',σ',φ)) (hok:σ'.Ok) (hf:footB σb.next φ=true) {Q:Exit→Act→World→Prop}
  (hQ:∀a' w',Here P E w0 σb ι0 nt s' σ' a' w'→a'.defers=a.defers→Q x a' w'):c.wp P Q a w:=by
 rw[kEv_eq] at hr;obtain⟨hab,g, -⟩:=(ev_ok hE n).plain _ _ _ _ _ _ _ _ hr;exact h.going hB hab g hok hf hQ
theorem Here.codes {d:Code} {Q:Exit→Act→World→Prop}:∀{l:List Code} {s:Tr Value} {σ:St} {a:Act} {w:World},Here P E w0 σb ι0 nt s σ a w→kEvL P E n nt σb.next l s σ=some (s',σ')→σ'.Ok→
  (∀a' w',Here P E w0 σb ι0 nt s' σ' a' w'→a'.defers=a.defers→d.wp P Q a' w')→(seqL l d).wp P Q a w
 |[],s,σ,a,w,h,hr,_,hQ=>by
  simp only[kEvL,Option.some.injEq,Prod.mk.injEq] at hr;obtain⟨rfl,rfl⟩:=hr;exact hQ a w h rfl
 |c::l,s,σ,a,w,h,hr,hok,hQ=>by
  simp only[kEvL] at hr
  split at hr
  ·rename_i s1 σ1 φ1 h1;cases hf:footB σb.next φ1
   ·rw[hf] at hr;cases hr
   rw[hf,cond_true] at hr;have hok1:σ1.Ok:=kEvL_ok hE l s1 σ1 s' σ' hr (by
    obtain⟨_,_,_,_,q,_⟩:=h;rw[kEv_eq] at h1;exact(((ev_ok hE n).plain _ _ _ _ _ _ _ _ h1).1.2 q).1) hok
   exact wp_seq (Here.code hE hB h h1 hok1 hf fun a1 w1 h2 e=>Here.codes h2 hr hok fun a' w' h3 e'=>hQ a' w' h3 (e'.trans e))
  ·cases hr
theorem Here.seg {d:Code} {Q:Exit→Act→World→Prop} {l:List Code} {m:Nat} {os:List (Nat×AO)} {keep:List Nat} {t:Tr Value} {pc:List Bool} (h:Here P E w0 σb ι0 nt s σ a w) (ora:List Nat) (hr:segR P E n nt σb l s ⟨σ.heap,σ.next,[],ora⟩ m os keep=some (t,pc)) (hp:AllP pc)
  (hQ:∀a' w',Here P E w0 σb ι0 nt t (backS σb m os) a' w'→a'.defers=a.defers→d.wp P Q a' w'):(seqL l d).wp P Q a w:=by
 unfold segR at hr
 split at hr
 ·rename_i s1 σ1 h1;cases hb:backB σb m os keep s1 σ1
  ·rw[hb] at hr;cases hr
  ·rw[hb,cond_true] at hr;cases hr;exact Here.codes hE hB (h.state (τ:=⟨σ.heap,σ.next,[],ora⟩) rfl rfl) h1 hp fun a' w' h2 e=>hQ a' w' (h2.back hB hb) e
 ·cases hr
theorem Here.piece {c:Code} {x:Exit} {Q:Exit→Act→World→Prop} {m:Nat} {os:List (Nat×AO)} {keep:List Nat} {t:Tr Value} {pc:List Bool} (h:Here P E w0 σb ι0 nt s σ a w) (ora:List Nat) (hr:segX P E n nt σb c s ⟨σ.heap,σ.next,[],ora⟩ m os keep=some (x,t,pc)) (hp:AllP pc)
  (hQ:∀a' w',Here P E w0 σb ι0 nt t (backS σb m os) a' w'→a'.defers=a.defers→Q x a' w'):c.wp P Q a w:=by
 unfold segX at hr
 split at hr
 ·rename_i x1 s1 σ1 φ1 h1;cases hf:footB σb.next φ1
  ·rw[hf] at hr;cases hr
  rw[hf,Bool.true_and] at hr;cases hb:backB σb m os keep s1 σ1
  ·rw[hb] at hr;cases hr
  ·rw[hb,cond_true] at hr;cases hr;exact Here.code hE hB (h.state (τ:=⟨σ.heap,σ.next,[],ora⟩) rfl rfl) h1 hp hf fun a' w' h3 e=>hQ a' w' (h3.back hB hb) e
 ·cases hr
end
end Go.Eng
end
end
end
section
noncomputable section
noncomputable section
namespace Go.Eng
open Go
def conc:Value→Value
 | .tuple a=>match a.toList with
   |[.chan (some 1),u]=>u
   |_=>.tuple a
 |v=>v
theorem conc_vr {D:Nat→Prop} {ι:Nat→Reg} {v v':Value} (h:VR D ι v v'):VR D ι (conc v) v':=by
 unfold conc
 split
 ·rename_i a
  split
  ·rename_i u hu;have ha:a=#[.chan (some 1),u]:=Array.ext' hu;subst ha;cases h with
   |sym _ hs=>exact scal_VR hs
   |tuple as bs hs hh=>
    have hb:bs[0]?=some (bs[0]'(by rw[←hs];exact Nat.succ_pos _)):=Array.getElem?_eq_getElem _;exact(hh 0 _ _ rfl hb).no_chan.elim
  ·exact h
 ·exact h
def allT:List Bool→Bool
 |[]=>true
 |p::l=>bif p then allT l else false
theorem allT_ok:∀{l:List Bool},allT l=true→AllP l
 |[],_=>trivial
 |p::l,h=>by
  cases p
  ·cases h
  ·exact⟨rfl,allT_ok h⟩
def plainP (E:Env) (f0:FuncId) (S:PSpec):FuncId→List Value→St→Option (Value×St×Foot):=fun f args σ=>
 bif Nat.beq f f0 then match callPure E S args σ with
  |some (v,σ',φ)=>bif allT σ'.pc then some (conc v,⟨σ'.heap,σ'.next,σ.pc,σ.ora⟩,φ) else none
  |none=>none
 else none
theorem plainP_ok {P:Program} {E E':Env} (hE:E.OK P) (hG:E'.G=E.G) (hgl:E'.gl=E.gl) {f0:FuncId} {S:PSpec} (hS:E.spec f0=some S) {f:FuncId} {args:List Value} {σ σ':St} {v:Value} {φ:Foot}
  (h:plainP E f0 S f args σ=some (v,σ',φ)):CusOK P E' f args σ v σ' φ:=by
 unfold plainP at h;cases hb:Nat.beq f f0
 ·rw[hb] at h;cases h
 rw[hb,cond_true] at h;have:=Nat.eq_of_beq_eq_true hb;subst this
 split at h
 ·rename_i v1 σ1 φ1 hc;cases hp:allT σ1.pc
  ·rw[hp] at h;cases h
  rw[hp,cond_true] at h;cases h;obtain⟨a1,a2,a3⟩:=callPure_sound hE hS hc;refine⟨a1,fun hw=>⟨fun i hi=>(a2 hw).1 i hi,⟨fun i=>(a2 hw).2.h i,fun i k=>(a2 hw).2.c i k,fun h=>h⟩⟩,fun _ D ι w args' hwf hGI hD ha ho=> ?_⟩;have hGI':GI E D ι:=by unfold GI at hGI⊢;rw[hG,hgl] at hGI;exact hGI
  refine(a3 (allT_ok hp) D ι w args' hwf hGI' hD ha ho).mono ?_;rintro en w' ⟨v',ι',he,hv,hq⟩;exact⟨v',ι',he,conc_vr hv,hq⟩
 ·cases h
def cusOr (a b:FuncId→List Value→St→Option (Value×St×Foot)):FuncId→List Value→St→Option (Value×St×Foot):=fun f args σ=>
 match a f args σ with
 |some r=>some r
 |none=>b f args σ
end Go.Eng
end
end
end
section
noncomputable section
noncomputable section
namespace Go.Eng
open Go
inductive Kt where
 |seq (c:Code)
 |block (id:Nat)
 |loop (b:Code)
 |scope (b:Code)
def aft (P:Program):List Kt→(Exit→Act→World→Prop)→Exit→Act→World→Prop
 |[],Q=>Q
 | .seq d::ks,Q=>Exit.then (d.wp P (aft P ks Q)) (aft P ks Q)
 | .block id::ks,Q=>Exit.inBlock id (aft P ks Q)
 | .loop b::ks,Q=>Exit.then (wpL P b (aft P ks Q)) (aft P ks Q)
 | .scope b::ks,Q=>Exit.inScope P b (aft P ks Q)
inductive Pl where
 |run (c:Code) (ks:List Kt)
 |head (b:Code) (ks:List Kt)
 |out (e:Exit) (ks:List Kt)
def Pl.wp (P:Program) (Q:Exit→Act→World→Prop):Pl→Act→World→Prop
 | .run c ks=>c.wp P (aft P ks Q)
 | .head b ks=>wpL P b (aft P ks Q)
 | .out e ks=>aft P ks Q e
def St.pop (σ:St) (ds:List Nat):St:=⟨σ.heap,σ.next,σ.pc,ds⟩
structure HAll (P:Program) (D:Nat→Prop) (ι:Nat→Reg) (h:H) (w:World):Prop where
 hd:∀id x,h.hdr id=some x→HdrOK P ι id w x
 ce:∀id k v,Lv h id→h.cell id k=some v→CellOK D ι id w k v
 inj:∀i j,Wr h i→Lv h j→i≠j→∀b,(ι i).Own b→¬(ι j).Own b∧¬(ι j).Fz b
theorem HAll.ceR {P:Program} {D:Nat→Prop} {ι:Nat→Reg} {h:H} {w:World} (ho:HAll P D ι h w) (id k:Nat) (v:Value) {n:Nat} {el:TypeId} {ro:Bool} (hh:h.hdr id=some (.row n el ro)) (hx:h.cell id k=some v):
  (ι id).own=true∧∃v',w.cell? ⟨(ι id).blk,(ι id).base+k,none⟩=some v'∧VR D ι v v':=by
 obtain⟨c,e,fr,hc,_⟩:=ho.hd id _ hh;obtain⟨o,v',e1,e2⟩:=ho.ce id k v ⟨_,hh⟩ hx;exact⟨o,v',e1.row hc,e2⟩
theorem HAll.on {P:Program} {D:Nat→Prop} {ι:Nat→Reg} {h:H} {w:World} (a:HAll P D ι h w) (φ:Foot):HOn P D ι h φ w:=
 ⟨fun id x _=>a.hd id x,fun id k v _=>a.ce id k v,fun i j _ _=>a.inj i j⟩
theorem Post.hall {P:Program} {D N:Nat→Prop} {ι ι1:Nat→Reg} {h h1:H} {w w1:World} {φ:Foot} (a:HAll P D ι h w) (p:Post P D N ι h w φ ι1 h1 w1) (hD:∀id,N id→¬D id):HAll P (fun i=>D i∨N i) ι1 h1 w1 where
 hd:=fun id x hx=>(p.hon (ψ:=⟨[],[id],[],[]⟩) (a.on _) hD).hd id x (.inr (.inl (by simp))) hx
 ce:=fun id k v hl hx=>(p.hon (ψ:=⟨[],[id],[],[]⟩) (a.on _) hD).ce id k v (.inr (.inl (by simp))) hl hx
 inj:=fun i j li lj hij=>(p.hon (ψ:=⟨[],[i,j],[],[]⟩) (a.on _) hD).inj i j (.inr (.inl (by simp))) (.inr (.inl (by simp))) li lj hij
def Asrt (P:Program) (E:Env) (nt:Nat) (pin:List (Nat×Reg)) (w0:World) (own0 z0:Nat→Prop) (s:Tr Value) (σ:St) (a:Act) (w:World):Prop:=
 ∃(D:Nat→Prop) (ι:Nat→Reg),σ.wf∧GI E D ι∧(∀id,D id→id<σ.next)∧SRel nt D ι s a∧HAll P D ι σ.H w∧a.defers=[]∧
  w0.heap.size≤w.heap.size∧w.os=w0.os∧w.output=w0.output∧(∀b,b<w0.heap.size→¬own0 b→w.heap[b]?=w0.heap[b]?)∧
  (∀id,Wr σ.H id→∀b,(ι id).Own b→w0.heap.size≤b∨own0 b)∧(∀id,Lv σ.H id→∀b,(ι id).Fz b→w0.heap.size≤b∨own0 b∨z0 b)∧∀p,p∈pin→D p.1∧ι p.1=p.2
section
variable {P:Program} {E:Env} {nt:Nat} {pin:List (Nat×Reg)} {w0:World} {own0 z0:Nat→Prop} {s s':Tr Value} {σ σ':St} {a a':Act} {w w':World} {φ:Foot}
theorem Asrt.step {D:Nat→Prop} {ι ι':Nat→Reg} (_hwf:σ.wf) (hG:GI E D ι) (hD:∀id,D id→id<σ.next) (hall:HAll P D ι σ.H w) (hdf:a.defers=[])
  (h1:w0.heap.size≤w.heap.size) (h2:w.os=w0.os) (h3:w.output=w0.output) (h4:∀b,b<w0.heap.size→¬own0 b→w.heap[b]?=w0.heap[b]?)
  (h5:∀id,Wr σ.H id→∀b,(ι id).Own b→w0.heap.size≤b∨own0 b) (h6:∀id,Lv σ.H id→∀b,(ι id).Fz b→w0.heap.size≤b∨own0 b∨z0 b) (h7:∀p,p∈pin→D p.1∧ι p.1=p.2)
  (hle:σ.next≤σ'.next) (hwf':σ'.wf) (hs':SRel nt (fun i=>D i∨σ.rng σ' i) ι' s' a') (hdf':a'.defers=a.defers) (p:Post P D (σ.rng σ') ι σ.H w φ ι' σ'.H w'):Asrt P E nt pin w0 own0 z0 s' σ' a' w':=by
 have hd:∀id,σ.rng σ' id→¬D id:=fun id hr hx=>by have:=hD id hx;simp only[St.rng] at hr;omega
 refine⟨fun i=>D i∨σ.rng σ' i,ι',hwf',hG.next hd p.io,fun id hx=> ?_,hs',p.hall hall hd,hdf'.trans hdf,Nat.le_trans h1 p.size,p.os.trans h2,p.out.trans h3,fun b hb hno=> ?_,fun id hw b hb=> ?_,fun id hl b hb=> ?_,fun q hq=> ?_⟩
 ·rcases hx with hx|hx
  ·have:=hD id hx;omega
  ·exact hx.2
 ·rw[←h4 b hb hno];exact(p.cfr b (Nat.lt_of_lt_of_le hb h1) fun id _ wr ho=>(h5 id wr b ho).elim (fun h=>by omega) hno).eq fun k ⟨id,_,_,wr,ho,_⟩=>(h5 id wr b ho).elim (fun h=>by omega) hno
 ·by_cases hn:σ.rng σ' id
  ·rcases p.fresh id hn hw.lv b hb with⟨h,_⟩|⟨k,_,_,wr,_,ho⟩
   ·exact .inl (by omega)
   ·exact h5 k wr b ho
  ·rw[p.io id hn] at hb;exact h5 id (p.wrm id hn hw) b hb
 ·by_cases hn:σ.rng σ' id
  ·rcases p.freshF id hn hl b hb with⟨h,_⟩|⟨k,_,_,wr,_,ho⟩|⟨k,_,_,lk,hf⟩
   ·exact .inl (by omega)
   ·exact(h5 k wr b ho).imp_right .inl
   ·exact h6 k lk b hf
  ·rw[p.io id hn] at hb;exact h6 id (p.lv hn hl) b hb
 ·obtain⟨k1,k2⟩:=h7 q hq;exact⟨.inl k1,by rw[p.io q.1 fun hr=>hd q.1 hr k1];exact k2⟩
theorem Asrt.pop {ds:List Nat} (h:Asrt P E nt pin w0 own0 z0 s σ a w):Asrt P E nt pin w0 own0 z0 s (σ.pop ds) a w:=h
end
def At (P:Program) (E:Env) (nt:Nat) (pin:List (Nat×Reg)) (Q:World→Exit→Act→World→Prop) (own0 z0:World→Nat→Prop) (p:Pl) (s:Tr Value) (σ:St):Prop:=
 ∀w0 a w,Asrt P E nt pin w0 (own0 w0) (z0 w0) s σ a w→p.wp P (Q w0) a w
section
variable {P:Program} {E:Env} {nt:Nat} {pin:List (Nat×Reg)} {Q:World→Exit→Act→World→Prop} {own0 z0:World→Nat→Prop}
theorem at_head {b:Code} {ks:List Kt} {s:Tr Value} {σ:St} (h:At P E nt pin Q own0 z0 (.run b (.loop b::ks)) s σ):At P E nt pin Q own0 z0 (.head b ks) s σ:=
 fun w0 a w hs=>wpL_of (h w0 a w hs)
end
end Go.Eng
end
end
end
