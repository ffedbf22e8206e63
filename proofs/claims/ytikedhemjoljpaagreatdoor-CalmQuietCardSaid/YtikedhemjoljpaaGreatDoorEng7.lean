/-
  The engine, part 7: an abstract evaluator over the model's code, proved sound. No condition.
-/
import Derived.Test.YtikedhemjoljpaaGreatDoorEng6
import Derived.Scope
section
noncomputable section
noncomputable section
namespace Go.Eng
open Go
def resOne (E:Env) (s:Tr Value) (σ:St):ResultVar→Option (Value×Foot)
 | .tmp t=>match s.get t with
   |some v=>some (v,.nil)
   |none=>none
 | .cell a t=>match s.get a with
   |some v=>match aLoad E.T σ t v with
    |some r=>some (r.v,r.φ)
    |none=>none
   |none=>none
def resAll (E:Env) (s:Tr Value) (σ:St):List ResultVar→Option (List Value×Foot)
 |[]=>some ([],.nil)
 |r::rs=>match resOne E s σ r with
  |some (v,φ)=>match resAll E s σ rs with
   |some (vs,ψ)=>some (v::vs,φ.add ψ)
   |none=>none
  |none=>none
def initS:Nat→List Value→Tr Value→Tr Value
 |_,[],t=>t
 |k,v::vs,t=>initS (k+1) vs (t.set k (some v))
theorem Post.grown {P:Program} {D N:Nat→Prop} {ι:Nat→Reg} {h:H} {w w':World} {φ:Foot} (hn:∀id,¬N id) (hs:Same w w') (h4:φ.wc=[]) (h5:φ.wh=[]):Post P D N ι h w φ ι h w' where
 io:=fun _ _=>rfl
 size:=hs.1
 os:=hs.2.1
 out:=hs.2.2.1
 hdr:=fun id x hx=>by rcases hx with hx|hx;simp[Foot.Wi,h5] at hx;exact absurd hx (hn id)
 cel:=fun id k v hx=>by rcases hx with hx|hx;simp[Foot.Wc,h4,h5] at hx;exact absurd hx (hn id)
 ahdr:=fun _ _ _=>rfl
 acel:=fun _ _ _ _=>rfl
 cfr:=fun b hb _=>by rw[hs.2.2.2 b hb];exact ObjBut.refl _ _
 fresh:=fun id hx=>absurd hx (hn id)
 freshF:=fun id hx=>absurd hx (hn id)
 dist:=fun i _ hx=>absurd hx (hn i)
 nl:=fun id hx=>absurd hx (hn id)
 wl:=fun id k hx=>by simp[Foot.Wc,h4,h5] at hx
 wrm:=fun _ _ hx=>hx
 wrow:=fun id k hx=>by simp[Foot.Wc,h4,h5] at hx
def callSum (E:Env) (v:Value) (σ:St):Option (Value×St×Foot):=bif glOK σ E.gl then some (v,σ,⟨[],E.gl.map (·.1),[],[]⟩) else none
def callSpec (E:Env) (S:PSpec) (args:List Value) (σ:St):Option (Value×St×Foot):=
 match argsD σ S.ts args with
 |some (x,ids,ps)=>bif glOK σ E.gl then match mat (dcsL S.rs (S.g x)) σ with
   |(vs,σ')=>some (resV (grp S.rs vs),σ'.assumes (S.pre x::ps),⟨[],ids++E.gl.map (·.1),[],[]⟩)
  else none
 |none=>none
def callLent (E:Env) (S:PSpec) (args:List Value) (σ:St):Option (Value×St×Foot):=
 match argsC σ S.ts args with
 |some c=>bif glOK σ E.gl&&S.rs.all Ty.flat&&isLive σ c.i&&isWr σ c.g then match mat (dcsL S.rs (S.g c.x)) σ with
   |(vs,σ')=>some (resV (grp S.rs vs),σ'.assumes (S.pre c.x::c.p),⟨[],(c.i++c.g)++E.gl.map (·.1),[],[]⟩)
  else none
 |none=>none
def callPure (E:Env) (S:PSpec) (args:List Value) (σ:St):Option (Value×St×Foot):=
 match callSpec E S args σ with
 |some r=>some r
 |none=>callLent E S args σ
def callVec (E:Env) (S:VSpec) (args:List Value) (σ:St):Option (Value×St×Foot):=
 match args with
 |[v]=>match v with
  | .tuple arr=>match arr.toList with
    |[.chan (some 2),.pointer (some ⟨id,0,none⟩)]=>match σ.heap.get id with
     |some (.vec t xs e)=>if h:t=S.t then(bif Nat.beq e S.e&&(glOK σ E.gl&& !memAny (E.gl.map (·.1)) [id]) then some (.tuple #[],(σ.put id (some (.vec S.t (S.g (h▸xs)) S.e))).assumes [S.pre (h▸xs)],⟨[],E.gl.map (·.1),[],[id]⟩) else none) else none
     |_=>none
    |_=>none
  |_=>none
 |_=>none
def callBy (E:Env) (run:Nat→Code→Tr Value→St→Option (Exit×Tr Value×St×Foot)):CallF:=fun f args σ=>
 match E.cus f args σ with
 |some r=>some r
 |none=>match E.sum f args with
 |some v=>callSum E v σ
 |none=>match E.spec f with
 |some S=>callPure E S args σ
 |none=>match E.osp f with
 |some S=>callObj E S args σ
 |none=>match E.vsp f with
 |some S=>callVec E S args σ
 |none=>match E.fn f with
 |some fn=>match fn.body with
  |some body=>bif Nat.ble args.length fn.ntmps then match run fn.ntmps body (initS 0 args .lf) σ with
    |some (x,s',σ',φ)=>match x with
     | .normal| .ret=>match resAll E s' σ' fn.results.toList with
       |some (vs,ψ)=>some (resV vs,σ',(φ.add ψ).trim σ.next)
       |none=>none
     |_=>none
    |none=>none
   else none
  |none=>none
 |none=>none
def ev (P:Program) (E:Env):Nat→Option Code→Nat→Code→Tr Value→St→Option (Exit×Tr Value×St×Foot)
 |0,_,_,_,_,_=>none
 |n+1,some body,nt,c,s,σ=>match ev P E n none nt c s σ with
  |some (x,s1,σ1,φ1)=>match x with
   | .goto l=>match findLabel body l with
     |some rest=>match ev P E n (some body) nt rest s1 σ1 with
      |some (y,s2,σ2,φ2)=>some (y,s2,σ2,φ1.add φ2)
      |none=>none
     |none=>some (.goto l,s1,σ1,φ1)
   |x=>some (x,s1,σ1,φ1)
  |none=>none
 |n+1,none,nt,c,s,σ=>match c with
  | .skip=>some (.normal,s,σ,.nil)
  | .label _=>some (.normal,s,σ,.nil)
  | .ret=>some (.ret,s,σ,.nil)
  | .exit id=>some (.exit id,s,σ,.nil)
  | .goto l=>some (.goto l,s,σ,.nil)
  | .region _ ops false=>match evOps P E (callBy E fun nt c s σ=>ev P E n none nt c s σ) nt ops.toList ops.toList s σ with
    |some (s',σ',φ)=>some (.normal,s',σ',φ)
    |none=>none
  | .region _ ops true=>match evSteps P E (callBy E fun nt c s σ=>ev P E n none nt c s σ) nt ops.toList ops.toList s σ with
    |some (s',σ',recs)=>bif okAll ops ops.toList recs [] ops.toList recs||drawB P E (callBy E fun nt c s σ=>ev P E n none nt c s σ) nt ops s σ s' σ' recs then some (.normal,s',σ',recsFoot recs) else none
    |none=>none
  | .seq x y=>match ev P E n none nt x s σ with
    |some (e,s1,σ1,φ1)=>match e with
     | .normal=>match ev P E n none nt y s1 σ1 with
       |some (e2,s2,σ2,φ2)=>some (e2,s2,σ2,φ1.add φ2)
       |none=>none
     |e=>some (e,s1,σ1,φ1)
    |none=>none
  | .cond cnd x y=>match av E.G s cnd with
    |some (.bool true)=>ev P E n none nt x s σ
    |some (.bool false)=>ev P E n none nt y s σ
    |_=>none
  | .block id body=>match ev P E n none nt body s σ with
    |some (e,s1,σ1,φ1)=>match e with
     | .exit id'=>bif Nat.beq id' id then some (.normal,s1,σ1,φ1) else some (.exit id',s1,σ1,φ1)
     |e=>some (e,s1,σ1,φ1)
    |none=>none
  | .loop body=>match ev P E n none nt body s σ with
    |some (e,s1,σ1,φ1)=>match e with
     | .normal=>match ev P E n none nt (.loop body) s1 σ1 with
       |some (e2,s2,σ2,φ2)=>some (e2,s2,σ2,φ1.add φ2)
       |none=>none
     |e=>some (e,s1,σ1,φ1)
    |none=>none
  | .scope body=>ev P E n (some body) nt body s σ
  |_=>none
section
variable {P:Program} {E:Env} (hE:E.OK P) {D:Nat→Prop} {ι:Nat→Reg} {σ σ':St} {w:World} {s s':Tr Value} {a:Act} {nt:Nat} {φ ψ:Foot}
include hE
theorem aLoad_run {t:TypeId} {x x':Value} {r:R} (h:aLoad E.T σ t x=some r) (hx:VR D ι x x') (ho:HOn P D ι σ.H r.φ w):∃v',(Instr.loadAt t x').run P w=.ok v' w∧VR D ι r.v v'∧r.σ=σ∧r.φ.wc=[]∧r.φ.wh=[]:=by
 unfold aLoad at h
 split at h
 ·rename_i id off;obtain⟨rfl,hD⟩:=hx.ptr_inv
  split at h
  ·rename_i cs e ro hg
   split at h
   ·rename_i d hd;cases hagg:isAggD d
    ·rw[hagg,cond_false,lget_eq] at h
     split at h
     ·rename_i v hv;cases h;obtain⟨-,v',e1,e2⟩:=ho.ceR id off v (.inl (by simp)) (St.hdr_of hg) (by rw[St.cell_of hg];exact hv);refine⟨v',?_,e2,rfl,rfl,rfl⟩;simp only[Instr.loadAt,Instr.sureAddr,loadVar,Sem.run_bind,Sem.run_pure,Result.andThen_ok,run_isAgg hE.T hd,hagg,Bool.false_eq_true,if_false,run_load,e1]
     ·cases h
    ·rw[hagg,cond_true] at h
     split at h
     ·rename_i i hi
      split at h
      ·rename_i l hl;cases h;obtain⟨c,e1,e2⟩:=loadCells_of hg hl ho fun j hj=>.inl (mem_locs.2 ⟨rfl,by omega,by omega⟩)
       refine⟨.agg c,?_,.agg _ _ e2.1 e2.2,rfl,rfl,rfl⟩;simp only[Instr.loadAt,Instr.sureAddr,loadVar,Sem.run_bind,Sem.run_pure,Result.andThen_ok,run_isAgg hE.T hd,hagg,if_true,run_siz hE.T hi,e1 w rfl]
      ·cases h
     ·cases h
   ·cases h
  ·cases h
 ·cases h
def resF (tmps:Array Value):ResultVar→Sem Value
 | .tmp t=>Pure.pure (tmps.getD t undef)
 | .cell a t=>do loadVar t (←asAddr (tmps.getD a undef))
theorem resOne_run {r:ResultVar} {v:Value} (h:resOne E s σ r=some (v,φ)) (hs:SRel nt D ι s a) (ho:HOn P D ι σ.H φ w):∃v',(resF a.tmps r).run P w=.ok v' w∧VR D ι v v'∧φ.wc=[]∧φ.wh=[]:=by
 unfold resOne at h
 split at h
 ·rename_i t
  split at h
  ·rename_i u hu;cases h;exact⟨_,rfl,(hs.2 t _ hu).2,rfl,rfl⟩
  ·cases h
 ·rename_i b t
  split at h
  ·rename_i u hu
   split at h
   ·rename_i r hr;cases h;have hv:=(hs.2 b _ hu).2;obtain⟨v',e1,e2,_,e4,e5⟩:=aLoad_run hE hr hv ho;refine⟨v',?_,e2,e4,e5⟩;have:∃id off,u=.pointer (some ⟨id,off,none⟩):=by
     unfold aLoad at hr
     split at hr
     ·exact⟨_,_,rfl⟩
     ·cases hr
    obtain⟨id,off,rfl⟩:=this;obtain⟨q,_⟩:=hv.ptr_inv;rw[q] at e1;simp only[resF,q,asAddr,Sem.run_bind,Sem.run_pure,Result.andThen_ok];simpa[Instr.loadAt,Instr.sureAddr] using e1
   ·cases h
  ·cases h
theorem resAll_run:∀(rs:List ResultVar) (vs:List Value) (φ:Foot),resAll E s σ rs=some (vs,φ)→SRel nt D ι s a→HOn P D ι σ.H φ w→
  ∃l:List Value,(rs.mapM (resF a.tmps)).run P w=.ok l w∧AR D ι vs.toArray l.toArray∧φ.wc=[]∧φ.wh=[]
 |[],vs,φ,h,_,_=>by
  simp only[resAll,Option.some.injEq,Prod.mk.injEq] at h;obtain⟨rfl,rfl⟩:=h;exact⟨[],rfl,⟨rfl,by simp⟩,rfl,rfl⟩
 |r::rs,vs,φ,h,hs,ho=>by
  simp only[resAll] at h
  split at h
  ·rename_i v φ1 h1
   split at h
   ·rename_i vs' φ2 h2;simp only[Option.some.injEq,Prod.mk.injEq] at h;obtain⟨rfl,rfl⟩:=h;obtain⟨v',e1,e2,e3,e4⟩:=resOne_run hE h1 hs (ho.sub (fun id x=>Foot.add_Fi.2 (.inl x)) fun id k x=>Foot.add_Fc.2 (.inl x));obtain⟨l,g1,g2,g3,g4⟩:=resAll_run rs vs' φ2 h2 hs (ho.sub (fun id x=>Foot.add_Fi.2 (.inr x)) fun id k x=>Foot.add_Fc.2 (.inr x))
    refine⟨v'::l,?_,⟨by simpa using g2.1,fun i x y hx hy=> ?_⟩,by simp[Foot.add,e3,g3],by simp[Foot.add,e4,g4]⟩
    ·simp only[List.mapM_cons,Sem.run_bind,e1,Result.andThen_ok,g1,Sem.run_pure]
    ·rcases i with _|i
     ·simp at hx hy;subst hx hy;exact e2
     ·exact g2.2 i x y (by simpa using hx) (by simpa using hy)
   ·cases h
  ·cases h
theorem results_run {fn:Func} {vs:List Value} (h:resAll E s σ fn.results.toList=some (vs,φ)) (hs:SRel nt D ι s a) (ho:HOn P D ι σ.H φ w):
  ∃v',(results fn a.tmps).run P w=.ok v' w∧VR D ι (resV vs) v'∧φ.wc=[]∧φ.wh=[]:=by
 obtain⟨l,e1,e2,e3,e4⟩:=resAll_run hE _ _ _ h hs ho;have hl:vs.length=l.length:=by simpa using e2.1
 have hm:(fn.results.mapM (resF a.tmps)).run P w=.ok l.toArray w:=by
  rw[Array.mapM_eq_mapM_toList,Sem.run_map,e1];rfl
 have hr:results fn a.tmps=(do let vs←fn.results.mapM (resF a.tmps);Pure.pure (if h:vs.size=1 then vs[0] else .tuple vs)):=by
  unfold results;congr 2
 refine⟨if h:l.toArray.size=1 then l.toArray[0] else .tuple l.toArray,?_,?_,e3,e4⟩
 ·rw[hr,Sem.run_bind,hm];rfl
 ·clear e1 hm h
  match vs,l,hl,e2 with
  |[],[],_,_=>exact .tuple _ _ rfl (by simp)
  |[v],[v'],_,e2=>exact e2.2 0 v v' (by simp) (by simp)
  |v::v2::vs,v'::v2'::l,_,e2=>
   simp only[List.size_toArray,List.length_cons,resV];rw[dif_neg (by omega)];exact .tuple _ _ e2.1 e2.2
omit hE
theorem initS_get:∀(vs:List Value) (k:Nat) (t:Tr Value) (j:Nat),(initS k vs t).get j=if k≤j∧j<k+vs.length then vs[j-k]? else t.get j
 |[],k,t,j=>by rw[initS,if_neg (by simp only[List.length_nil];omega)]
 |v::vs,k,t,j=>by
  rw[initS,initS_get vs (k+1),Tr.set_get];simp only[List.length_cons];by_cases e:j=k
  ·subst e;rw[if_neg (by omega),if_pos rfl,if_pos (by omega)];simp
  ·by_cases h:k+1≤j∧j<k+1+vs.length
   ·rw[if_pos h,if_pos (by omega),show j-k=(j-(k+1))+1 by omega];simp
   ·rw[if_neg h,if_neg e,if_neg (by omega)]
theorem initS_rel {args:List Value} {args':Array Value} {n:Nat} (h:AR D ι args.toArray args') (hl:args.length≤n):
  SRel n D ι (initS 0 args .lf) { tmps:=args'++Array.replicate (n-args'.size) undef,defers:=[]}:=by
 have hs:args.length=args'.size:=by simpa using h.1
 refine⟨by simp;omega,fun t v e=> ?_⟩;rw[initS_get] at e;by_cases ht:0≤t∧t<0+args.length
 ·rw[if_pos ht] at e;have hlt:t<args'.size:=by omega
  refine⟨by omega,?_⟩;rw[Array.getD_eq_getD_getElem?,Array.getElem?_append_left hlt,Array.getElem?_eq_getElem hlt];exact h.2 t v _ (by simpa using e) (Array.getElem?_eq_getElem hlt)
 ·rw[if_neg ht] at e;rw[Tr.get_lf] at e;cases e
def wpS (P:Program) (body c:Code) (Q:Exit→Act→World→Prop) (a:Act) (w:World):Prop:=
 ∀(b:Frame) (k:List Item) (cs:List Frame),∃e a' w',Q e a' w'∧Arrives P (lone (b.at a (.code c:: .inScope body::k)) cs w) b k cs e a' w'
def Exit.inScope (P:Program) (body:Code) (Q:Exit→Act→World→Prop):Exit→Act→World→Prop
 | .goto l,a,w=>match findLabel body l with
   |some rest=>wpS P body rest Q a w
   |none=>Q (.goto l) a w
 |e,a,w=>Q e a w
theorem wpS_of {body c:Code} {Q:Exit→Act→World→Prop} (h:c.wp P (Exit.inScope P body Q) a w):wpS P body c Q a w:=by
 intro b k cs;obtain⟨e,a₁,w₁,hq,harr⟩:=h b (.inScope body::k) cs;cases e with
 |normal=>exact⟨.normal,a₁,w₁,hq,Steps.trans harr (.one step_inScope)⟩
 |exit id=>exact⟨.exit id,a₁,w₁,hq,fun k' hk=>harr k' (by simp[exitTo,hk])⟩
 |goto l=>
  simp only[Exit.inScope] at hq
  split at hq
  ·rename_i rest hf;obtain⟨e₂,a₂,w₂,hq₂,harr₂⟩:=hq b k cs;exact⟨e₂,a₂,w₂,hq₂,.of_steps (harr _ (by simp[gotoIn,hf])) harr₂⟩
  ·rename_i hf;exact⟨.goto l,a₁,w₁,hq,fun k' hk=>harr k' (by simp[gotoIn,hf,hk])⟩
 |ret=>exact⟨_,a₁,w₁,hq,harr⟩
 |panic ch=>exact⟨_,a₁,w₁,hq,harr⟩
 |outgrown=>exact⟨_,a₁,w₁,hq,harr⟩
theorem wp_scope_of {body:Code} {Q:Exit→Act→World→Prop} (h:wpS P body body Q a w):(Code.scope body).wp P Q a w:=by
 intro b k cs;obtain⟨e,a₁,w₁,hq,harr⟩:=h b k cs;exact⟨e,a₁,w₁,hq,.of_steps (.one step_scope) harr⟩
def wpL (P:Program) (c:Code) (Q:Exit→Act→World→Prop) (a:Act) (w:World):Prop:=
 ∀(b:Frame) (k:List Item) (cs:List Frame),∃e a' w',Q e a' w'∧Arrives P (lone (b.at a (.code c:: .inLoop c::k)) cs w) b k cs e a' w'
theorem wpL_of {c:Code} {Q:Exit→Act→World→Prop} (h:c.wp P (Exit.then (wpL P c Q) Q) a w):wpL P c Q a w:=by
 intro b k cs;obtain⟨e,a₁,w₁,hq,harr⟩:=h b (.inLoop c::k) cs;cases e with
 |normal=>
  obtain⟨e₂,a₂,w₂,hq₂,harr₂⟩:=hq b k cs;exact⟨e₂,a₂,w₂,hq₂,.of_steps (Steps.trans harr (.one step_inLoop)) harr₂⟩
 |exit id=>exact⟨_,a₁,w₁,hq,.pass (x:=.inLoop c) rfl (fun _ _=>.inl (by simp)) harr⟩
 |goto l=>exact⟨_,a₁,w₁,hq,.pass (x:=.inLoop c) rfl (fun _ _=>.inl (by simp)) harr⟩
 |ret=>exact⟨_,a₁,w₁,hq,.pass (x:=.inLoop c) rfl (fun _ _=>.inl (by simp)) harr⟩
 |panic ch=>exact⟨_,a₁,w₁,hq,.pass (x:=.inLoop c) rfl (fun _ _=>.inl (by simp)) harr⟩
 |outgrown=>exact⟨_,a₁,w₁,hq,.pass (x:=.inLoop c) rfl (fun _ _=>.inl (by simp)) harr⟩
theorem wp_loop_of {c:Code} {Q:Exit→Act→World→Prop} (h:wpL P c Q a w):(Code.loop c).wp P Q a w:=by
 intro b k cs;obtain⟨e,a₁,w₁,hq,harr⟩:=h b k cs;exact⟨e,a₁,w₁,hq,.of_steps (.one step_loop) harr⟩
end
def Good (P:Program) (E:Env) (nt:Nat) (s s':Tr Value) (σ σ':St) (φ:Foot) (x:Exit) (wp:(Exit→Act→World→Prop)→Act→World→Prop):Prop:=
 σ'.Ok→∀(D:Nat→Prop) (ι:Nat→Reg) (w:World) (a:Act) (Q:Exit→Act→World→Prop),σ.wf→GI E D ι→(∀id,σ.rng σ' id→¬D id)→SRel nt D ι s a→HOn P D ι σ.H φ w→
  (∀ι' w' a',SRel nt (fun i=>D i∨σ.rng σ' i) ι' s' a'→a'.defers=a.defers→Post P D (σ.rng σ') ι σ.H w φ ι' σ'.H w'→Q x a' w')→wp Q a w
def Abs3 (σ σ':St) (φ:Foot):Prop:=σ.next≤σ'.next∧(σ.wf→σ'.wf∧AFr σ σ' φ)
theorem Abs3.refl (σ:St) (φ:Foot):Abs3 σ σ φ:=⟨Nat.le_refl _,fun hw=>⟨hw,AFr.refl _ _⟩⟩
theorem Abs3.trans {σ σ1 σ2:St} {φ ψ:Foot} (h:Abs3 σ σ1 φ) (h':Abs3 σ1 σ2 ψ):Abs3 σ σ2 (φ.add ψ):=
 ⟨Nat.le_trans h.1 h'.1,fun hw=>by
  obtain⟨w1,f1⟩:=h.2 hw;obtain⟨w2,f2⟩:=h'.2 w1;exact⟨w2,f1.trans f2 h.1 h'.1⟩⟩
section
variable {P:Program} {E:Env} {nt:Nat} {s s1 s2:Tr Value} {σ σ1 σ2:St} {φ ψ:Foot} {x y:Exit} {wp wp2:(Exit→Act→World→Prop)→Act→World→Prop}
theorem Good.here (h:∀Q a w,Q x a w→wp Q a w):Good P E nt s s σ σ .nil x wp:=fun _ _ ι w a Q _ _ _ hs _ hQ=>
 h Q a w (hQ ι w a (hs.mono (fun _=>.inl) fun _ _=>rfl) rfl (Post.refl _ _ _ _ _ _ (St.rng_self σ)))
theorem Good.mono (h:Good P E nt s s1 σ σ1 φ x wp) (hw:∀Q a w,wp (fun e a w=>e=x∧Q y a w) a w→wp2 Q a w):Good P E nt s s1 σ σ1 φ y wp2:=fun hok D ι w a Q hwf hG hd hs ho hQ=>
 hw Q a w (h hok D ι w a _ hwf hG hd hs ho fun ι' w' a' h1 h2 h3=>⟨rfl,hQ ι' w' a' h1 h2 h3⟩)
theorem Good.seq {wp3:(Exit→Act→World→Prop)→Act→World→Prop} (h1:Good P E nt s s1 σ σ1 φ x wp) (h2:Good P E nt s1 s2 σ1 σ2 ψ y wp2) (a1:Abs3 σ σ1 φ) (a2:Abs3 σ1 σ2 ψ)
  (hw:∀Q a w,wp (fun e a w=>e=x∧wp2 Q a w) a w→wp3 Q a w):Good P E nt s s2 σ σ2 (φ.add ψ) y wp3:=by
 intro hok D ι w a Q hwf hG hd hs ho hQ;have hok1:σ1.Ok:=(a2.2 (a1.2 hwf).1).2.ok hok;have hd1:∀id,σ.rng σ1 id→¬D id:=fun id hr=>hd id (by have:=a2.1;simp only[St.rng] at hr⊢;omega)
 refine hw Q a w (h1 hok1 D ι w a _ hwf hG hd1 hs (ho.sub (fun id x=>Foot.add_Fi.2 (.inl x)) fun id k x=>Foot.add_Fc.2 (.inl x)) fun ι' w' a' hs1 hdf hp=>⟨rfl,?_⟩);have hd2:∀id,σ1.rng σ2 id→¬(D id∨σ.rng σ1 id):=fun id hr hx=>by
  have:=a1.1;rcases hx with hx|hx
  ·exact hd id (by simp only[St.rng] at hr⊢;omega) hx
  ·simp only[St.rng] at hr hx;omega
 refine h2 hok _ ι' w' a' Q (a1.2 hwf).1 (hG.next hd1 hp.io) hd2 hs1 (hp.hon ho hd1) fun ι2 w2 a2' hs2 hdf2 hp2=> ?_
 have ht:=Post.trans ho hp hp2 hd2 fun id hr=>by
  have h:=a1.1;exact St.hdr_none hwf id (by simp only[St.rng] at hr;omega)
 rw[rng_union a1.1 a2.1] at ht;rw[D_union D a1.1 a2.1] at hs2;exact hQ ι2 w2 a2' hs2 (hdf2.trans hdf) ht
end
structure EvOK (P:Program) (E:Env) (n:Nat):Prop where
 plain:∀nt c s σ x s' σ' φ,ev P E n none nt c s σ=some (x,s',σ',φ)→Abs3 σ σ' φ∧Good P E nt s s' σ σ' φ x (fun Q a w=>c.wp P Q a w)∧∀body,c=.loop body→Good P E nt s s' σ σ' φ x (fun Q a w=>wpL P body Q a w)
 scope:∀body nt c s σ x s' σ' φ,ev P E n (some body) nt c s σ=some (x,s',σ',φ)→Abs3 σ σ' φ∧Good P E nt s s' σ σ' φ x (fun Q a w=>wpS P body c Q a w)
section
variable {P:Program} {E:Env} (hE:E.OK P)
include hE
theorem gl_here {σ:St} (hg:glOK σ E.gl=true) {D:Nat→Prop} {ι:Nat→Reg} {w:World} {φ:Foot} (hG:GI E D ι) (hf:∀p,p∈E.gl→p.1∈φ.rh) (ho:HOn P D ι σ.H φ w):GlW E.gl w:=by
 refine⟨fun p hp i c hc=> ?_,fun p hp=> ?_⟩
 ·obtain⟨e,ro,hrow⟩:=glOK_spec hg p hp;obtain⟨q1,q2⟩:=hE.gl p hp;obtain⟨-,u,hu,hr⟩:=ho.ceR p.1 i c (.inr (.inl (hf p hp))) (St.hdr_of hrow) (by rw[St.cell_of hrow];exact hc);rw[(hG p.1 q1).2.1,(hG p.1 q1).2.2.1,Nat.zero_add] at hu;exact⟨u,hu,.of (List.all_eq_true.1 q2 c (List.mem_of_getElem? hc)) hr⟩
 ·obtain⟨e,ro,hrow⟩:=glOK_spec hg p hp;obtain⟨q1, -⟩:=hE.gl p hp;obtain⟨c,e',fr,h1,h2, -⟩:=ho.hd p.1 _ (.inr (.inl (hf p hp))) (St.hdr_of hrow);rw[(hG p.1 q1).2.1] at h1;rw[(hG p.1 q1).2.2.1,(hG p.1 q1).2.2.2 p hp rfl,Nat.zero_add] at h2;exact⟨c,e',fr,h1,h2.symm⟩
omit hE in
theorem argsD_ids {σ:St}:∀(t:Ty) (cs:List Value) (x:t.Den) (r:List Value) (i:List Nat) (p:List Bool),cellsD σ t cs=some (x,r,i,p)→∀id,id∈i→Lv σ.H id:=by
 intro t
 induction t with
 |pair a b iha ihb=>
  intro cs x r i p h id hid;simp only[cellsD] at h
  split at h
  ·rename_i x1 r1 i1 p1 h1
   split at h
   ·rename_i x2 r2 i2 p2 h2;cases h;rcases List.mem_append.1 hid with hid|hid
    ·exact iha _ _ _ _ _ h1 id hid
    ·exact ihb _ _ _ _ _ h2 id hid
   ·cases h
  ·cases h
 |slice a ih=>
  intro cs x r i p h id hid;cases cs with
  |nil=>simp[cellsD] at h
  |cons v cs=>
   simp only[cellsD] at h
   split at h
   ·cases h;cases hid
   ·cases h;cases hid
   ·split at h
    ·split at h
     ·rename_i t xs hg
      split at h
      ·rename_i he;subst he;cases h;rw[List.mem_singleton] at hid;subst hid;exact St.lv_of hg
      ·cases h
     ·cases h
    ·cases h
   ·cases h
 |unit=>
  intro cs x r i p h id hid;simp only[cellsD,Option.some.injEq,Prod.mk.injEq] at h;obtain⟨-, -,rfl, -⟩:=h;cases hid
 |int k=>
  intro cs x r i p h id hid;cases cs with
  |nil=>simp[cellsD] at h
  |cons v cs=>
   simp only[cellsD,Bool.cond_eq_ite] at h
   repeat' split at h
   all_goals cases h
   cases hid
 |_=>
  intro cs x r i p h id hid;cases cs with
  |nil=>simp[cellsD] at h
  |cons v cs=>
   simp only[cellsD,Bool.cond_eq_ite] at h
   repeat' split at h
   all_goals cases h
   all_goals cases hid
omit hE in
theorem argsD_lv {σ:St}:∀(ts:List Ty) (vs:List Value) (x:DenL ts) (i:List Nat) (p:List Bool),argsD σ ts vs=some (x,i,p)→∀id,id∈i→Lv σ.H id
 |[],vs,x,i,p,h,id,hid=>by
  cases vs with
  |nil=>simp only[argsD,Option.some.injEq,Prod.mk.injEq] at h;obtain⟨-,rfl, -⟩:=h;cases hid
  |cons _ _=>simp[argsD] at h
 |t::ts,vs,x,i,p,h,id,hid=>by
  cases vs with
  |nil=>simp[argsD] at h
  |cons v vs=>
   simp only[argsD] at h
   split at h
   ·split at h
    ·rename_i x1 i1 p1 h1
     split at h
     ·rename_i y j q h2;cases h;rcases List.mem_append.1 hid with hid|hid
      ·exact argsD_ids t _ _ _ _ _ h1 id hid
      ·exact argsD_lv ts vs y j q h2 id hid
     ·cases h
    ·cases h
   ·cases h
theorem callSpec_sound {S:PSpec} {f:FuncId} (hS:E.spec f=some S) {args:List Value} {σ σ':St} {v:Value} {φ:Foot} (h:callSpec E S args σ=some (v,σ',φ)):
  σ.next≤σ'.next∧(σ.wf→σ'.wf∧AFr σ σ' φ)∧
  (σ'.Ok→∀(D:Nat→Prop) (ι:Nat→Reg) (w:World) (args':Array Value),σ.wf→GI E D ι→(∀id,σ.rng σ' id→¬D id)→AR D ι args.toArray args'→HOn P D ι σ.H φ w→
   Calls P f args' w fun e w'=>∃v' ι',e=.returned v'∧VR (fun i=>D i∨σ.rng σ' i) ι' v v'∧Post P D (σ.rng σ') ι σ.H w φ ι' σ'.H w'):=by
 unfold callSpec at h
 split at h
 ·rename_i x ids ps hargs;cases hg:glOK σ E.gl
  ·rw[hg] at h;cases h
  rw[hg,cond_true] at h;rcases hm:mat (dcsL S.rs (S.g x)) σ with⟨vs,σ1⟩
  rw[hm] at h;simp only[Option.some.injEq,Prod.mk.injEq] at h;obtain⟨rfl,rfl,rfl⟩:=h;have hab:=mat_sound (φ:=⟨[],ids++E.gl.map (·.1),[],[]⟩) hm;refine⟨(Abs.assumes (v:=undef) (S.pre x::ps) hab).1,(Abs.assumes (v:=undef) (S.pre x::ps) hab).2,?_⟩;intro hok D ι w args' hwf hG hd ha ho;obtain⟨⟨hpre,hps⟩, -⟩:=(assumes_ok _ _).1 hok
  have hI:∀id,id∈ids→∀x,σ.H.hdr id=some x→HdrOK P ι id w x:=fun id hid x hx=>ho.hd id x (.inr (.inl (by simp[hid]))) hx
  have hlr:LR D ι args args'.toList:=LR.of_AR (by simpa using ha);have hrd:=argsD_rd hI S.ts args args'.toList x ids ps hargs (fun _ h=>h) hps hlr;have hgl:GlW E.gl w:=gl_here hE hg hG (fun p hp=>by simp only[List.mem_append,List.mem_map];exact .inr ⟨p,hp,rfl⟩) ho;refine(hE.spec f S hS (fzU ι ids w) w args' x (fzU_ok ids) hgl hrd hpre).mono ?_
  rintro e w' ⟨ws,fz',rfl,h1,h2,h3,h4,h5⟩;obtain⟨us,u1,u2,u3⟩:=res_rd S.rs (S.g x) ws h4;obtain⟨ι',m1,m2,m3⟩:=mat_ok (dcsL S.rs (S.g x)) us D ι σ σ1 vs hm u1 u2;have hl:=u3 vs _ ι' m2 m3;refine⟨resV ws,ι',rfl,?_,?_⟩
  ·have hD:(fun i=>D i∨σ.rng (σ1.assumes (S.pre x::ps)) i)=fun i=>D i∨σ.rng σ1 i:=by
    have:(σ1.assumes (S.pre x::ps)).next=σ1.next:=by
     have:∀(ps:List Bool),(σ1.assumes ps).next=σ1.next:=fun ps=>by
      induction ps with
      |nil=>rfl
      |cons p ps ih=>exact ih
     exact this _
    funext i;simp only[St.rng,this]
   rw[hD]
   revert hl
   generalize grp S.rs vs=gs;intro hl;cases hl with
   |nil=>exact .tuple _ _ rfl (by simp)
   |cons h t=>
    cases t with
    |nil=>exact h
    |cons h2 t=>
     obtain⟨a1,a2⟩:=LR.AR (.cons h (.cons h2 t));exact .tuple _ _ a1 a2
  ·have hp:=Post.mats (P:=P) (D:=D) (φ:=⟨[],ids++E.gl.map (·.1),[],[]⟩) hwf m1 h5.1 h5.2.1 h5.2.2.1 h5.2.2.2 h2 (fun b c hb=> ?_) rfl rfl
   ·have:∀(ps:List Bool),(σ1.assumes ps).next=σ1.next∧(σ1.assumes ps).H=σ1.H:=fun ps=>by
     induction ps with
     |nil=>exact⟨rfl,rfl⟩
     |cons p ps ih=>exact ih
    obtain⟨q1,q2⟩:=this (S.pre x::ps);have hr:σ.rng (σ1.assumes (S.pre x::ps))=σ.rng σ1:=by funext i;simp only[St.rng,q1]
    rw[hr,q2];exact hp
   ·rcases h3 b c hb with hb|hb
    ·obtain⟨id,hid,hfz⟩:=fzU_in hb;have hlv:Lv σ.H id:=argsD_lv S.ts args x ids ps hargs id hid;exact .inr ⟨id,.inr (.inl (by simp[hid])),fun hr=>by have:=St.lv_lt hwf hlv;simp only[St.rng] at hr;omega,hlv,hfz⟩
    ·exact .inl hb
 ·cases h
theorem callLent_sound {S:PSpec} {f:FuncId} (hS:E.spec f=some S) {args:List Value} {σ σ':St} {v:Value} {φ:Foot} (h:callLent E S args σ=some (v,σ',φ)):
  σ.next≤σ'.next∧(σ.wf→σ'.wf∧AFr σ σ' φ)∧
  (σ'.Ok→∀(D:Nat→Prop) (ι:Nat→Reg) (w:World) (args':Array Value),σ.wf→GI E D ι→(∀id,σ.rng σ' id→¬D id)→AR D ι args.toArray args'→HOn P D ι σ.H φ w→
   Calls P f args' w fun e w'=>∃v' ι',e=.returned v'∧VR (fun i=>D i∨σ.rng σ' i) ι' v v'∧Post P D (σ.rng σ') ι σ.H w φ ι' σ'.H w'):=by
 unfold callLent at h
 split at h
 ·rename_i c hargs;cases hg:(glOK σ E.gl&&S.rs.all Ty.flat&&isLive σ c.i&&isWr σ c.g)
  ·rw[hg] at h;cases h
  rw[hg,cond_true] at h;simp only[Bool.and_eq_true] at hg;obtain⟨⟨⟨hg,hfl⟩,hlv⟩,hwr⟩:=hg;have hlv:=isLive_spec hlv;have hwr:=isWr_spec hwr;rcases hm:mat (dcsL S.rs (S.g c.x)) σ with⟨vs,σ1⟩
  rw[hm] at h;simp only[Option.some.injEq,Prod.mk.injEq] at h;obtain⟨rfl,rfl,rfl⟩:=h;have hab:=mat_sound (φ:=⟨[],(c.i++c.g)++E.gl.map (·.1),[],[]⟩) hm;refine⟨(Abs.assumes (v:=undef) (S.pre c.x::c.p) hab).1,(Abs.assumes (v:=undef) (S.pre c.x::c.p) hab).2,?_⟩;intro hok D ι w args' hwf hG hd ha ho;obtain⟨⟨hpre,hps⟩, -⟩:=(assumes_ok _ _).1 hok
  have hfi:∀id,id∈c.i∨id∈c.g→id∈(⟨[],(c.i++c.g)++E.gl.map (·.1),[],[]⟩:Foot).rh:=fun id hid=>List.mem_append_left _ (List.mem_append.2 hid)
  have hlr:LR D ι args args'.toList:=LR.of_AR (by simpa using ha);have hrd:=argsC_rd (is:=c.i) (gs:=c.g) (P:=P) (w:=w) (fun id hid x hx=>ho.hd id x (.inr (.inl (hfi id hid))) hx) (fun id hid k v hl hv=>ho.ce id k v (.inr (.inl (hfi id (.inr hid)))) hl hv) S.ts args args'.toList c hargs (fun _ h=>h) (fun _ h=>h) hps hlr
  have hgl:GlW E.gl w:=gl_here hE hg hG (fun p hp=>by simp only[List.mem_append,List.mem_map];exact .inr ⟨p,hp,rfl⟩) ho;refine(hE.spec f S hS (fzC ι c.i c.g w) w args' c.x fzC_ok hgl hrd hpre).mono ?_;rintro e w' ⟨ws,fz',rfl,h1,h2,h3,h4,h5⟩;have h4:RdAll (fun _=>none) S.rs (S.g c.x) ws:=h4.flat hfl;obtain⟨us,u1,u2,u3⟩:=res_rd S.rs (S.g c.x) ws h4
  obtain⟨ι',m1,m2,m3⟩:=mat_ok (dcsL S.rs (S.g c.x)) us D ι σ σ1 vs hm u1 u2;have hl:=u3 vs _ ι' m2 m3;have hsame:∀(ps:List Bool),(σ1.assumes ps).next=σ1.next∧(σ1.assumes ps).H=σ1.H:=fun ps=>by
   induction ps with
   |nil=>exact⟨rfl,rfl⟩
   |cons p ps ih=>exact ih
  obtain⟨q1,q2⟩:=hsame (S.pre c.x::c.p);have hr:σ.rng (σ1.assumes (S.pre c.x::c.p))=σ.rng σ1:=by funext i;simp only[St.rng,q1]
  refine⟨resV ws,ι',rfl,?_,?_⟩
  ·rw[hr];exact resV_rel hl
  ·rw[hr,q2];exact Post.mats (P:=P) (D:=D) (φ:=⟨[],(c.i++c.g)++E.gl.map (·.1),[],[]⟩) hwf m1 h5.1 h5.2.1 h5.2.2.1 h5.2.2.2 (fun b c h=>by cases h) (fun b c hb=>by cases hb) rfl rfl
 ·cases h
theorem callPure_sound {S:PSpec} {f:FuncId} (hS:E.spec f=some S) {args:List Value} {σ σ':St} {v:Value} {φ:Foot} (h:callPure E S args σ=some (v,σ',φ)):
  σ.next≤σ'.next∧(σ.wf→σ'.wf∧AFr σ σ' φ)∧
  (σ'.Ok→∀(D:Nat→Prop) (ι:Nat→Reg) (w:World) (args':Array Value),σ.wf→GI E D ι→(∀id,σ.rng σ' id→¬D id)→AR D ι args.toArray args'→HOn P D ι σ.H φ w→
   Calls P f args' w fun e w'=>∃v' ι',e=.returned v'∧VR (fun i=>D i∨σ.rng σ' i) ι' v v'∧Post P D (σ.rng σ') ι σ.H w φ ι' σ'.H w'):=by
 unfold callPure at h
 split at h
 ·rename_i r h';cases h;exact callSpec_sound hE hS h'
 ·exact callLent_sound hE hS h
theorem callVec_sound {S:VSpec} {f:FuncId} (hS:E.vsp f=some S) {args:List Value} {σ σ':St} {v:Value} {φ:Foot} (h:callVec E S args σ=some (v,σ',φ)):
  σ.next≤σ'.next∧(σ.wf→σ'.wf∧AFr σ σ' φ)∧
  (σ'.Ok→∀(D:Nat→Prop) (ι:Nat→Reg) (w:World) (args':Array Value),σ.wf→GI E D ι→(∀id,σ.rng σ' id→¬D id)→AR D ι args.toArray args'→HOn P D ι σ.H φ w→
   Calls P f args' w fun e w'=>∃v' ι',e=.returned v'∧VR (fun i=>D i∨σ.rng σ' i) ι' v v'∧Post P D (σ.rng σ') ι σ.H w φ ι' σ'.H w'):=by
 unfold callVec at h
 split at h
 ·rename_i v0
  split at h
  ·rename_i arr
   split at h
   ·rename_i id harr
    split at h
    ·rename_i t xs e hg;by_cases ht:t=S.t
     ·subst ht;rw[dif_pos rfl] at h;cases hb:(Nat.beq e S.e&&(glOK σ E.gl&& !memAny (E.gl.map (·.1)) [id]))
      ·rw[hb] at h;cases h
      rw[hb,cond_true] at h;simp only[Bool.and_eq_true,Bool.not_eq_true'] at hb;obtain⟨b1,b2,b3⟩:=hb;have b1:=Nat.eq_of_beq_eq_true b1;subst b1;have b3:=memAny_spec b3;simp only[Option.some.injEq,Prod.mk.injEq] at h;obtain⟨rfl,rfl,rfl⟩:=h;have habs:Abs σ ⟨.tuple #[],(σ.put id (some (.vec S.t (S.g xs) S.e))).assumes [S.pre xs],⟨[],E.gl.map (·.1),[],[id]⟩⟩:=Abs.assumes _ ⟨Nat.le_refl _,fun hw=>⟨St.put_wf hw (St.lv_lt hw (St.lv_of hg)) _,AFr.whole (by simp)⟩⟩
      obtain⟨q1,q2⟩:=assumes_same (σ:=σ.put id (some (.vec S.t (S.g xs) S.e))) [S.pre xs];refine⟨habs.1,habs.2,fun hok D ι w args' hwf hG hd hargs ho=> ?_⟩;obtain⟨⟨hpre, -⟩, -⟩:=(assumes_ok _ _).1 hok;obtain⟨v',rfl,hv⟩:∃v',args'=#[v']∧VR D ι (.tuple arr) v':=by
       have hs:args'.size=1:=hargs.1.symm;obtain⟨u,rfl⟩:∃u,args'=#[u]:=⟨args'[0]'(by omega),by
        apply Array.ext
        ·simpa using hs
        ·intro i h1 h2;have:i=0:=by simp at h2;omega
         subst this;rfl⟩
       exact⟨u,rfl,hargs.2 0 _ _ rfl rfl⟩
      rw[tuple_eq harr] at hv;obtain⟨a,l,c,rfl,hD,hsv⟩:=dt_inv hv;have hFi:∀p,p∈E.gl→p.1∈E.gl.map (·.1):=fun p hp=>List.mem_map_of_mem hp
      have hgl:=gl_here hE b2 hG hFi ho;have hh:HdrOK P ι id w (.vec S.t xs S.e):=ho.hd id _ (Foot.Wi.fi (by simp[Foot.Wi])) (St.hdr_of hg);have hno:∀p,p∈E.gl→¬(ι id).Own p.1:=fun p hp hown=>by
       obtain⟨e',ro,hrow⟩:=glOK_spec b2 p hp;have hne:id≠p.1:=fun he=>b3 id (by rw[he];exact hFi p hp) (by simp)
       have hrd:HdrOK P ι p.1 w _:=ho.hd p.1 _ (.inr (.inl (hFi p hp))) (St.hdr_of hrow);have hr:=hrd.own_row;rw[(hG p.1 (hE.gl p hp).1).2.1] at hr;exact(ho.inj id p.1 (Foot.Wi.fi (by simp[Foot.Wi])) (.inr (.inl (hFi p hp))) ⟨_,St.hdr_of hg,trivial⟩ (St.lv_of hrow) hne p.1 hown).1 hr
      rw[←hsv];refine(hE.vsp f S hS (ι id) w xs hgl (hh.as rfl) hno hpre).mono ?_;rintro e w' ⟨rfl,h1,h2,h3,h4,h5⟩;have hP:=Post.setVec (D:=D) (rh:=E.gl.map (·.1)) (rc:=[]) hg (h1.as (ι0:=ι) (c:=id) rfl) h2 h3 h4 h5;refine⟨.tuple #[],ι,rfl,.tuple _ _ rfl (fun i x y hx=>by simp at hx),?_⟩;have hrng:σ.rng ((σ.put id (some (.vec S.t (S.g xs) S.e))).assumes [S.pre xs])=σ.rng (σ.put id (some (.vec S.t (S.g xs) S.e))):=by funext i;simp only[St.rng,q1]
      rw[hrng,q2];exact hP
     ·rw[dif_neg ht] at h;cases h
    ·cases h
   ·cases h
  ·cases h
 ·cases h
theorem callBy_sound {n:Nat} (hn:EvOK P E n):CallSound P E (callBy E fun nt c s σ=>ev P E n none nt c s σ):=by
 refine⟨fun f args σ v σ' φ h=> ?_⟩;unfold callBy at h
 split at h
 ·rename_i r hr;cases h;exact hE.cus _ _ _ _ _ _ hr
 split at h
 ·rename_i v0 hs;unfold callSum at h;cases hg:glOK σ E.gl
  ·rw[hg] at h;cases h
  ·rw[hg,cond_true] at h;cases h;obtain⟨p1,p2,p3⟩:=hE.sum _ _ _ hs;refine⟨Nat.le_refl _,fun hw=>⟨hw,AFr.refl _ _⟩,fun _ D ι w args' hwf hG hd hargs ho=> ?_⟩;rw[plain_arr p2 hargs];have hgl:GlW E.gl w:=gl_here hE hg hG (fun p hp=>by simpa using⟨p.2,hp⟩) ho;refine(p3 w hgl).mono fun e w' ⟨he,hsame⟩=>⟨v,ι,he,(plain_refl 8 v p1).mono (fun _=>.inl) fun _ _=>rfl,Post.grown (St.rng_self σ) hsame rfl rfl⟩
 split at h
 ·rename_i S hS;exact callPure_sound hE hS h
 split at h
 ·rename_i S hS;exact callObj_sound hE (fun hg _ _ _ _ hG hf ho=>gl_here hE hg hG hf ho) hS h
 split at h
 ·rename_i S hS;exact callVec_sound hE hS h
 split at h
 ·rename_i fn hfn;obtain⟨p1,p2,p3⟩:=hE.fn f fn hfn
  split at h
  ·rename_i body hbody;cases hl:Nat.ble args.length fn.ntmps
   ·rw[hl] at h;cases h
   ·rw[hl,cond_true] at h;have hl:=Nat.le_of_ble_eq_true hl
    split at h
    ·rename_i x s' σ1 φ1 hev;obtain⟨ha,hg,_⟩:=hn.plain _ _ _ _ _ _ _ _ hev;have key:(x=.normal∨x=.ret)∧∃vs ψ,resAll E s' σ1 fn.results.toList=some (vs,ψ)∧v=resV vs∧σ'=σ1∧φ=(φ1.add ψ).trim σ.next:=by
      split at h
      ·split at h
       ·rename_i vs ψ hr;cases h;exact⟨.inl rfl,vs,ψ,hr,rfl,rfl,rfl⟩
       ·cases h
      ·split at h
       ·rename_i vs ψ hr;cases h;exact⟨.inr rfl,vs,ψ,hr,rfl,rfl,rfl⟩
       ·cases h
      ·cases h
     obtain⟨hx,vs,ψ,hr,rfl,rfl,rfl⟩:=key;have habs:Abs3 σ σ' (φ1.add ψ):=ha.trans (Abs3.refl _ _);refine⟨habs.1,fun hw=>⟨(habs.2 hw).1,(habs.2 hw).2.trim hw (habs.2 hw).1⟩,?_⟩;intro hok D ι w args' hwf hG hd hargs ho;have ho:=ho.untrim fun id hid=>St.hdr_none hwf id hid
     refine calls_of_wp p1 hbody ?_;refine hg hok D ι w _ _ hwf hG hd (initS_rel hargs hl) (ho.sub (fun id x=>Foot.add_Fi.2 (.inl x)) fun id k x=>Foot.add_Fc.2 (.inl x)) ?_;intro ι' w' a' hs1 hdf hp;obtain⟨v',e1,e2,e3,e4⟩:=results_run hE hr hs1 (hp.hon ho hd);have hpost:Post P D (σ.rng σ') ι σ.H w ((φ1.add ψ).trim σ.next) ι' σ'.H w':=by
      refine Post.trim (fun id hid=>St.hdr_none hwf id hid) (hp.same_foot (fun id=> ?_) (fun id k=> ?_) fun id hf=>Foot.add_Fi.2 (.inl hf))
      ·rw[Foot.add_Wi];exact⟨fun h=>h.resolve_right fun h=>by simp[Foot.Wi,e4] at h,.inl⟩
      ·rw[Foot.add_Wc];exact⟨fun h=>h.resolve_right fun h=>by simp[Foot.Wc,e3,e4] at h,.inl⟩
     have hfin:a'.defers=[]∧∃v,(results fn a'.tmps).run P w'=.ok v w'∧∃v'' ι'',Ending.returned v=.returned v''∧VR (fun i=>D i∨σ.rng σ' i) ι'' (resV vs) v''∧Post P D (σ.rng σ') ι σ.H w ((φ1.add ψ).trim σ.next) ι'' σ'.H w':=
      ⟨hdf,v',e1,v',ι',rfl,e2,hpost⟩
     rcases hx with rfl|rfl
     ·exact hfin
     ·exact hfin
    ·cases h
  ·cases h
 ·cases h
end
end Go.Eng
end
end
end
section
noncomputable section
noncomputable section
namespace Go.Eng
open Go
section
variable {P:Program} {E:Env} (hE:E.OK P)
theorem noLoop {c:Code} {Q:Code→Prop} (h:∀body,c≠ .loop body):∀body,c=.loop body→Q body:=fun body e=>absurd e (h body)
include hE
theorem ev_ok:∀n,EvOK P E n
 |0=>⟨fun nt c s σ x s' σ' φ h=>by simp[ev] at h,fun body nt c s σ x s' σ' φ h=>by simp[ev] at h⟩
 |n+1=>by
  have ih:=ev_ok n;have hC:=callBy_sound hE ih;refine⟨fun nt c s σ x s' σ' φ h=> ?_,fun body nt c s σ x s' σ' φ h=> ?_⟩
  ·cases c with
   |skip=>
    simp only[ev,Option.some.injEq,Prod.mk.injEq] at h;obtain⟨rfl,rfl,rfl,rfl⟩:=h;exact⟨Abs3.refl _ _,Good.here fun Q a w h=>wp_skip h,noLoop (by simp)⟩
   |label l=>
    simp only[ev,Option.some.injEq,Prod.mk.injEq] at h;obtain⟨rfl,rfl,rfl,rfl⟩:=h;exact⟨Abs3.refl _ _,Good.here fun Q a w h=>wp_label h,noLoop (by simp)⟩
   |ret=>
    simp only[ev,Option.some.injEq,Prod.mk.injEq] at h;obtain⟨rfl,rfl,rfl,rfl⟩:=h;exact⟨Abs3.refl _ _,Good.here fun Q a w h=>wp_ret h,noLoop (by simp)⟩
   |exit id=>
    simp only[ev,Option.some.injEq,Prod.mk.injEq] at h;obtain⟨rfl,rfl,rfl,rfl⟩:=h;exact⟨Abs3.refl _ _,Good.here fun Q a w h=>wp_exit h,noLoop (by simp)⟩
   |goto l=>
    simp only[ev,Option.some.injEq,Prod.mk.injEq] at h;obtain⟨rfl,rfl,rfl,rfl⟩:=h;exact⟨Abs3.refl _ _,Good.here fun Q a w h=>wp_goto h,noLoop (by simp)⟩
   |region id ops draw=>
    cases draw with
    |false=>
     simp only[ev] at h
     split at h
     ·rename_i s1 σ1 φ1 h1;simp only[Option.some.injEq,Prod.mk.injEq] at h;obtain⟨rfl,rfl,rfl,rfl⟩:=h;obtain⟨a1,a2,a3⟩:=evOps_sound hE hC ops.toList 0 _ _ _ _ _ h1 fun j _=>by simp
      refine⟨⟨a1,a2⟩,fun hok D ι w a Q hwf hG hd hs ho hQ=>wp_region ?_,noLoop (by simp)⟩;have:=a3 hwf hok D ι w a Q hwf hG hd hs ho hQ;rw[List.range_eq_range'];simpa using this
     ·cases h
    |true=>
     simp only[ev] at h
     split at h
     ·rename_i s1 σ1 recs h1;cases hb:(okAll ops ops.toList recs [] ops.toList recs||drawB P E (callBy E fun nt c s σ=>ev P E n none nt c s σ) nt ops s σ s1 σ1 recs)
      ·rw[hb] at h;cases h
      ·rw[hb,cond_true] at h;simp only[Option.some.injEq,Prod.mk.injEq] at h;obtain⟨rfl,rfl,rfl,rfl⟩:=h;have hdr:DrawOK P E (callBy E fun nt c s σ=>ev P E n none nt c s σ) nt ops s σ s1 σ1 recs:=by
        rw[Bool.or_eq_true] at hb;rcases hb with hb|hb
        ·exact DrawOK.of h1 hb
        ·exact drawB_t.1 hb
       obtain⟨a1,a2,a3⟩:=evDraw_core hE hC hdr;refine⟨⟨a1,a2⟩,fun hok D ι w a Q hwf hG hd hs ho hQ=>wp_region_any hE.mixed ?_,noLoop (by simp)⟩;have hh:HOn P D ι σ.H (recsFoot recs) { w with drawn:=w.drawn+1}:=⟨ho.hd,ho.ce,ho.inj⟩
       refine a3 hok D ι _ a Q hwf hG hd hs hh fun ι' w' a' h1 h2 h3=>hQ ι' w' a' h1 h2 ?_
       exact⟨h3.io,h3.size,h3.os,h3.out,h3.hdr,h3.cel,h3.ahdr,h3.acel,h3.cfr,h3.fresh,h3.freshF,h3.dist,h3.nl,h3.wl,h3.wrm,h3.wrow⟩
     ·cases h
   |seq u v=>
    simp only[ev] at h
    split at h
    ·rename_i e s1 σ1 φ1 h1;obtain⟨a1,g1, -⟩:=ih.plain _ _ _ _ _ _ _ _ h1
     split at h
     ·split at h
      ·rename_i e2 s2 σ2 φ2 h2;simp only[Option.some.injEq,Prod.mk.injEq] at h;obtain⟨rfl,rfl,rfl,rfl⟩:=h;obtain⟨b1,g2, -⟩:=ih.plain _ _ _ _ _ _ _ _ h2;refine⟨a1.trans b1,g1.seq g2 a1 b1 fun Q a w hw=>wp_seq (wp_mono hw ?_),noLoop (by simp)⟩;rintro e a w ⟨rfl,h⟩;exact h
      ·cases h
     ·rename_i hno;simp only[Option.some.injEq,Prod.mk.injEq] at h;obtain⟨rfl,rfl,rfl,rfl⟩:=h;refine⟨a1,g1.mono fun Q a w hw=>wp_seq (wp_mono hw ?_),noLoop (by simp)⟩;rintro e a w ⟨rfl,h⟩;cases e<;>first|exact h|exact absurd rfl hno
    ·cases h
   |cond cnd u v=>
    simp only[ev] at h;have hc:∀b,av E.G s cnd=some (.bool b)→∀(D:Nat→Prop) (ι:Nat→Reg) (a:Act),GI E D ι→SRel nt D ι s a→a.eval cnd=.bool b:=by
     intro b hb D ι a hG hs;have hr:Rel E.G D ι s a.eval cnd:=rel_of hG.b fun t _ v hv=>(hs.2 t v hv).2
     have:=hr _ hb;generalize a.eval cnd=z at this;cases this;rfl
    split at h
    ·rename_i hb;obtain⟨a1,g1, -⟩:=ih.plain _ _ _ _ _ _ _ _ h;exact⟨a1,fun hok D ι w a Q hwf hG hd hs ho hQ=>wp_cond_true (hc _ hb D ι a hG hs) (g1 hok D ι w a Q hwf hG hd hs ho hQ),noLoop (by simp)⟩
    ·rename_i hb;obtain⟨a1,g1, -⟩:=ih.plain _ _ _ _ _ _ _ _ h;exact⟨a1,fun hok D ι w a Q hwf hG hd hs ho hQ=>wp_cond_false (hc _ hb D ι a hG hs) (g1 hok D ι w a Q hwf hG hd hs ho hQ),noLoop (by simp)⟩
    ·cases h
   |block id body=>
    simp only[ev] at h
    split at h
    ·rename_i e s1 σ1 φ1 h1;obtain⟨a1,g1, -⟩:=ih.plain _ _ _ _ _ _ _ _ h1
     split at h
     ·rename_i id';cases hb:Nat.beq id' id
      ·rw[hb,cond_false] at h;have hne:id'≠id:=fun e=>by rw[beq_t e] at hb;cases hb
       simp only[Option.some.injEq,Prod.mk.injEq] at h;obtain⟨rfl,rfl,rfl,rfl⟩:=h;refine⟨a1,g1.mono fun Q a w hw=>wp_block (wp_mono hw ?_),noLoop (by simp)⟩;rintro e a w ⟨rfl,h⟩;simp only[Exit.inBlock,hne,if_false];exact h
      ·rw[hb,cond_true] at h;have he:=Nat.eq_of_beq_eq_true hb;simp only[Option.some.injEq,Prod.mk.injEq] at h;obtain⟨rfl,rfl,rfl,rfl⟩:=h;refine⟨a1,g1.mono fun Q a w hw=>wp_block (wp_mono hw ?_),noLoop (by simp)⟩;rintro e a w ⟨rfl,h⟩;simp only[Exit.inBlock,he,if_true];exact h
     ·rename_i hno;simp only[Option.some.injEq,Prod.mk.injEq] at h;obtain⟨rfl,rfl,rfl,rfl⟩:=h;refine⟨a1,g1.mono fun Q a w hw=>wp_block (wp_mono hw ?_),noLoop (by simp)⟩;rintro e a w ⟨rfl,h⟩;cases e<;>first|exact h|exact absurd rfl (hno _)
    ·cases h
   |loop body=>
    have key:Abs3 σ σ' φ∧Good P E nt s s' σ σ' φ x (fun Q a w=>wpL P body Q a w):=by
     simp only[ev] at h
     split at h
     ·rename_i e s1 σ1 φ1 h1;obtain⟨a1,g1, -⟩:=ih.plain _ _ _ _ _ _ _ _ h1
      split at h
      ·split at h
       ·rename_i e2 s2 σ2 φ2 h2;simp only[Option.some.injEq,Prod.mk.injEq] at h;obtain⟨rfl,rfl,rfl,rfl⟩:=h;obtain⟨b1, -,g2⟩:=ih.plain _ _ _ _ _ _ _ _ h2;refine⟨a1.trans b1,g1.seq (g2 body rfl) a1 b1 fun Q a w hw=>wpL_of (wp_mono hw ?_)⟩;rintro e a w ⟨rfl,h⟩;exact h
       ·cases h
      ·rename_i hno;simp only[Option.some.injEq,Prod.mk.injEq] at h;obtain⟨rfl,rfl,rfl,rfl⟩:=h;refine⟨a1,g1.mono fun Q a w hw=>wpL_of (wp_mono hw ?_)⟩;rintro e a w ⟨rfl,h⟩;cases e<;>first|exact h|exact absurd rfl hno
     ·cases h
    refine⟨key.1,fun hok D ι w a Q hwf hG hd hs ho hQ=>wp_loop_of (key.2 hok D ι w a Q hwf hG hd hs ho hQ),fun b e=> ?_⟩;cases e;exact key.2
   |scope body=>
    simp only[ev] at h;obtain⟨a1,g1⟩:=ih.scope _ _ _ _ _ _ _ _ _ h;exact⟨a1,fun hok D ι w a Q hwf hG hd hs ho hQ=>wp_scope_of (g1 hok D ι w a Q hwf hG hd hs ho hQ),noLoop (by simp)⟩
   |rangeFunc f ps as b=>simp[ev] at h
   |refuse why=>simp[ev] at h
  ·simp only[ev] at h
   split at h
   ·rename_i e s1 σ1 φ1 h1;obtain⟨a1,g1, -⟩:=ih.plain _ _ _ _ _ _ _ _ h1
    split at h
    ·rename_i l
     split at h
     ·rename_i rest hf
      split at h
      ·rename_i y s2 σ2 φ2 h2;simp only[Option.some.injEq,Prod.mk.injEq] at h;obtain⟨rfl,rfl,rfl,rfl⟩:=h;obtain⟨b1,g2⟩:=ih.scope _ _ _ _ _ _ _ _ _ h2;refine⟨a1.trans b1,g1.seq g2 a1 b1 fun Q a w hw=>wpS_of (wp_mono hw ?_)⟩;rintro e a w ⟨rfl,h⟩;simp only[Exit.inScope,hf];exact h
      ·cases h
     ·rename_i hf;simp only[Option.some.injEq,Prod.mk.injEq] at h;obtain⟨rfl,rfl,rfl,rfl⟩:=h;refine⟨a1,g1.mono fun Q a w hw=>wpS_of (wp_mono hw ?_)⟩;rintro e a w ⟨rfl,h⟩;simp only[Exit.inScope,hf];exact h
    ·rename_i hno;simp only[Option.some.injEq,Prod.mk.injEq] at h;obtain⟨rfl,rfl,rfl,rfl⟩:=h;refine⟨a1,g1.mono fun Q a w hw=>wpS_of (wp_mono hw ?_)⟩;rintro e a w ⟨rfl,h⟩;cases e<;>first|exact h|exact absurd rfl (hno _)
   ·cases h
def evCall (P:Program) (E:Env) (n:Nat):CallF:=callBy E fun nt c s σ=>ev P E n none nt c s σ
theorem evCall_sound (n:Nat):CallSound P E (evCall P E n):=callBy_sound hE (ev_ok hE n)
end
end Go.Eng
end
end
end
section
noncomputable section
noncomputable section
namespace Go.Eng
open Go
def ofL {α:Type}:Nat→List α→Tr α→Tr α
 |_,[],t=>t
 |k,x::xs,t=>ofL (k+1) xs (t.set k (some x))
theorem ofL_get {α:Type}:∀(l:List α) (k:Nat) (t:Tr α) (j:Nat),(ofL k l t).get j=if k≤j∧j<k+l.length then l[j-k]? else t.get j
 |[],k,t,j=>by rw[ofL,if_neg (by simp only[List.length_nil];omega)]
 |v::vs,k,t,j=>by
  rw[ofL,ofL_get vs (k+1),Tr.set_get];simp only[List.length_cons];by_cases e:j=k
  ·subst e;rw[if_neg (by omega),if_pos rfl,if_pos (by omega)];simp
  ·by_cases h:k+1≤j∧j<k+1+vs.length
   ·rw[if_pos h,if_pos (by omega),show j-k=(j-(k+1))+1 by omega];simp
   ·rw[if_neg h,if_neg e,if_neg (by omega)]
theorem ofL_some {α:Type} {l:List α} {j:Nat} {x:α} (h:(ofL 0 l .lf).get j=some x):l[j]?=some x:=by
 rw[ofL_get] at h;by_cases hj:0≤j∧j<0+l.length
 ·rw[if_pos hj] at h;simpa using h
 ·rw[if_neg hj] at h;rw[Tr.get_lf] at h;cases h
def undOf (t:Tr TypeInfo) (k:TypeId):Option TypeDesc:=
 match t.get k with
 |some i=>match i.desc with
  | .named _ u=>match t.get u with
    |some j=>some j.desc
    |none=>none
  |d=>some d
 |none=>none
def teOf (t:Tr TypeInfo):TE:=⟨undOf t,t.get⟩
def fnOf (t:Tr Func) (f:FuncId):Option Func:=
 match t.get f with
 |some fn=>match fn.body with
  |some _=>some fn
  |none=>none
 |none=>none
theorem teOf_ok {P:Program} {t:Tr TypeInfo} (ht:t=ofL 0 P.types.toList .lf):(teOf t).OK P:=by
 have hinf:∀k i,t.get k=some i→P.info? k=some i:=by
  intro k i h;rw[ht] at h;have:=ofL_some h;rw[Array.getElem?_toList] at this;have hlt:k<P.types.size:=by
   rcases Nat.lt_or_ge k P.types.size with h|h
   ·exact h
   ·rw[Array.getElem?_eq_none h] at this;cases this
  show(if k<P.types.size then P.types[k]? else _)=some i;rw[if_pos hlt];exact this
 refine⟨fun k d h=> ?_,hinf⟩;unfold teOf undOf at h;simp only at h;unfold Program.underlying
 split at h
 ·rename_i i hi;rw[hinf k i hi];obtain⟨desc,a1,a2,a3,a4,a5,a6,a7,a8,a9⟩:=i;cases desc with
  |named nm u=>
   simp only at h⊢
   split at h
   ·rename_i j hj;cases h;rw[hinf u j hj];rfl
   ·cases h
  |_=>simp only at h⊢;exact h
 ·cases h
theorem fnOf_ok {P:Program} {t:Tr Func} (ht:t=ofL 0 P.funcs.toList .lf) (hn:P.funcs.toList.all (fun f=> !(f.name== "runtime.NumGoroutine"))=true):
  ∀f x,fnOf t f=some x→P.funcs[f]?=some x∧x.body.isSome=true∧(x.name== "runtime.NumGoroutine")=false:=by
 intro f x h;unfold fnOf at h
 split at h
 ·rename_i fn hf
  split at h
  ·rename_i b hb;cases h;rw[ht] at hf;have:=ofL_some hf;refine⟨by rw[←Array.getElem?_toList];exact this,by rw[hb];rfl,?_⟩;have:=List.all_eq_true.1 hn x (List.mem_of_getElem? this);simpa using this
  ·cases h
 ·cases h
end Go.Eng
end
end
end
