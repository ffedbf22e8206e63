/-
  The engine, part 7: an abstract evaluator over the model's code, proved sound. No condition.
-/
import Derived.Test.YtkgejlchafionaaGreatDoorEng6
import Derived.Scope
open Array renaming getElem?_eq_getElem->CX,getElem?_toList->Bf
open Bool renaming and_eq_true->A0,cond_eq_ite->Dn
open Go renaming Act->CP,Code->ER,Exit->Dx,FuncId->BT,Program->Ao,ResultVar->bT,TypeInfo->EF,Value->AJ,World->AN,loadVar->rM,results->PD,undef->Bi,wp_block->rN,wp_mono->Mt
open Go.Exit renaming inBlock->Ug
open Go.Instr renaming loadAt->Kq,sureAddr->Gs
open Go.Result renaming andThen_ok->Ax
open Go.Sem renaming run_bind->A7,run_pure->A9
open Go.Steps renaming trans->ye
open List renaming all_eq_true->C8,length_cons->B7,length_nil->E8,mem_append->CH,mem_append_left->Du,mem_append_right->C3,mem_map->Ju,mem_of_getElem?->yf
open Nat renaming beq->Af,ble->B8,eq_of_beq_eq_true->Br,le_refl->Ak,zero_add->CJ
open Option renaming none->AF,some->AC
open Option.some renaming injEq->BJ
open Prod.mk renaming injEq->Ct
open Pure renaming pure->Ck
open _root_ renaming Array->Aa,List->AE,Nat->AB,Option->AP,absurd->Aq,cond_true->Ag,if_neg->AY,if_pos->Ae
section
noncomputable section
noncomputable section
namespace Go.Eng
open Go
def cX(E:Env)(s:Tr AJ)(σ:St):bT->AP (AJ×Foot)
 | .tmp t=>match s.get t with
   |some v=>AC (v,.nil)
   |none=>AF
 | .cell a t=>match s.get a with
   |some v=>match Mm E.T σ t v with
    |some r=>AC (r.v,r.φ)
    |none=>AF
   |none=>AF
def Fj(E:Env)(s:Tr AJ)(σ:St):AE bT->AP (AE AJ×Foot)
 |[]=>AC ([],.nil)
 |r::rs=>match cX E s σ r with
  |some (v,φ)=>match Fj E s σ rs with
   |some (vs,ψ)=>AC (v::vs,φ.add ψ)
   |none=>AF
  |none=>AF
def F1:AB->AE AJ->Tr AJ->Tr AJ
 |_,[],t=>t
 |k,v::vs,t=>F1 (k+1) vs (t.set k (AC v))
theorem Post.grown{P:Ao}{D N:AB->Prop}{ι:AB->Reg}{h:H}{w w':AN}{φ:Foot}(a:∀id,¬N id)(c:DU w w')(e:φ.wc=[])(d:φ.wh=[]):Post P D N ι h w φ ι h w' where
 io:=λ_ _=>rfl
 size:=c.1
 os:=c.2.1
 out:=c.2.2.1
 hdr:=λid x hx=>by rcases hx with hx|hx;simp[Foot.Wi,d]at hx;exact Aq hx (a id)
 cel:=λid k v hx=>by rcases hx with hx|hx;simp[Foot.Wc,e,d]at hx;exact Aq hx (a id)
 ahdr:=λ_ _ _=>rfl
 acel:=λ_ _ _ _=>rfl
 cfr:=λb f _=>by rw[c.2.2.2 b f];exact CR.refl _ _
 fresh:=λid hx=>Aq hx (a id)
 freshF:=λid hx=>Aq hx (a id)
 dist:=λi _ hx=>Aq hx (a i)
 nl:=λid hx=>Aq hx (a id)
 wl:=λid k hx=>by simp[Foot.Wc,e,d]at hx
 wrm:=λ_ _ hx=>hx
 wrow:=λid k hx=>by simp[Foot.Wc,e,d]at hx
def XM(E:Env)(v:AJ)(σ:St):AP (AJ×St×Foot):=bif NC σ E.gl then AC (v,σ,⟨[],E.gl.map (·.1),[],[]⟩)else AF
def Sp(E:Env)(S:PSpec)(args:AE AJ)(σ:St):AP (AJ×St×Foot):=
 match Lg σ S.ts args with
 |some (x,a,b)=>bif NC σ E.gl then match Gm (IK S.rs (S.g x)) σ with
   |(vs,σ')=>AC (Er (Ry S.rs vs),σ'.assumes (S.pre x::b),⟨[],a++E.gl.map (·.1),[],[]⟩)
  else AF
 |none=>AF
def Sq(E:Env)(S:PSpec)(args:AE AJ)(σ:St):AP (AJ×St×Foot):=
 match QO σ S.ts args with
 |some c=>bif NC σ E.gl&&S.rs.all Ty.flat&&Fp σ c.i&&Me σ c.g then match Gm (IK S.rs (S.g c.x)) σ with
   |(vs,σ')=>AC (Er (Ry S.rs vs),σ'.assumes (S.pre c.x::c.p),⟨[],(c.i++c.g)++E.gl.map (·.1),[],[]⟩)
  else AF
 |none=>AF
def Nw(E:Env)(S:PSpec)(args:AE AJ)(σ:St):AP (AJ×St×Foot):=
 match Sp E S args σ with
 |some r=>AC r
 |none=>Sq E S args σ
def Rn(E:Env)(S:VSpec)(args:AE AJ)(σ:St):AP (AJ×St×Foot):=
 match YC S.ri args with
 |some (v,a)=>match v with
  | .tuple b=>match b.toList with
    |[.chan (AC 2),.pointer (AC ⟨id,0,AF⟩)]=>match σ.heap.get id with
     |some (.vec t d e)=>if h:t=S.t then(match QO σ S.ts a with
      |some c=>bif Af e S.e&&(NC σ E.gl&&(!HA ((c.i++c.g)++E.gl.map (·.1)) [id]&&(Fp σ c.i&&(Me σ c.g&&S.rs.all Ty.flat))))then
       (match Gm (IK S.rs (S.g (h▸d) c.x).2) (σ.put id (AC (.vec S.t (S.g (h▸d) c.x).1 S.e)))with
       |(vs,σ')=>AC (Er (Ry S.rs vs),σ'.assumes (S.pre (h▸d) c.x::c.p),(⟨[],(c.i++c.g)++E.gl.map (·.1),[],[id]⟩:Foot).add .nil))else AF
      |none=>AF)else AF
     |_=>AF
    |_=>AF
  |_=>AF
 |_=>AF
def J2(E:Env)(run:AB->ER->Tr AJ->St->AP (Dx×Tr AJ×St×Foot)):Eh:=λf args σ=>
 match E.sum f args with
 |some v=>XM E v σ
 |none=>match E.spec f with
 |some S=>Nw E S args σ
 |none=>match E.osp f with
 |some S=>Rl E S args σ
 |none=>match E.vsp f with
 |some S=>Rn E S args σ
 |none=>match E.fn f with
 |some fn=>match fn.body with
  |some body=>bif B8 args.length fn.ntmps then match run fn.ntmps body (F1 0 args .lf) σ with
    |some (x,s',σ',φ)=>match x with
     | .normal| .ret=>match Fj E s' σ' fn.results.toList with
       |some (vs,ψ)=>AC (Er vs,σ',(φ.add ψ).trim σ.next)
       |none=>AF
     |_=>AF
    |none=>AF
   else AF
  |none=>AF
 |none=>AF
def ev(P:Ao)(E:Env):AB->AP ER->AB->ER->Tr AJ->St->AP (Dx×Tr AJ×St×Foot)
 |0,_,_,_,_,_=>AF
 |n+1,AC body,nt,c,s,σ=>match ev P E n AF nt c s σ with
  |some (x,s1,σ1,φ1)=>match x with
   | .goto l=>match findLabel body l with
     |some a=>match ev P E n (AC body) nt a s1 σ1 with
      |some (y,s2,σ2,φ2)=>AC (y,s2,σ2,φ1.add φ2)
      |none=>AF
     |none=>AC (.goto l,s1,σ1,φ1)
   |x=>AC (x,s1,σ1,φ1)
  |none=>AF
 |n+1,AF,nt,c,s,σ=>match c with
  | .skip=>AC (.normal,s,σ,.nil)
  | .label _=>AC (.normal,s,σ,.nil)
  | .ret=>AC (.ret,s,σ,.nil)
  | .exit id=>AC (.exit id,s,σ,.nil)
  | .goto l=>AC (.goto l,s,σ,.nil)
  | .region _ ops false=>match LO P E (J2 E λnt c s σ=>ev P E n AF nt c s σ) nt ops.toList ops.toList s σ with
    |some (s',σ',φ)=>AC (.normal,s',σ',φ)
    |none=>AF
  | .region _ ops true=>match Ff P E (J2 E λnt c s σ=>ev P E n AF nt c s σ) nt ops.toList ops.toList s σ with
    |some (s',σ',recs)=>bif ANO ops ops.toList recs [] ops.toList recs then AC (.normal,s',σ',Co recs)else AF
    |none=>AF
  | .seq x y=>match ev P E n AF nt x s σ with
    |some (e,s1,σ1,φ1)=>match e with
     | .normal=>match ev P E n AF nt y s1 σ1 with
       |some (d,s2,σ2,φ2)=>AC (d,s2,σ2,φ1.add φ2)
       |none=>AF
     |e=>AC (e,s1,σ1,φ1)
    |none=>AF
  | .cond f x y=>match av E.G s f with
    |some (.bool true)=>ev P E n AF nt x s σ
    |some (.bool false)=>ev P E n AF nt y s σ
    |_=>AF
  | .block id body=>match ev P E n AF nt body s σ with
    |some (e,s1,σ1,φ1)=>match e with
     | .exit b=>bif Af b id then AC (.normal,s1,σ1,φ1)else AC (.exit b,s1,σ1,φ1)
     |e=>AC (e,s1,σ1,φ1)
    |none=>AF
  | .loop body=>match ev P E n AF nt body s σ with
    |some (e,s1,σ1,φ1)=>match e with
     | .normal=>match ev P E n AF nt (.loop body) s1 σ1 with
       |some (d,s2,σ2,φ2)=>AC (d,s2,σ2,φ1.add φ2)
       |none=>AF
     |e=>AC (e,s1,σ1,φ1)
    |none=>AF
  | .scope body=>ev P E n (AC body) nt body s σ
  |_=>AF
section
variable {P:Ao} {E:Env} (hE:E.OK P) {D:AB->Prop} {ι:AB->Reg} {σ σ':St} {w:AN} {s s':Tr AJ} {a:CP} {nt:AB} {φ ψ:Foot}
include hE
theorem jN{t:TypeId}{x k:AJ}{r:R}(h:Mm E.T σ t x=AC r)(n:VR D ι x k)(m:HOn P D ι σ.H r.φ w):∃v',(Kq t k).run P w=.ok v' w/\VR D ι r.v v'/\r.σ=σ/\r.φ.wc=[]/\r.φ.wh=[]:=by
 unfold Mm at h
 split at h
 ·rename_i id off;obtain⟨rfl,s⟩:=n.ptr_inv
  split at h
  ·rename_i u e y f
   split at h
   ·rename_i d hd;cases a:J4 d
    ·rw[a,cond_false,Rq]at h
     split at h
     ·rename_i v o;cases h;obtain⟨-,v',g,b⟩:=m.ce id off v (.inl (by simp)) (St.lv_of f) (by rw[St.cell_of f];exact o);refine⟨v',?_,b,rfl,rfl,rfl⟩;simp only[Kq,Gs,rM,A7,A9,Ax,Ec hE.T hd,a,Bool.false_eq_true,if_false,run_load,g]
     ·cases h
    ·rw[a,Ag]at h
     split at h
     ·rename_i i p
      split at h
      ·rename_i l q;cases h;obtain⟨c,g,b⟩:=Dj f q m λj z=>.inl (Di.2 ⟨rfl,by omega,by omega⟩)
       refine⟨.agg c,?_,.agg _ _ b.1 b.2,rfl,rfl,rfl⟩;simp only[Kq,Gs,rM,A7,A9,Ax,Ec hE.T hd,a,if_true,Bb hE.T p,g w rfl]
      ·cases h
     ·cases h
   ·cases h
  ·cases h
 ·cases h
def cY(tmps:Aa AJ):bT->Sem AJ
 | .tmp t=>Ck (tmps.getD t Bi)
 | .cell a t=>do rM t (<-asAddr (tmps.getD a Bi))
theorem cZ{r:bT}{v:AJ}(h:cX E s σ r=AC (v,φ))(e:JD nt D ι s a)(i:HOn P D ι σ.H φ w):∃v',(cY a.tmps r).run P w=.ok v' w/\VR D ι v v'/\φ.wc=[]/\φ.wh=[]:=by
 unfold cX at h
 split at h
 ·rename_i t
  split at h
  ·rename_i u d;cases h;exact⟨_,rfl,(e.2 t _ d).2,rfl,rfl⟩
  ·cases h
 ·rename_i b t
  split at h
  ·rename_i u d
   split at h
   ·rename_i r c;cases h;have f:=(e.2 b _ d).2;obtain⟨v',g,j,_,k,l⟩:=jN hE c f i;refine⟨v',?_,j,k,l⟩;have:∃id off,u=.pointer (AC ⟨id,off,AF⟩):=by
     unfold Mm at c
     split at c
     ·exact⟨_,_,rfl⟩
     ·cases c
    obtain⟨id,off,rfl⟩:=this;obtain⟨q,_⟩:=f.ptr_inv;rw[q]at g;simp only[cY,q,asAddr,A7,A9,Ax];simpa[Kq,Gs]using g
   ·cases h
  ·cases h
theorem ANQ:∀(rs:AE bT) (vs:AE AJ) (φ:Foot),Fj E s σ rs=AC (vs,φ)->JD nt D ι s a->HOn P D ι σ.H φ w->
  ∃l:AE AJ,(rs.mapM (cY a.tmps)).run P w=.ok l w/\AR D ι vs.toArray l.toArray/\φ.wc=[]/\φ.wh=[]
 |[],vs,φ,h,_,_=>by
  simp only[Fj,BJ,Ct]at h;obtain⟨rfl,rfl⟩:=h;exact⟨[],rfl,⟨rfl,by simp⟩,rfl,rfl⟩
 |r::rs,vs,φ,h,d,e=>by
  simp only[Fj]at h
  split at h
  ·rename_i v φ1 g
   split at h
   ·rename_i vs' φ2 j;simp only[BJ,Ct]at h;obtain⟨rfl,rfl⟩:=h;obtain⟨v',m,n,o,p⟩:=cZ hE g d (e.sub (λid x=>Foot.add_Fi.2 (.inl x)) λid k x=>Foot.add_Fc.2 (.inl x));obtain⟨l,g1,f,g3,g4⟩:=ANQ rs vs' φ2 j d (e.sub (λid x=>Foot.add_Fi.2 (.inr x)) λid k x=>Foot.add_Fc.2 (.inr x))
    refine⟨v'::l,?_,⟨by simpa using f.1,λi x y b c=> ?_⟩,by simp[Foot.add,o,g3],by simp[Foot.add,p,g4]⟩
    ·simp only[List.mapM_cons,A7,m,Ax,g1,A9]
    ·rcases i with _|i
     ·simp at b c;subst b c;exact n
     ·exact f.2 i x y (by simpa using b) (by simpa using c)
   ·cases h
  ·cases h
theorem Y3{fn:Func}{vs:AE AJ}(h:Fj E s σ fn.results.toList=AC (vs,φ))(e:JD nt D ι s a)(f:HOn P D ι σ.H φ w):
  ∃v',(PD fn a.tmps).run P w=.ok v' w/\VR D ι (Er vs) v'/\φ.wc=[]/\φ.wh=[]:=by
 obtain⟨l,c,b,g,i⟩:=ANQ hE _ _ _ h e f;have j:vs.length=l.length:=by simpa using b.1
 have d:(fn.results.mapM (cY a.tmps)).run P w=.ok l.toArray w:=by
  rw[Array.mapM_eq_mapM_toList,Sem.run_map,c];rfl
 have k:PD fn a.tmps=(do let vs<-fn.results.mapM (cY a.tmps);Ck (if h:vs.size=1 then vs[0]else .tuple vs)):=by
  unfold PD;congr 2
 refine⟨if h:l.toArray.size=1 then l.toArray[0]else .tuple l.toArray,?_,?_,g,i⟩
 ·rw[k,A7,d];rfl
 ·clear c d h
  match vs,l,j,b with
  |[],[],_,_=>exact .tuple _ _ rfl (by simp)
  |[v],[v'],_,b=>exact b.2 0 v v' (by simp) (by simp)
  |v::v2::vs,v'::m::l,_,b=>
   simp only[List.size_toArray,B7,Er];rw[dif_neg (by omega)];exact .tuple _ _ b.1 b.2
omit hE
theorem VZ:∀(vs:AE AJ) (k:AB) (t:Tr AJ) (j:AB),(F1 k vs t).get j=if k<=j/\j<k+vs.length then vs[j-k]? else t.get j
 |[],k,t,j=>by rw[F1,AY (by simp only[E8];omega)]
 |v::vs,k,t,j=>by
  rw[F1,VZ vs (k+1),Tr.set_get];simp only[B7];by_cases e:j=k
  ·subst e;rw[AY (by omega),Ae rfl,Ae (by omega)];simp
  ·by_cases h:k+1<=j/\j<k+1+vs.length
   ·rw[Ae h,Ae (by omega),show j-k=(j-(k+1))+1 by omega];simp
   ·rw[AY h,AY e,AY (by omega)]
theorem MP{args:AE AJ}{a:Aa AJ}{n:AB}(h:AR D ι args.toArray a)(d:args.length<=n):
  JD n D ι (F1 0 args .lf) { tmps:=a++Array.replicate (n-a.size) Bi,defers:=[]}:=by
 have f:args.length=a.size:=by simpa using h.1
 refine⟨by simp;omega,λt v e=> ?_⟩;rw[VZ]at e;by_cases c:0<=t/\t<0+args.length
 ·rw[Ae c]at e;have b:t<a.size:=by omega
  refine⟨by omega,?_⟩;rw[Array.getD_eq_getD_getElem?,Array.getElem?_append_left b,CX b];exact h.2 t v _ (by simpa using e) (CX b)
 ·rw[AY c]at e;rw[Tr.get_lf]at e;cases e
def wpS(P:Ao)(body c:ER)(Q:Dx->CP->AN->Prop)(a:CP)(w:AN):Prop:=
 ∀(b:Frame) (k:AE Item) (d:AE Frame),∃e f w',Q e f w'/\Arrives P (lone (b.at a (.code c:: .inScope body::k)) d w) b k d e f w'
def Exit.inScope(P:Ao)(body:ER)(Q:Dx->CP->AN->Prop):Dx->CP->AN->Prop
 | .goto l,a,w=>match findLabel body l with
   |some b=>wpS P body b Q a w
   |none=>Q (.goto l) a w
 |e,a,w=>Q e a w
theorem Sr{body c:ER}{Q:Dx->CP->AN->Prop}(h:c.wp P (Exit.inScope P body Q) a w):wpS P body c Q a w:=by
 intro b k m;obtain⟨e,a₁,w₁,f,d⟩:=h b (.inScope body::k) m;cases e with
 |normal=>exact⟨.normal,a₁,w₁,f,ye d (.one step_inScope)⟩
 |exit id=>exact⟨.exit id,a₁,w₁,f,λg i=>d g (by simp[exitTo,i])⟩
 |goto l=>
  simp only[Exit.inScope]at f
  split at f
  ·rename_i n j;obtain⟨e₂,a₂,w₂,hq₂,harr₂⟩:=f b k m;exact⟨e₂,a₂,w₂,hq₂,.of_steps (d _ (by simp[gotoIn,j])) harr₂⟩
  ·rename_i j;exact⟨.goto l,a₁,w₁,f,λg i=>d g (by simp[gotoIn,j,i])⟩
 |ret=>exact⟨_,a₁,w₁,f,d⟩
 |panic o=>exact⟨_,a₁,w₁,f,d⟩
 |outgrown=>exact⟨_,a₁,w₁,f,d⟩
theorem QR{body:ER}{Q:Dx->CP->AN->Prop}(h:wpS P body body Q a w):(Code.scope body).wp P Q a w:=by
 intro b k d;obtain⟨e,a₁,w₁,f,c⟩:=h b k d;exact⟨e,a₁,w₁,f,.of_steps (.one step_scope) c⟩
def wpL(P:Ao)(c:ER)(Q:Dx->CP->AN->Prop)(a:CP)(w:AN):Prop:=
 ∀(b:Frame) (k:AE Item) (d:AE Frame),∃e f w',Q e f w'/\Arrives P (lone (b.at a (.code c:: .inLoop c::k)) d w) b k d e f w'
theorem XN{c:ER}{Q:Dx->CP->AN->Prop}(h:c.wp P (Exit.then (wpL P c Q) Q) a w):wpL P c Q a w:=by
 intro b k g;obtain⟨e,a₁,w₁,f,d⟩:=h b (.inLoop c::k) g;cases e with
 |normal=>
  obtain⟨e₂,a₂,w₂,hq₂,harr₂⟩:=f b k g;exact⟨e₂,a₂,w₂,hq₂,.of_steps (ye d (.one step_inLoop)) harr₂⟩
 |exit id=>exact⟨_,a₁,w₁,f,.pass (x:=.inLoop c) rfl (λ_ _=>.inl (by simp)) d⟩
 |goto l=>exact⟨_,a₁,w₁,f,.pass (x:=.inLoop c) rfl (λ_ _=>.inl (by simp)) d⟩
 |ret=>exact⟨_,a₁,w₁,f,.pass (x:=.inLoop c) rfl (λ_ _=>.inl (by simp)) d⟩
 |panic i=>exact⟨_,a₁,w₁,f,.pass (x:=.inLoop c) rfl (λ_ _=>.inl (by simp)) d⟩
 |outgrown=>exact⟨_,a₁,w₁,f,.pass (x:=.inLoop c) rfl (λ_ _=>.inl (by simp)) d⟩
theorem Ss{c:ER}{Q:Dx->CP->AN->Prop}(h:wpL P c Q a w):(Code.loop c).wp P Q a w:=by
 intro b k f;obtain⟨e,a₁,w₁,g,d⟩:=h b k f;exact⟨e,a₁,w₁,g,.of_steps (.one step_loop) d⟩
end
def K2(P:Ao)(E:Env)(nt:AB)(s s':Tr AJ)(σ σ':St)(φ:Foot)(x:Dx)(wp:(Dx->CP->AN->Prop)->CP->AN->Prop):Prop:=
 σ'.Ok->∀(D:AB->Prop) (ι:AB->Reg) (w:AN) (a:CP) (Q:Dx->CP->AN->Prop),σ.wf->GI E D ι->(∀id,σ.rng σ' id->¬D id)->JD nt D ι s a->HOn P D ι σ.H φ w->
  (∀ι' w' b,JD nt (λi=>D i\/σ.rng σ' i) ι' s' b->b.defers=a.defers->Post P D (σ.rng σ') ι σ.H w φ ι' σ'.H w'->Q x b w')->wp Q a w
def JR(σ σ':St)(φ:Foot):Prop:=σ.next<=σ'.next/\(σ.wf->σ'.wf/\AFr σ σ' φ)
theorem JR.refl(σ:St)(φ:Foot):JR σ σ φ:=⟨Ak _,λa=>⟨a,AFr.refl _ _⟩⟩
theorem JR.trans{σ σ1 σ2:St}{φ ψ:Foot}(h:JR σ σ1 φ)(a:JR σ1 σ2 ψ):JR σ σ2 (φ.add ψ):=
 ⟨Nat.le_trans h.1 a.1,λb=>by
  obtain⟨c,f1⟩:=h.2 b;obtain⟨d,f2⟩:=a.2 c;exact⟨d,f1.trans f2 h.1 a.1⟩⟩
section
variable {P:Ao} {E:Env} {nt:AB} {s s1 s2:Tr AJ} {σ σ1 σ2:St} {φ ψ:Foot} {x y:Dx} {wp wp2:(Dx->CP->AN->Prop)->CP->AN->Prop}
theorem K2.here(h:∀Q a w,Q x a w->wp Q a w):K2 P E nt s s σ σ .nil x wp:=λ_ _ ι w a Q _ _ _ b _ c=>
 h Q a w (c ι w a (b.mono (λ_=>.inl) λ_ _=>rfl) rfl (Post.refl _ _ _ _ _ _ (St.rng_self σ)))
theorem K2.mono(h:K2 P E nt s s1 σ σ1 φ x wp)(d:∀Q a w,wp (λe a w=>e=x/\Q y a w) a w->wp2 Q a w):K2 P E nt s s1 σ σ1 φ y wp2:=λb D ι w a Q c f hd g i j=>
 d Q a w (h b D ι w a _ c f hd g i λι' w' k l m n=>⟨rfl,j ι' w' k l m n⟩)
theorem K2.seq{g:(Dx->CP->AN->Prop)->CP->AN->Prop}(A:K2 P E nt s s1 σ σ1 φ x wp)(B:K2 P E nt s1 s2 σ1 σ2 ψ y wp2)(d:JR σ σ1 φ)(a2:JR σ1 σ2 ψ)(C:∀Q a w,wp (λe a w=>e=x/\wp2 Q a w) a w->g Q a w):K2 P E nt s s2 σ σ2 (φ.add ψ) y g:=by
 intro i D ι w a Q b v hd F o G;have j:σ1.Ok:=(a2.2 (d.2 b).1).2.ok i;have c:∀id,σ.rng σ1 id->¬D id:=λid f=>hd id (by have:=a2.1;simp only[St.rng]at f⊢;omega)
 refine C Q a w (A j D ι w a _ b v c F (o.sub (λid x=>Foot.add_Fi.2 (.inl x)) λid k x=>Foot.add_Fc.2 (.inl x)) λι' w' H p q r=>⟨rfl,?_⟩);have l:∀id,σ1.rng σ2 id->¬(D id\/σ.rng σ1 id):=λid f hx=>by
  have:=d.1;rcases hx with hx|hx
  ·exact hd id (by simp only[St.rng]at f⊢;omega) hx
  ·simp only[St.rng]at f hx;omega
 refine B i _ ι' w' H Q (d.2 b).1 (v.next c r.io) l p (r.hon o c) λι2 I t m n u=> ?_
 have z:=Post.trans o r u l λid f=>by
  have h:=d.1;exact St.hdr_none b id (by simp only[St.rng]at f;omega)
 rw[PX d.1 a2.1]at z;rw[fV D d.1 a2.1]at m;exact G ι2 I t m (n.trans q) z
end
structure EvOK(P:Ao)(E:Env)(n:AB):Prop where
 plain:∀nt c s σ x s' σ' φ,ev P E n AF nt c s σ=AC (x,s',σ',φ)->JR σ σ' φ/\K2 P E nt s s' σ σ' φ x (λQ a w=>c.wp P Q a w)/\∀body,c=.loop body->K2 P E nt s s' σ σ' φ x (λQ a w=>wpL P body Q a w)
 scope:∀body nt c s σ x s' σ' φ,ev P E n (AC body) nt c s σ=AC (x,s',σ',φ)->JR σ σ' φ/\K2 P E nt s s' σ σ' φ x (λQ a w=>wpS P body c Q a w)
section
variable {P:Ao} {E:Env} (hE:E.OK P)
include hE
theorem Nx{σ:St}(f:NC σ E.gl=true){D:AB->Prop}{ι:AB->Reg}{w:AN}{φ:Foot}(d:GI E D ι)(g:∀p,p∈E.gl->p.1∈φ.rh)(h:HOn P D ι σ.H φ w):NP E.gl w:=by
 refine⟨λp b i c j=> ?_,λp b=> ?_⟩
 ·obtain⟨e,n,a⟩:=JO f p b;obtain⟨q1,o⟩:=hE.gl p b;obtain⟨-,u,k,q⟩:=h.ce p.1 i c (.inr (.inl (g p b))) (St.lv_of a) (by rw[St.cell_of a];exact j);rw[(d p.1 q1).2.1,(d p.1 q1).2.2.1,CJ]at k;exact⟨u,k,.of (C8.1 o c (yf j)) q⟩
 ·obtain⟨e,n,a⟩:=JO f p b;obtain⟨q1, -⟩:=hE.gl p b;obtain⟨c,r,fr,l,m, -⟩:=h.hd p.1 _ (.inr (.inl (g p b))) (St.hdr_of a);rw[(d p.1 q1).2.1]at l;rw[(d p.1 q1).2.2.1,(d p.1 q1).2.2.2 p b rfl,CJ]at m;exact⟨c,r,fr,l,m.symm⟩
omit hE in
theorem jO{σ:St}:∀(t:Ty) (c:AE AJ) (x:t.Den) (r:AE AJ) (i:AE AB) (p:AE Bool),B0 σ t c=AC (x,r,i,p)->∀id,id∈i->Lv σ.H id:=by
 intro t
 induction t with
 |pair a b d e=>
  intro c x r i p h id hid;simp only[B0]at h
  split at h
  ·rename_i m n o q f
   split at h
   ·rename_i s u i2 w g;cases h;rcases CH.1 hid with hid|hid
    ·exact d _ _ _ _ _ f id hid
    ·exact e _ _ _ _ _ g id hid
   ·cases h
  ·cases h
 |slice a y=>
  intro c x r i p h id hid;cases c with
  |nil=>simp[B0]at h
  |cons v c=>
   simp only[B0]at h
   split at h
   ·cases h;cases hid
   ·cases h;cases hid
   ·split at h
    ·split at h
     ·rename_i t z j
      split at h
      ·rename_i l;subst l;cases h;rw[List.mem_singleton]at hid;subst hid;exact St.lv_of j
      ·cases h
     ·cases h
    ·cases h
   ·cases h
 |unit=>
  intro c x r i p h id hid;simp only[B0,BJ,Ct]at h;obtain⟨-, -,rfl, -⟩:=h;cases hid
 |int k=>
  intro c x r i p h id hid;cases c with
  |nil=>simp[B0]at h
  |cons v c=>
   simp only[B0,Dn]at h
   repeat' split at h
   all_goals cases h
   cases hid
 |_=>
  intro c x r i p h id hid;cases c with
  |nil=>simp[B0]at h
  |cons v c=>
   simp only[B0,Dn]at h
   repeat' split at h
   all_goals cases h
   all_goals cases hid
omit hE in
theorem Y4{σ:St}:∀(ts:AE Ty) (vs:AE AJ) (x:AM ts) (i:AE AB) (p:AE Bool),Lg σ ts vs=AC (x,i,p)->∀id,id∈i->Lv σ.H id
 |[],vs,x,i,p,h,id,hid=>by
  cases vs with
  |nil=>simp only[Lg,BJ,Ct]at h;obtain⟨-,rfl, -⟩:=h;cases hid
  |cons _ _=>simp[Lg]at h
 |t::ts,vs,x,i,p,h,id,hid=>by
  cases vs with
  |nil=>simp[Lg]at h
  |cons v vs=>
   simp only[Lg]at h
   split at h
   ·split at h
    ·rename_i c d e a
     split at h
     ·rename_i y j q b;cases h;rcases CH.1 hid with hid|hid
      ·exact jO t _ _ _ _ _ a id hid
      ·exact Y4 ts vs y j q b id hid
     ·cases h
    ·cases h
   ·cases h
theorem Su{S:PSpec}{f:BT}(N:E.spec f=AC S){args:AE AJ}{σ σ':St}{v:AJ}{φ:Foot}(h:Sp E S args σ=AC (v,σ',φ)):
  σ.next<=σ'.next/\(σ.wf->σ'.wf/\AFr σ σ' φ)/\
  (σ'.Ok->∀(D:AB->Prop) (ι:AB->Reg) (w:AN) (a:Aa AJ),σ.wf->GI E D ι->(∀id,σ.rng σ' id->¬D id)->AR D ι args.toArray a->HOn P D ι σ.H φ w->
   Calls P f a w λe w'=>∃v' ι',e=.returned v'/\VR (λi=>D i\/σ.rng σ' i) ι' v v'/\Post P D (σ.rng σ') ι σ.H w φ ι' σ'.H w'):=by
 unfold Sp at h
 split at h
 ·rename_i x j d k;cases s:NC σ E.gl
  ·rw[s]at h;cases h
  rw[s,Ag]at h;rcases hm:Gm (IK S.rs (S.g x)) σ with⟨vs,σ1⟩
  rw[hm]at h;simp only[BJ,Ct]at h;obtain⟨rfl,rfl,rfl⟩:=h;have l:=D5 (φ:=⟨[],j++E.gl.map (·.1),[],[]⟩) hm;refine⟨(B6.assumes (v:=Bi) (S.pre x::d) l).1,(B6.assumes (v:=Bi) (S.pre x::d) l).2,?_⟩;intro u D ι w a m O hd Q L;obtain⟨⟨n,y⟩, -⟩:=(Cs _ _).1 u
  have R:∀id,id∈j->∀x,σ.H.hdr id=AC x->BI P ι id w x:=λid hid x T=>L.hd id x (.inr (.inl (by simp[hid]))) T
  have z:LR D ι args a.toList:=LR.of_AR (by simpa using Q);have A:=Zh R S.ts args a.toList x j d k (λ_ h=>h) y z;have B:NP E.gl w:=Nx hE s O (λp C=>by simp only[CH,Ju];exact .inr ⟨p,C,rfl⟩) L;refine(hE.spec f S N (MW ι j w) w a x (ABR j) B A n).mono ?_
  rintro e w' ⟨M,U,rfl,h1,F,V,W,r⟩;obtain⟨us,X,Y,Z⟩:=Ps S.rs (S.g x) M W;obtain⟨ι',m1,m2,m3⟩:=GQ (IK S.rs (S.g x)) us D ι σ σ1 vs hm X Y;have G:=Z vs _ ι' m2 m3;refine⟨Er M,ι',rfl,?_,?_⟩
  ·have hD:(λi=>D i\/σ.rng (σ1.assumes (S.pre x::d)) i)=λi=>D i\/σ.rng σ1 i:=by
    have:(σ1.assumes (S.pre x::d)).next=σ1.next:=by
     have:∀(d:AE Bool),(σ1.assumes d).next=σ1.next:=λd=>by
      induction d with
      |nil=>rfl
      |cons p d I=>exact I
     exact this _
    funext i;simp only[St.rng,this]
   rw[hD]
   revert G
   generalize Ry S.rs vs=gs;intro G;cases G with
   |nil=>exact .tuple _ _ rfl (by simp)
   |cons h t=>
    cases t with
    |nil=>exact h
    |cons F t=>
     obtain⟨a1,a2⟩:=LR.AR (.cons h (.cons F t));exact .tuple _ _ a1 a2
  ·have C:=Post.mats (P:=P) (D:=D) (φ:=⟨[],j++E.gl.map (·.1),[],[]⟩) m m1 r.1 r.2.1 r.2.2.1 r.2.2.2 F (λb c o=> ?_) rfl rfl
   ·have:∀(d:AE Bool),(σ1.assumes d).next=σ1.next/\(σ1.assumes d).H=σ1.H:=λd=>by
     induction d with
     |nil=>exact⟨rfl,rfl⟩
     |cons p d I=>exact I
    obtain⟨q1,q2⟩:=this (S.pre x::d);have J:σ.rng (σ1.assumes (S.pre x::d))=σ.rng σ1:=by funext i;simp only[St.rng,q1]
    rw[J,q2];exact C
   ·rcases V b c o with o|o
    ·obtain⟨id,hid,K⟩:=ABS o;have q:Lv σ.H id:=Y4 S.ts args x j d k id hid;exact .inr ⟨id,.inr (.inl (by simp[hid])),λJ=>by have:=St.lv_lt m q;simp only[St.rng]at J;omega,q,K⟩
    ·exact .inl o
 ·cases h
theorem Sv{S:PSpec}{f:BT}(M:E.spec f=AC S){args:AE AJ}{σ σ':St}{v:AJ}{φ:Foot}(h:Sq E S args σ=AC (v,σ',φ)):
  σ.next<=σ'.next/\(σ.wf->σ'.wf/\AFr σ σ' φ)/\
  (σ'.Ok->∀(D:AB->Prop) (ι:AB->Reg) (w:AN) (a:Aa AJ),σ.wf->GI E D ι->(∀id,σ.rng σ' id->¬D id)->AR D ι args.toArray a->HOn P D ι σ.H φ w->
   Calls P f a w λe w'=>∃v' ι',e=.returned v'/\VR (λi=>D i\/σ.rng σ' i) ι' v v'/\Post P D (σ.rng σ') ι σ.H w φ ι' σ'.H w'):=by
 unfold Sq at h
 split at h
 ·rename_i c d;cases l:(NC σ E.gl&&S.rs.all Ty.flat&&Fp σ c.i&&Me σ c.g)
  ·rw[l]at h;cases h
  rw[l,Ag]at h;simp only[A0]at l;obtain⟨⟨⟨l,u⟩,m⟩,n⟩:=l;have m:=Ey m;have n:=F3 n;rcases hm:Gm (IK S.rs (S.g c.x)) σ with⟨vs,σ1⟩
  rw[hm]at h;simp only[BJ,Ct]at h;obtain⟨rfl,rfl,rfl⟩:=h;have o:=D5 (φ:=⟨[],(c.i++c.g)++E.gl.map (·.1),[],[]⟩) hm;refine⟨(B6.assumes (v:=Bi) (S.pre c.x::c.p) o).1,(B6.assumes (v:=Bi) (S.pre c.x::c.p) o).2,?_⟩;intro y D ι w a z N hd O A;obtain⟨⟨q,B⟩, -⟩:=(Cs _ _).1 y
  have r:∀id,id∈c.i\/id∈c.g->id∈(⟨[],(c.i++c.g)++E.gl.map (·.1),[],[]⟩:Foot).rh:=λid hid=>Du _ (CH.2 hid)
  have C:LR D ι args a.toList:=LR.of_AR (by simpa using O);have F:=Np (is:=c.i) (gs:=c.g) (P:=P) (w:=w) (λid hid x Q=>A.hd id x (.inr (.inl (r id hid))) Q) (λid hid k v G R=>A.ce id k v (.inr (.inl (r id (.inr hid)))) G R) S.ts args a.toList c d (λ_ h=>h) (λ_ h=>h) B C
  have I:NP E.gl w:=Nx hE l N (λp T=>by simp only[CH,Ju];exact .inr ⟨p,T,rfl⟩) A;refine(hE.spec f S M (JT ι c.i c.g w) w a c.x ANK I F q).mono ?_;rintro e w' ⟨J,U,rfl,h1,h2,h3,K,t⟩;have K:CN (λ_=>AF) S.rs (S.g c.x) J:=K.flat u;obtain⟨us,V,W,X⟩:=Ps S.rs (S.g c.x) J K
  obtain⟨ι',Y,Z,m3⟩:=GQ (IK S.rs (S.g c.x)) us D ι σ σ1 vs hm V W;have G:=X vs _ ι' Z m3;have j:∀(s:AE Bool),(σ1.assumes s).next=σ1.next/\(σ1.assumes s).H=σ1.H:=λs=>by
   induction s with
   |nil=>exact⟨rfl,rfl⟩
   |cons p s ih=>exact ih
  obtain⟨q1,q2⟩:=j (S.pre c.x::c.p);have L:σ.rng (σ1.assumes (S.pre c.x::c.p))=σ.rng σ1:=by funext i;simp only[St.rng,q1]
  refine⟨Er J,ι',rfl,?_,?_⟩
  ·rw[L];exact Sd G
  ·rw[L,q2];exact Post.mats (P:=P) (D:=D) (φ:=⟨[],(c.i++c.g)++E.gl.map (·.1),[],[]⟩) z Y t.1 t.2.1 t.2.2.1 t.2.2.2 (λb c h=>by cases h) (λb c hb=>by cases hb) rfl rfl
 ·cases h
theorem Sw{S:PSpec}{f:BT}(b:E.spec f=AC S){args:AE AJ}{σ σ':St}{v:AJ}{φ:Foot}(h:Nw E S args σ=AC (v,σ',φ)):
  σ.next<=σ'.next/\(σ.wf->σ'.wf/\AFr σ σ' φ)/\
  (σ'.Ok->∀(D:AB->Prop) (ι:AB->Reg) (w:AN) (a:Aa AJ),σ.wf->GI E D ι->(∀id,σ.rng σ' id->¬D id)->AR D ι args.toArray a->HOn P D ι σ.H φ w->
   Calls P f a w λe w'=>∃v' ι',e=.returned v'/\VR (λi=>D i\/σ.rng σ' i) ι' v v'/\Post P D (σ.rng σ') ι σ.H w φ ι' σ'.H w'):=by
 unfold Nw at h
 split at h
 ·rename_i r c;cases h;exact Su hE b c
 ·exact Sv hE b h
theorem U4{S:VSpec}{f:BT}(hS:E.vsp f=AC S){args:AE AJ}{σ σ':St}{v:AJ}{φ:Foot}(h:Rn E S args σ=AC (v,σ',φ)):
  σ.next<=σ'.next/\(σ.wf->σ'.wf/\AFr σ σ' φ)/\
  (σ'.Ok->∀(D:AB->Prop) (ι:AB->Reg) (w:AN) (j:Aa AJ),σ.wf->GI E D ι->(∀id,σ.rng σ' id->¬D id)->AR D ι args.toArray j->HOn P D ι σ.H φ w->
   Calls P f j w λe w'=>∃v' ι',e=.returned v'/\VR (λi=>D i\/σ.rng σ' i) ι' v v'/\Post P D (σ.rng σ') ι σ.H w φ ι' σ'.H w'):=by
 unfold Rn at h
 split at h
 ·rename_i v0 M N
  split at h
  ·rename_i arr
   split at h
   ·rename_i id O
    split at h
    ·rename_i t d e hg;by_cases ht:t=S.t
     ·subst ht;rw[dif_pos rfl]at h
      split at h
      ·rename_i c C;cases q:(Af e S.e&&(NC σ E.gl&&(!HA ((c.i++c.g)++E.gl.map (·.1)) [id]&&(Fp σ c.i&&(Me σ c.g&&S.rs.all Ty.flat)))))
       ·rw[q]at h;cases h
       rw[q,Ag]at h;simp only[A0,Bool.not_eq_true']at q;obtain⟨b1,b2,b3,b4,b5,hfl⟩:=q;have b1:=Br b1;subst b1;have b3:=F4 b3;have b4:=Ey b4;have b5:=F3 b5;rcases hm:Gm (IK S.rs (S.g d c.x).2) (σ.put id (AC (.vec S.t (S.g d c.x).1 S.e)))with⟨vs,σ1⟩
       have h:(match Gm (IK S.rs (S.g d c.x).2) (σ.put id (AC (.vec S.t (S.g d c.x).1 S.e)))with
        |(vs,σ')=>AC (Er (Ry S.rs vs),σ'.assumes (S.pre d c.x::c.p),(⟨[],(c.i++c.g)++E.gl.map (·.1),[],[id]⟩:Foot).add .nil))=AC (v,σ',φ):=h
       rw[hm]at h;simp only[BJ,Ct]at h;obtain⟨rfl,rfl,rfl⟩:=h;have Q:JR σ (σ.put id (AC (.vec S.t (S.g d c.x).1 S.e))) ⟨[],(c.i++c.g)++E.gl.map (·.1),[],[id]⟩:=⟨Ak _,λhw=>⟨St.put_wf hw (St.lv_lt hw (St.lv_of hg)) _,AFr.whole (by simp)⟩⟩
       have ha2:JR (σ.put id (AC (.vec S.t (S.g d c.x).1 S.e))) σ1 .nil:=D5 (φ:=.nil) hm;have z:B6 σ ⟨Bi,σ1.assumes (S.pre d c.x::c.p),(⟨[],(c.i++c.g)++E.gl.map (·.1),[],[id]⟩:Foot).add .nil⟩:=B6.assumes _ (Q.trans ha2);obtain⟨q1,q2⟩:=Jz (σ:=σ1) (S.pre d c.x::c.p);refine⟨z.1,z.2,λhok D ι w j R hG hd ha T=> ?_⟩
       have K:HOn P D ι σ.H (⟨[],(c.i++c.g)++E.gl.map (·.1),[],[id]⟩:Foot) w:=T.sub (λ_ h=>Foot.add_Fi.2 (.inl h)) λ_ _ h=>Foot.add_Fc.2 (.inl h)
       obtain⟨⟨U,hps⟩, -⟩:=(Cs _ _).1 hok;have V:∀k,k∈c.i\/k∈c.g->k∈(⟨[],(c.i++c.g)++E.gl.map (·.1),[],[id]⟩:Foot).rh:=λk o=>Du _ (CH.2 o)
       obtain⟨v',us,hus,hv,hlr⟩:=XI N (LR.of_AR (us:=j.toList) (by simpa using ha));have hsz:j=(EI S.ri [v'] us).toArray:=by rw[<-hus]
       rw[hsz];rw[CV O]at hv;obtain⟨a,l,c0,rfl,hD,hsv⟩:=FQ hv;have F:∀p,p∈E.gl->p.1∈(c.i++c.g)++E.gl.map (·.1):=λp L=>C3 _ (List.mem_map_of_mem L)
       have hgl:=Nx hE b2 hG F K;have hh:BI P ι id w (.vec S.t d S.e):=K.hd id _ (Foot.Wi.fi (by simp[Foot.Wi])) (St.hdr_of hg);have s:∀k,k∈(c.i++c.g)++E.gl.map (·.1)->Lv σ.H k->∀b,(ι id).Own b->¬(ι k).Own b/\¬(ι k).Fz b:=λk o A b m=>by
        have hne:id≠k:=λhe=>b3 k o (by rw[he];simp)
        exact K.inj id k (Foot.Wi.fi (by simp[Foot.Wi])) (.inr (.inl o)) ⟨_,St.hdr_of hg,trivial⟩ A hne b m
       have hno:∀p,p∈E.gl->¬(ι id).Own p.1:=λp L m=>by
        obtain⟨e',ro,B⟩:=JO b2 p L;have G:BI P ι p.1 w _:=K.hd p.1 _ (.inr (.inl (F p L))) (St.hdr_of B);have hr:=G.own_row;rw[(hG p.1 (hE.gl p L).1).2.1]at hr;exact(s p.1 (F p L) (St.lv_of B) p.1 m).1 hr
       have G:=Np (is:=c.i) (gs:=c.g) (P:=P) (w:=w) (λk hid x hx=>K.hd k x (.inr (.inl (V k hid))) hx) (λk hid n u A hu=>K.ce k n u (.inr (.inl (V k (.inr hid)))) A hu) S.ts M us c C (λ_ h=>h) (λ_ h=>h) hps hlr;have hfo:∀b cc,JT ι c.i c.g w b=AC cc->¬(ι id).Own b:=λb cc q m=>by
        unfold JT at q
        split at q
        ·rename_i I;rcases I with⟨k,o,J⟩|⟨k,o,J⟩
         ·exact(s k (Du _ (Du _ o)) (b4 k o) b m).2 J
         ·have A:Lv σ.H k:=by
           obtain⟨y,hy, -⟩:=b5 k o;exact⟨y,hy⟩
          rcases J with J|J
          ·exact(s k (Du _ (C3 _ o)) A b m).1 J
          ·exact(s k (Du _ (C3 _ o)) A b m).2 J
        ·cases q
       rw[<-hsv];refine(hE.vsp f S hS (JT ι c.i c.g w) (ι id) w d us c.x ANK hgl (hh.as rfl) hno hfo G U).mono ?_;rintro e w' ⟨ws,rfl,h0,h1,h2,h3,h4,h5⟩;have hP:=Post.setVec (D:=D) (rh:=(c.i++c.g)++E.gl.map (·.1)) (rc:=[]) hg (h1.as (ι0:=ι) (c:=id) rfl) h2 h3 h4 h5;obtain⟨us2,u1,u2,u3⟩:=Ps S.rs (S.g d c.x).2 ws h0
       obtain⟨ι',m1,m2,m3⟩:=GQ (IK S.rs (S.g d c.x).2) us2 D ι _ σ1 vs hm u1 u2;have A:=u3 vs _ ι' m2 m3;have W:=(Q.2 R).1;have hQ:Post P (λi=>D i\/σ.rng (σ.put id (AC (.vec S.t (S.g d c.x).1 S.e))) i) ((σ.put id (AC (.vec S.t (S.g d c.x).1 S.e))).rng σ1) ι (σ.put id (AC (.vec S.t (S.g d c.x).1 S.e))).H w' .nil ι' σ1.H w':=
        Post.mats (φ:=.nil) W m1 (Ak _) rfl rfl (λ_ _=>rfl) (λb cc h=>by cases h) (λb cc q=>by cases q) rfl rfl
       have X:∀i,¬σ.rng (σ.put id (AC (.vec S.t (S.g d c.x).1 S.e))) i:=λi r=>by
        have h1:=r.1;have h2:i<σ.next:=r.2;omega
       have Y:∀i,(σ.put id (AC (.vec S.t (S.g d c.x).1 S.e))).rng σ1 i->σ.rng σ1 i:=λi r=>r
       have hN:(λi=>σ.rng (σ.put id (AC (.vec S.t (S.g d c.x).1 S.e))) i\/(σ.put id (AC (.vec S.t (S.g d c.x).1 S.e))).rng σ1 i)=σ.rng (σ1.assumes (S.pre d c.x::c.p)):=by
        funext i;refine propext ⟨λh=> ?_,λh=>.inr ?_⟩
        ·simp only[St.rng,q1];rcases h with h|h
         ·exact Aq h (X i)
         ·exact Y i h
        ·simp only[St.rng,q1]at h;exact h
       have Z:∀i,(σ.put id (AC (.vec S.t (S.g d c.x).1 S.e))).rng σ1 i->¬D i:=λi r=>hd i (by rw[<-hN];exact .inr r)
       refine⟨Er ws,ι',rfl,?_,?_⟩
       ·have hr:σ.rng (σ1.assumes (S.pre d c.x::c.p))=(σ.put id (AC (.vec S.t (S.g d c.x).1 S.e))).rng σ1:=by
         funext i;simp only[St.rng,q1];rfl
        rw[hr];exact Sd A
       ·have:=Post.trans T hP hQ (λi r h=>h.elim (Z i r) (X i)) (λi r=>by
         have:σ.heap.get i=none:=R i (Y i r).1;simp only[St.H,this];rfl)
        rw[hN]at this;rw[q2];exact this
      ·cases h
     ·rw[dif_neg ht]at h;cases h
    ·cases h
   ·cases h
  ·cases h
 ·cases h
theorem Ny{n:AB}(U:EvOK P E n):CallSound P E (J2 E λnt c s σ=>ev P E n AF nt c s σ):=by
 refine⟨λf args σ v σ' φ h=> ?_⟩;unfold J2 at h
 split at h
 ·rename_i v0 V;unfold XM at h;cases l:NC σ E.gl
  ·rw[l]at h;cases h
  ·rw[l,Ag]at h;cases h;obtain⟨F,O,Q⟩:=hE.sum _ _ _ V;refine⟨Ak _,λt=>⟨t,AFr.refl _ _⟩,λ_ D ι w m d u hd a g=> ?_⟩;rw[P0 O a];have G:NP E.gl w:=Nx hE l u (λp C=>by simpa using⟨p.2,C⟩) g;refine(Q w G).mono λe w' ⟨W,o⟩=>⟨v,ι,W,(Bk 8 v F).mono (λ_=>.inl) λ_ _=>rfl,Post.grown (St.rng_self σ) o rfl rfl⟩
 split at h
 ·rename_i S y;exact Sw hE y h
 split at h
 ·rename_i S y;exact U2 hE (λl _ _ _ _ u I g=>Nx hE l u I g) y h
 split at h
 ·rename_i S y;exact U4 hE y h
 split at h
 ·rename_i fn J;obtain⟨F,O,Q⟩:=hE.fn f fn J
  split at h
  ·rename_i body q;cases z:B8 args.length fn.ntmps
   ·rw[z]at h;cases h
   ·rw[z,Ag]at h;have z:=Nat.le_of_ble_eq_true z
    split at h
    ·rename_i x s' σ1 φ1 K;obtain⟨X,l,_⟩:=U.plain _ _ _ _ _ _ _ _ K;have key:(x=.normal\/x=.ret)/\∃vs ψ,Fj E s' σ1 fn.results.toList=AC (vs,ψ)/\v=Er vs/\σ'=σ1/\φ=(φ1.add ψ).trim σ.next:=by
      split at h
      ·split at h
       ·rename_i vs ψ A;cases h;exact⟨.inl rfl,vs,ψ,A,rfl,rfl,rfl⟩
       ·cases h
      ·split at h
       ·rename_i vs ψ A;cases h;exact⟨.inr rfl,vs,ψ,A,rfl,rfl,rfl⟩
       ·cases h
      ·cases h
     obtain⟨Y,vs,ψ,A,rfl,rfl,rfl⟩:=key;have b:JR σ σ' (φ1.add ψ):=X.trans (JR.refl _ _);refine⟨b.1,λt=>⟨(b.2 t).1,(b.2 t).2.trim t (b.2 t).1⟩,?_⟩;intro L D ι w m d u hd a g;have g:=g.untrim λid hid=>St.hdr_none d id hid
     refine calls_of_wp F q ?_;refine l L D ι w _ _ d u hd (MP a z) (g.sub (λid x=>Foot.add_Fi.2 (.inl x)) λid k x=>Foot.add_Fc.2 (.inl x)) ?_;intro ι' w' R M N C;obtain⟨v',Z,e2,e3,T⟩:=Y3 hE A M (C.hon g hd);have r:Post P D (σ.rng σ') ι σ.H w ((φ1.add ψ).trim σ.next) ι' σ'.H w':=by
      refine Post.trim (λid hid=>St.hdr_none d id hid) (C.same_foot (λid=> ?_) (λid k=> ?_) λid I=>Foot.add_Fi.2 (.inl I))
      ·rw[Foot.add_Wi];exact⟨λh=>h.resolve_right λh=>by simp[Foot.Wi,T]at h,.inl⟩
      ·rw[Foot.add_Wc];exact⟨λh=>h.resolve_right λh=>by simp[Foot.Wc,e3,T]at h,.inl⟩
     have j:R.defers=[]/\∃v,(PD fn R.tmps).run P w'=.ok v w'/\∃B ι'',Ending.returned v=.returned B/\VR (λi=>D i\/σ.rng σ' i) ι'' (Er vs) B/\Post P D (σ.rng σ') ι σ.H w ((φ1.add ψ).trim σ.next) ι'' σ'.H w':=
      ⟨N,v',Z,v',ι',rfl,e2,r⟩
     rcases Y with rfl|rfl
     ·exact j
     ·exact j
    ·cases h
  ·cases h
 ·cases h
end
end Go.Eng
end
end
end
section
noncomputable section
noncomputable section
namespace Go.Eng
open Go
section
variable {P:Ao} {E:Env} (hE:E.OK P)
theorem Fk{c:ER}{Q:ER->Prop}(h:∀body,c≠ .loop body):∀body,c=.loop body->Q body:=λbody e=>Aq e (h body)
include hE
theorem AOb:∀n,EvOK P E n
 |0=>⟨λnt c s σ x s' σ' φ h=>by simp[ev]at h,λbody nt c s σ x s' σ' φ h=>by simp[ev]at h⟩
 |n+1=>by
  have C:=AOb n;have S:=Ny hE C;refine⟨λnt c s σ x s' σ' φ h=> ?_,λbody nt c s σ x s' σ' φ h=> ?_⟩
  ·cases c with
   |skip=>
    simp only[ev,BJ,Ct]at h;obtain⟨rfl,rfl,rfl,rfl⟩:=h;exact⟨JR.refl _ _,K2.here λQ a w h=>wp_skip h,Fk (by simp)⟩
   |label l=>
    simp only[ev,BJ,Ct]at h;obtain⟨rfl,rfl,rfl,rfl⟩:=h;exact⟨JR.refl _ _,K2.here λQ a w h=>wp_label h,Fk (by simp)⟩
   |ret=>
    simp only[ev,BJ,Ct]at h;obtain⟨rfl,rfl,rfl,rfl⟩:=h;exact⟨JR.refl _ _,K2.here λQ a w h=>wp_ret h,Fk (by simp)⟩
   |exit id=>
    simp only[ev,BJ,Ct]at h;obtain⟨rfl,rfl,rfl,rfl⟩:=h;exact⟨JR.refl _ _,K2.here λQ a w h=>wp_exit h,Fk (by simp)⟩
   |goto l=>
    simp only[ev,BJ,Ct]at h;obtain⟨rfl,rfl,rfl,rfl⟩:=h;exact⟨JR.refl _ _,K2.here λQ a w h=>wp_goto h,Fk (by simp)⟩
   |region id ops L=>
    cases L with
    |false=>
     simp only[ev]at h
     split at h
     ·rename_i s1 σ1 φ1 A;simp only[BJ,Ct]at h;obtain⟨rfl,rfl,rfl,rfl⟩:=h;obtain⟨d,a2,a3⟩:=LQ hE S ops.toList 0 _ _ _ _ _ A λj _=>by simp
      refine⟨⟨d,a2⟩,λi D ι w a Q g o hd p B F=>wp_region ?_,Fk (by simp)⟩;have:=a3 g i D ι w a Q g o hd p B F;rw[List.range_eq_range'];simpa using this
     ·cases h
    |true=>
     simp only[ev]at h
     split at h
     ·rename_i s1 σ1 recs A;cases q:ANO ops ops.toList recs [] ops.toList recs
      ·rw[q]at h;cases h
      ·rw[q,Ag]at h;simp only[BJ,Ct]at h;obtain⟨rfl,rfl,rfl,rfl⟩:=h;obtain⟨d,a2,a3⟩:=Nv hE S A q;refine⟨⟨d,a2⟩,λi D ι w a Q g o hd p B F=>wp_region_any hE.mixed ?_,Fk (by simp)⟩;have V:HOn P D ι σ.H (Co recs) { w with drawn:=w.drawn+1}:=⟨B.hd,B.ce,B.inj⟩
       refine a3 i D ι _ a Q g o hd p V λι' w' W A K m=>F ι' w' W A K ?_
       exact⟨m.io,m.size,m.os,m.out,m.hdr,m.cel,m.ahdr,m.acel,m.cfr,m.fresh,m.freshF,m.dist,m.nl,m.wl,m.wrm,m.wrow⟩
     ·cases h
   |seq u v=>
    simp only[ev]at h
    split at h
    ·rename_i e s1 σ1 φ1 A;obtain⟨d,g1, -⟩:=C.plain _ _ _ _ _ _ _ _ A
     split at h
     ·split at h
      ·rename_i X s2 σ2 φ2 K;simp only[BJ,Ct]at h;obtain⟨rfl,rfl,rfl,rfl⟩:=h;obtain⟨J,M, -⟩:=C.plain _ _ _ _ _ _ _ _ K;refine⟨d.trans J,g1.seq M d J λQ a w k=>wp_seq (Mt k ?_),Fk (by simp)⟩;rintro e a w ⟨rfl,h⟩;exact h
      ·cases h
     ·rename_i r;simp only[BJ,Ct]at h;obtain⟨rfl,rfl,rfl,rfl⟩:=h;refine⟨d,g1.mono λQ a w k=>wp_seq (Mt k ?_),Fk (by simp)⟩;rintro e a w ⟨rfl,h⟩;cases e<;>first|exact h|exact Aq rfl r
    ·cases h
   |cond I u v=>
    simp only[ev]at h;have T:∀b,av E.G s I=AC (.bool b)->∀(D:AB->Prop) (ι:AB->Reg) (a:CP),GI E D ι->JD nt D ι s a->a.eval I=.bool b:=by
     intro b q D ι a o p;have Y:gO E.G D ι s a.eval I:=cR o.b λt _ v Z=>(p.2 t v Z).2
     have:=Y _ q;generalize a.eval I=z at this;cases this;rfl
    split at h
    ·rename_i q;obtain⟨d,g1, -⟩:=C.plain _ _ _ _ _ _ _ _ h;exact⟨d,λi D ι w a Q g o hd p B F=>wp_cond_true (T _ q D ι a o p) (g1 i D ι w a Q g o hd p B F),Fk (by simp)⟩
    ·rename_i q;obtain⟨d,g1, -⟩:=C.plain _ _ _ _ _ _ _ _ h;exact⟨d,λi D ι w a Q g o hd p B F=>wp_cond_false (T _ q D ι a o p) (g1 i D ι w a Q g o hd p B F),Fk (by simp)⟩
    ·cases h
   |block id body=>
    simp only[ev]at h
    split at h
    ·rename_i e s1 σ1 φ1 A;obtain⟨d,g1, -⟩:=C.plain _ _ _ _ _ _ _ _ A
     split at h
     ·rename_i N;cases q:Af N id
      ·rw[q,cond_false]at h;have O:N≠id:=λe=>by rw[Ei e]at q;cases q
       simp only[BJ,Ct]at h;obtain⟨rfl,rfl,rfl,rfl⟩:=h;refine⟨d,g1.mono λQ a w k=>rN (Mt k ?_),Fk (by simp)⟩;rintro e a w ⟨rfl,h⟩;simp only[Ug,O,if_false];exact h
      ·rw[q,Ag]at h;have he:=Br q;simp only[BJ,Ct]at h;obtain⟨rfl,rfl,rfl,rfl⟩:=h;refine⟨d,g1.mono λQ a w k=>rN (Mt k ?_),Fk (by simp)⟩;rintro e a w ⟨rfl,h⟩;simp only[Ug,he,if_true];exact h
     ·rename_i r;simp only[BJ,Ct]at h;obtain⟨rfl,rfl,rfl,rfl⟩:=h;refine⟨d,g1.mono λQ a w k=>rN (Mt k ?_),Fk (by simp)⟩;rintro e a w ⟨rfl,h⟩;cases e<;>first|exact h|exact Aq rfl (r _)
    ·cases h
   |loop body=>
    have key:JR σ σ' φ/\K2 P E nt s s' σ σ' φ x (λQ a w=>wpL P body Q a w):=by
     simp only[ev]at h
     split at h
     ·rename_i e s1 σ1 φ1 A;obtain⟨d,g1, -⟩:=C.plain _ _ _ _ _ _ _ _ A
      split at h
      ·split at h
       ·rename_i X s2 σ2 φ2 K;simp only[BJ,Ct]at h;obtain⟨rfl,rfl,rfl,rfl⟩:=h;obtain⟨J, -,M⟩:=C.plain _ _ _ _ _ _ _ _ K;refine⟨d.trans J,g1.seq (M body rfl) d J λQ a w k=>XN (Mt k ?_)⟩;rintro e a w ⟨rfl,h⟩;exact h
       ·cases h
      ·rename_i r;simp only[BJ,Ct]at h;obtain⟨rfl,rfl,rfl,rfl⟩:=h;refine⟨d,g1.mono λQ a w k=>XN (Mt k ?_)⟩;rintro e a w ⟨rfl,h⟩;cases e<;>first|exact h|exact Aq rfl r
     ·cases h
    refine⟨key.1,λi D ι w a Q g o hd p B F=>Ss (key.2 i D ι w a Q g o hd p B F),λb e=> ?_⟩;cases e;exact key.2
   |scope body=>
    simp only[ev]at h;obtain⟨d,g1⟩:=C.scope _ _ _ _ _ _ _ _ _ h;exact⟨d,λi D ι w a Q g o hd p B F=>QR (g1 i D ι w a Q g o hd p B F),Fk (by simp)⟩
   |rangeFunc f ps as b=>simp[ev]at h
   |refuse why=>simp[ev]at h
  ·simp only[ev]at h
   split at h
   ·rename_i e s1 σ1 φ1 A;obtain⟨d,g1, -⟩:=C.plain _ _ _ _ _ _ _ _ A
    split at h
    ·rename_i l
     split at h
     ·rename_i U R
      split at h
      ·rename_i y s2 σ2 φ2 K;simp only[BJ,Ct]at h;obtain⟨rfl,rfl,rfl,rfl⟩:=h;obtain⟨J,M⟩:=C.scope _ _ _ _ _ _ _ _ _ K;refine⟨d.trans J,g1.seq M d J λQ a w k=>Sr (Mt k ?_)⟩;rintro e a w ⟨rfl,h⟩;simp only[Exit.inScope,R];exact h
      ·cases h
     ·rename_i R;simp only[BJ,Ct]at h;obtain⟨rfl,rfl,rfl,rfl⟩:=h;refine⟨d,g1.mono λQ a w k=>Sr (Mt k ?_)⟩;rintro e a w ⟨rfl,h⟩;simp only[Exit.inScope,R];exact h
    ·rename_i r;simp only[BJ,Ct]at h;obtain⟨rfl,rfl,rfl,rfl⟩:=h;refine⟨d,g1.mono λQ a w k=>Sr (Mt k ?_)⟩;rintro e a w ⟨rfl,h⟩;cases e<;>first|exact h|exact Aq rfl (r _)
   ·cases h
def Pd(P:Ao)(E:Env)(n:AB):Eh:=J2 E λnt c s σ=>ev P E n AF nt c s σ
theorem Nz(n:AB):CallSound P E (Pd P E n):=Ny hE (AOb hE n)
end
end Go.Eng
end
end
end
section
noncomputable section
noncomputable section
namespace Go.Eng
open Go
def tJ{α:Type}:AB->AE α->Tr α->Tr α
 |_,[],t=>t
 |k,x::a,t=>tJ (k+1) a (t.set k (AC x))
theorem fZ{α:Type}:∀(l:AE α) (k:AB) (t:Tr α) (j:AB),(tJ k l t).get j=if k<=j/\j<k+l.length then l[j-k]? else t.get j
 |[],k,t,j=>by rw[tJ,AY (by simp only[E8];omega)]
 |v::vs,k,t,j=>by
  rw[tJ,fZ vs (k+1),Tr.set_get];simp only[B7];by_cases e:j=k
  ·subst e;rw[AY (by omega),Ae rfl,Ae (by omega)];simp
  ·by_cases h:k+1<=j/\j<k+1+vs.length
   ·rw[Ae h,Ae (by omega),show j-k=(j-(k+1))+1 by omega];simp
   ·rw[AY h,AY e,AY (by omega)]
theorem Y5{α:Type}{l:AE α}{j:AB}{x:α}(h:(tJ 0 l .lf).get j=AC x):l[j]?=AC x:=by
 rw[fZ]at h;by_cases a:0<=j/\j<0+l.length
 ·rw[Ae a]at h;simpa using h
 ·rw[AY a]at h;rw[Tr.get_lf]at h;cases h
def wx(t:Tr EF)(k:TypeId):AP TypeDesc:=
 match t.get k with
 |some i=>match i.desc with
  | .named _ u=>match t.get u with
    |some j=>AC j.desc
    |none=>AF
  |d=>AC d
 |none=>AF
def Sx(t:Tr EF):TE:=⟨wx t,t.get⟩
def AA6(t:Tr Func)(f:BT):AP Func:=
 match t.get f with
 |some fn=>match fn.body with
  |some _=>AC fn
  |none=>AF
 |none=>AF
theorem tK{P:Ao}{t:Tr EF}(c:t=tJ 0 P.types.toList .lf):(Sx t).OK P:=by
 have a:∀k i,t.get k=AC i->P.info? k=AC i:=by
  intro k i h;rw[c]at h;have:=Y5 h;rw[Bf]at this;have b:k<P.types.size:=by
   rcases Nat.lt_or_ge k P.types.size with h|h
   ·exact h
   ·rw[Array.getElem?_eq_none h]at this;cases this
  show(if k<P.types.size then P.types[k]? else _)=AC i;rw[Ae b];exact this
 refine⟨λk d h=> ?_,a⟩;unfold Sx wx at h;simp only at h;unfold Program.underlying
 split at h
 ·rename_i i e;rw[a k i e];obtain⟨desc,g,a2,a3,a4,a5,l,m,n,a9⟩:=i;cases desc with
  |named o u=>
   simp only at h⊢
   split at h
   ·rename_i j f;cases h;rw[a u j f];rfl
   ·cases h
  |_=>simp only at h⊢;exact h
 ·cases h
theorem tL{P:Ao}{t:Tr Func}(c:t=tJ 0 P.funcs.toList .lf)(d:P.funcs.toList.all (λf=> !(f.name== "runtime.NumGoroutine"))=true):
  ∀f x,AA6 t f=AC x->P.funcs[f]?=AC x/\x.body.isSome=true/\(x.name== "runtime.NumGoroutine")=false:=by
 intro f x h;unfold AA6 at h
 split at h
 ·rename_i fn a
  split at h
  ·rename_i b e;cases h;rw[c]at a;have:=Y5 a;refine⟨by rw[<-Bf];exact this,by rw[e];rfl,?_⟩;have:=C8.1 d x (yf this);simpa using this
  ·cases h
 ·cases h
