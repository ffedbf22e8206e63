/-
  The engine, part 7: an abstract evaluator over the model's code, proved sound. No condition.
-/
import Derived.Test.YtkgejlchafionaaGreatDoorEng6
import Derived.Scope
section
noncomputable section
noncomputable section
namespace Go.Eng
open Go
def VU (E:Env) (s:Tr Value) (σ:St):ResultVar->Option (Value×Foot)
 | .tmp t=>match s.get t with
   |some v=>some (v,.nil)
   |none=>none
 | .cell a t=>match s.get a with
   |some v=>match Ia E.T σ t v with
    |some r=>some (r.v,r.φ)
    |none=>none
   |none=>none
def DZ (E:Env) (s:Tr Value) (σ:St):List ResultVar->Option (List Value×Foot)
 |[]=>some ([],.nil)
 |r::rs=>match VU E s σ r with
  |some (v,φ)=>match DZ E s σ rs with
   |some (vs,ψ)=>some (v::vs,φ.add ψ)
   |none=>none
  |none=>none
def ES:Nat->List Value->Tr Value->Tr Value
 |_,[],t=>t
 |k,v::vs,t=>ES (k+1) vs (t.set k (some v))
theorem Post.grown {P:Program} {D N:Nat->Prop} {ι:Nat->Reg} {h:H} {w w':World} {φ:Foot} (a:∀id,¬N id) (c:Bx w w') (e:φ.wc=[]) (d:φ.wh=[]):Post P D N ι h w φ ι h w' where
 io:=λ_ _=>rfl
 size:=c.1
 os:=c.2.1
 out:=c.2.2.1
 hdr:=λid x hx=>by rcases hx with hx|hx;simp[Foot.Wi,d] at hx;exact absurd hx (a id)
 cel:=λid k v hx=>by rcases hx with hx|hx;simp[Foot.Wc,e,d] at hx;exact absurd hx (a id)
 ahdr:=λ_ _ _=>rfl
 acel:=λ_ _ _ _=>rfl
 cfr:=λb f _=>by rw[c.2.2.2 b f];exact BC.refl _ _
 fresh:=λid hx=>absurd hx (a id)
 freshF:=λid hx=>absurd hx (a id)
 dist:=λi _ hx=>absurd hx (a i)
 nl:=λid hx=>absurd hx (a id)
 wl:=λid k hx=>by simp[Foot.Wc,e,d] at hx
 wrm:=λ_ _ hx=>hx
 wrow:=λid k hx=>by simp[Foot.Wc,e,d] at hx
def RI (E:Env) (v:Value) (σ:St):Option (Value×St×Foot):=bif Iq σ E.gl then some (v,σ,⟨[],E.gl.map (·.1),[],[]⟩) else none
def M0 (E:Env) (S:PSpec) (args:List Value) (σ:St):Option (Value×St×Foot):=
 match Hn σ S.ts args with
 |some (x,a,b)=>bif Iq σ E.gl then match EM (IW S.rs (S.g x)) σ with
   |(vs,σ')=>some (De (Zh S.rs vs),σ'.assumes (S.pre x::b),⟨[],a++E.gl.map (·.1),[],[]⟩)
  else none
 |none=>none
def M1 (E:Env) (S:PSpec) (args:List Value) (σ:St):Option (Value×St×Foot):=
 match Pc σ S.ts args with
 |some c=>bif Iq σ E.gl&&S.rs.all Ty.flat&&Dv σ c.i&&Jl σ c.g then match EM (IW S.rs (S.g c.x)) σ with
   |(vs,σ')=>some (De (Zh S.rs vs),σ'.assumes (S.pre c.x::c.p),⟨[],(c.i++c.g)++E.gl.map (·.1),[],[]⟩)
  else none
 |none=>none
def JW (E:Env) (S:PSpec) (args:List Value) (σ:St):Option (Value×St×Foot):=
 match M0 E S args σ with
 |some r=>some r
 |none=>M1 E S args σ
def MG (E:Env) (S:VSpec) (args:List Value) (σ:St):Option (Value×St×Foot):=
 match args with
 |[v]=>match v with
  | .tuple a=>match a.toList with
    |[.chan (some 2),.pointer (some ⟨id,0,none⟩)]=>match σ.heap.get id with
     |some (.vec t b e)=>if h:t=S.t then(bif Nat.beq e S.e&&(Iq σ E.gl&& !Dw (E.gl.map (·.1)) [id]) then some (.tuple #[],(σ.put id (some (.vec S.t (S.g (h▸b)) S.e))).assumes [S.pre (h▸b)],⟨[],E.gl.map (·.1),[],[id]⟩) else none) else none
     |_=>none
    |_=>none
  |_=>none
 |_=>none
def F9 (E:Env) (run:Nat->Code->Tr Value->St->Option (Exit×Tr Value×St×Foot)):Cb:=λf args σ=>
 match E.sum f args with
 |some v=>RI E v σ
 |none=>match E.spec f with
 |some S=>JW E S args σ
 |none=>match E.osp f with
 |some S=>ME E S args σ
 |none=>match E.vsp f with
 |some S=>MG E S args σ
 |none=>match E.fn f with
 |some fn=>match fn.body with
  |some body=>bif Nat.ble args.length fn.ntmps then match run fn.ntmps body (ES 0 args .lf) σ with
    |some (x,s',σ',φ)=>match x with
     | .normal| .ret=>match DZ E s' σ' fn.results.toList with
       |some (vs,ψ)=>some (De vs,σ',(φ.add ψ).trim σ.next)
       |none=>none
     |_=>none
    |none=>none
   else none
  |none=>none
 |none=>none
def ev (P:Program) (E:Env):Nat->Option Code->Nat->Code->Tr Value->St->Option (Exit×Tr Value×St×Foot)
 |0,_,_,_,_,_=>none
 |n+1,some body,nt,c,s,σ=>match ev P E n none nt c s σ with
  |some (x,s1,σ1,φ1)=>match x with
   | .goto l=>match findLabel body l with
     |some a=>match ev P E n (some body) nt a s1 σ1 with
      |some (y,s2,σ2,φ2)=>some (y,s2,σ2,φ1.add φ2)
      |none=>none
     |none=>some (.goto l,s1,σ1,φ1)
   |x=>some (x,s1,σ1,φ1)
  |none=>none
 |n+1,none,nt,c,s,σ=>match c with
  | .skip=>some (.normal,s,σ,.nil)
  | .label _=>some (.normal,s,σ,.nil)
  | .ret=>some (.ret,s,σ,.nil)
  | .exit id=>some (.exit id,s,σ,.nil)
  | .goto l=>some (.goto l,s,σ,.nil)
  | .region _ ops false=>match HV P E (F9 E λnt c s σ=>ev P E n none nt c s σ) nt ops.toList ops.toList s σ with
    |some (s',σ',φ)=>some (.normal,s',σ',φ)
    |none=>none
  | .region _ ops true=>match C7 P E (F9 E λnt c s σ=>ev P E n none nt c s σ) nt ops.toList ops.toList s σ with
    |some (s',σ',recs)=>bif HZ ops ops.toList recs [] ops.toList recs then some (.normal,s',σ',BP recs) else none
    |none=>none
  | .seq x y=>match ev P E n none nt x s σ with
    |some (e,s1,σ1,φ1)=>match e with
     | .normal=>match ev P E n none nt y s1 σ1 with
       |some (d,s2,σ2,φ2)=>some (d,s2,σ2,φ1.add φ2)
       |none=>none
     |e=>some (e,s1,σ1,φ1)
    |none=>none
  | .cond f x y=>match av E.G s f with
    |some (.bool true)=>ev P E n none nt x s σ
    |some (.bool false)=>ev P E n none nt y s σ
    |_=>none
  | .block id body=>match ev P E n none nt body s σ with
    |some (e,s1,σ1,φ1)=>match e with
     | .exit b=>bif Nat.beq b id then some (.normal,s1,σ1,φ1) else some (.exit b,s1,σ1,φ1)
     |e=>some (e,s1,σ1,φ1)
    |none=>none
  | .loop body=>match ev P E n none nt body s σ with
    |some (e,s1,σ1,φ1)=>match e with
     | .normal=>match ev P E n none nt (.loop body) s1 σ1 with
       |some (d,s2,σ2,φ2)=>some (d,s2,σ2,φ1.add φ2)
       |none=>none
     |e=>some (e,s1,σ1,φ1)
    |none=>none
  | .scope body=>ev P E n (some body) nt body s σ
  |_=>none
section
variable {P:Program} {E:Env} (hE:E.OK P) {D:Nat->Prop} {ι:Nat->Reg} {σ σ':St} {w:World} {s s':Tr Value} {a:Act} {nt:Nat} {φ ψ:Foot}
include hE
theorem Y7 {t:TypeId} {x k:Value} {r:R} (h:Ia E.T σ t x=some r) (n:VR D ι x k) (m:HOn P D ι σ.H r.φ w):∃v',(Instr.loadAt t k).run P w=.ok v' w/\VR D ι r.v v'/\r.σ=σ/\r.φ.wc=[]/\r.φ.wh=[]:=by
 unfold Ia at h
 split at h
 ·rename_i id off;obtain⟨rfl,s⟩:=n.ptr_inv
  split at h
  ·rename_i u e y f
   split at h
   ·rename_i d hd;cases a:GC d
    ·rw[a,cond_false,MI] at h
     split at h
     ·rename_i v o;cases h;obtain⟨-,v',g,b⟩:=m.ce id off v (.inl (by simp)) (St.lv_of f) (by rw[St.cell_of f];exact o);refine⟨v',?_,b,rfl,rfl,rfl⟩;simp only[Instr.loadAt,Instr.sureAddr,loadVar,Sem.run_bind,Sem.run_pure,Result.andThen_ok,CW hE.T hd,a,Bool.false_eq_true,if_false,run_load,g]
     ·cases h
    ·rw[a,cond_true] at h
     split at h
     ·rename_i i p
      split at h
      ·rename_i l q;cases h;obtain⟨c,g,b⟩:=CB f q m λj z=>.inl (CA.2 ⟨rfl,by omega,by omega⟩)
       refine⟨.agg c,?_,.agg _ _ b.1 b.2,rfl,rfl,rfl⟩;simp only[Instr.loadAt,Instr.sureAddr,loadVar,Sem.run_bind,Sem.run_pure,Result.andThen_ok,CW hE.T hd,a,if_true,Ao hE.T p,g w rfl]
      ·cases h
     ·cases h
   ·cases h
  ·cases h
 ·cases h
def VV (tmps:Array Value):ResultVar->Sem Value
 | .tmp t=>Pure.pure (tmps.getD t undef)
 | .cell a t=>do loadVar t (<-asAddr (tmps.getD a undef))
theorem VW {r:ResultVar} {v:Value} (h:VU E s σ r=some (v,φ)) (e:FL nt D ι s a) (i:HOn P D ι σ.H φ w):∃v',(VV a.tmps r).run P w=.ok v' w/\VR D ι v v'/\φ.wc=[]/\φ.wh=[]:=by
 unfold VU at h
 split at h
 ·rename_i t
  split at h
  ·rename_i u d;cases h;exact⟨_,rfl,(e.2 t _ d).2,rfl,rfl⟩
  ·cases h
 ·rename_i b t
  split at h
  ·rename_i u d
   split at h
   ·rename_i r c;cases h;have f:=(e.2 b _ d).2;obtain⟨v',g,j,_,k,l⟩:=Y7 hE c f i;refine⟨v',?_,j,k,l⟩;have:∃id off,u=.pointer (some ⟨id,off,none⟩):=by
     unfold Ia at c
     split at c
     ·exact⟨_,_,rfl⟩
     ·cases c
    obtain⟨id,off,rfl⟩:=this;obtain⟨q,_⟩:=f.ptr_inv;rw[q] at g;simp only[VV,q,asAddr,Sem.run_bind,Sem.run_pure,Result.andThen_ok];simpa[Instr.loadAt,Instr.sureAddr] using g
   ·cases h
  ·cases h
theorem Is:∀(rs:List ResultVar) (vs:List Value) (φ:Foot),DZ E s σ rs=some (vs,φ)->FL nt D ι s a->HOn P D ι σ.H φ w->
  ∃l:List Value,(rs.mapM (VV a.tmps)).run P w=.ok l w/\AR D ι vs.toArray l.toArray/\φ.wc=[]/\φ.wh=[]
 |[],vs,φ,h,_,_=>by
  simp only[DZ,Option.some.injEq,Prod.mk.injEq] at h;obtain⟨rfl,rfl⟩:=h;exact⟨[],rfl,⟨rfl,by simp⟩,rfl,rfl⟩
 |r::rs,vs,φ,h,d,e=>by
  simp only[DZ] at h
  split at h
  ·rename_i v φ1 g
   split at h
   ·rename_i vs' φ2 j;simp only[Option.some.injEq,Prod.mk.injEq] at h;obtain⟨rfl,rfl⟩:=h;obtain⟨v',m,n,o,p⟩:=VW hE g d (e.sub (λid x=>Foot.add_Fi.2 (.inl x)) λid k x=>Foot.add_Fc.2 (.inl x));obtain⟨l,g1,f,g3,g4⟩:=Is rs vs' φ2 j d (e.sub (λid x=>Foot.add_Fi.2 (.inr x)) λid k x=>Foot.add_Fc.2 (.inr x))
    refine⟨v'::l,?_,⟨by simpa using f.1,λi x y b c=> ?_⟩,by simp[Foot.add,o,g3],by simp[Foot.add,p,g4]⟩
    ·simp only[List.mapM_cons,Sem.run_bind,m,Result.andThen_ok,g1,Sem.run_pure]
    ·rcases i with _|i
     ·simp at b c;subst b c;exact n
     ·exact f.2 i x y (by simpa using b) (by simpa using c)
   ·cases h
  ·cases h
theorem Sx {fn:Func} {vs:List Value} (h:DZ E s σ fn.results.toList=some (vs,φ)) (e:FL nt D ι s a) (f:HOn P D ι σ.H φ w):
  ∃v',(results fn a.tmps).run P w=.ok v' w/\VR D ι (De vs) v'/\φ.wc=[]/\φ.wh=[]:=by
 obtain⟨l,c,b,g,i⟩:=Is hE _ _ _ h e f;have j:vs.length=l.length:=by simpa using b.1
 have d:(fn.results.mapM (VV a.tmps)).run P w=.ok l.toArray w:=by
  rw[Array.mapM_eq_mapM_toList,Sem.run_map,c];rfl
 have k:results fn a.tmps=(do let vs<-fn.results.mapM (VV a.tmps);Pure.pure (if h:vs.size=1 then vs[0] else .tuple vs)):=by
  unfold results;congr 2
 refine⟨if h:l.toArray.size=1 then l.toArray[0] else .tuple l.toArray,?_,?_,g,i⟩
 ·rw[k,Sem.run_bind,d];rfl
 ·clear c d h
  match vs,l,j,b with
  |[],[],_,_=>exact .tuple _ _ rfl (by simp)
  |[v],[v'],_,b=>exact b.2 0 v v' (by simp) (by simp)
  |v::v2::vs,v'::m::l,_,b=>
   simp only[List.size_toArray,List.length_cons,De];rw[dif_neg (by omega)];exact .tuple _ _ b.1 b.2
omit hE
theorem Pe:∀(vs:List Value) (k:Nat) (t:Tr Value) (j:Nat),(ES k vs t).get j=if k<=j/\j<k+vs.length then vs[j-k]? else t.get j
 |[],k,t,j=>by rw[ES,if_neg (by simp only[List.length_nil];omega)]
 |v::vs,k,t,j=>by
  rw[ES,Pe vs (k+1),Tr.set_get];simp only[List.length_cons];by_cases e:j=k
  ·subst e;rw[if_neg (by omega),if_pos rfl,if_pos (by omega)];simp
  ·by_cases h:k+1<=j/\j<k+1+vs.length
   ·rw[if_pos h,if_pos (by omega),show j-k=(j-(k+1))+1 by omega];simp
   ·rw[if_neg h,if_neg e,if_neg (by omega)]
theorem Kd {args:List Value} {a:Array Value} {n:Nat} (h:AR D ι args.toArray a) (d:args.length<=n):
  FL n D ι (ES 0 args .lf) { tmps:=a++Array.replicate (n-a.size) undef,defers:=[]}:=by
 have f:args.length=a.size:=by simpa using h.1
 refine⟨by simp;omega,λt v e=> ?_⟩;rw[Pe] at e;by_cases c:0<=t/\t<0+args.length
 ·rw[if_pos c] at e;have b:t<a.size:=by omega
  refine⟨by omega,?_⟩;rw[Array.getD_eq_getD_getElem?,Array.getElem?_append_left b,Array.getElem?_eq_getElem b];exact h.2 t v _ (by simpa using e) (Array.getElem?_eq_getElem b)
 ·rw[if_neg c] at e;rw[Tr.get_lf] at e;cases e
def xJ (P:Program) (body c:Code) (Q:Exit->Act->World->Prop) (a:Act) (w:World):Prop:=
 ∀(b:Frame) (k:List Item) (d:List Frame),∃e f w',Q e f w'/\Arrives P (lone (b.at a (.code c:: .inScope body::k)) d w) b k d e f w'
def Exit.inScope (P:Program) (body:Code) (Q:Exit->Act->World->Prop):Exit->Act->World->Prop
 | .goto l,a,w=>match findLabel body l with
   |some b=>xJ P body b Q a w
   |none=>Q (.goto l) a w
 |e,a,w=>Q e a w
theorem ABD {body c:Code} {Q:Exit->Act->World->Prop} (h:c.wp P (Exit.inScope P body Q) a w):xJ P body c Q a w:=by
 intro b k m;obtain⟨e,a₁,w₁,f,d⟩:=h b (.inScope body::k) m;cases e with
 |normal=>exact⟨.normal,a₁,w₁,f,Steps.trans d (.one step_inScope)⟩
 |exit id=>exact⟨.exit id,a₁,w₁,f,λg i=>d g (by simp[exitTo,i])⟩
 |goto l=>
  simp only[Exit.inScope] at f
  split at f
  ·rename_i n j;obtain⟨e₂,a₂,w₂,hq₂,harr₂⟩:=f b k m;exact⟨e₂,a₂,w₂,hq₂,.of_steps (d _ (by simp[gotoIn,j])) harr₂⟩
  ·rename_i j;exact⟨.goto l,a₁,w₁,f,λg i=>d g (by simp[gotoIn,j,i])⟩
 |ret=>exact⟨_,a₁,w₁,f,d⟩
 |panic o=>exact⟨_,a₁,w₁,f,d⟩
 |outgrown=>exact⟨_,a₁,w₁,f,d⟩
theorem LI {body:Code} {Q:Exit->Act->World->Prop} (h:xJ P body body Q a w):(Code.scope body).wp P Q a w:=by
 intro b k d;obtain⟨e,a₁,w₁,f,c⟩:=h b k d;exact⟨e,a₁,w₁,f,.of_steps (.one step_scope) c⟩
def nV (P:Program) (c:Code) (Q:Exit->Act->World->Prop) (a:Act) (w:World):Prop:=
 ∀(b:Frame) (k:List Item) (d:List Frame),∃e f w',Q e f w'/\Arrives P (lone (b.at a (.code c:: .inLoop c::k)) d w) b k d e f w'
theorem RJ {c:Code} {Q:Exit->Act->World->Prop} (h:c.wp P (Exit.then (nV P c Q) Q) a w):nV P c Q a w:=by
 intro b k g;obtain⟨e,a₁,w₁,f,d⟩:=h b (.inLoop c::k) g;cases e with
 |normal=>
  obtain⟨e₂,a₂,w₂,hq₂,harr₂⟩:=f b k g;exact⟨e₂,a₂,w₂,hq₂,.of_steps (Steps.trans d (.one step_inLoop)) harr₂⟩
 |exit id=>exact⟨_,a₁,w₁,f,.pass (x:=.inLoop c) rfl (λ_ _=>.inl (by simp)) d⟩
 |goto l=>exact⟨_,a₁,w₁,f,.pass (x:=.inLoop c) rfl (λ_ _=>.inl (by simp)) d⟩
 |ret=>exact⟨_,a₁,w₁,f,.pass (x:=.inLoop c) rfl (λ_ _=>.inl (by simp)) d⟩
 |panic i=>exact⟨_,a₁,w₁,f,.pass (x:=.inLoop c) rfl (λ_ _=>.inl (by simp)) d⟩
 |outgrown=>exact⟨_,a₁,w₁,f,.pass (x:=.inLoop c) rfl (λ_ _=>.inl (by simp)) d⟩
theorem M4 {c:Code} {Q:Exit->Act->World->Prop} (h:nV P c Q a w):(Code.loop c).wp P Q a w:=by
 intro b k f;obtain⟨e,a₁,w₁,g,d⟩:=h b k f;exact⟨e,a₁,w₁,g,.of_steps (.one step_loop) d⟩
end
def Gt (P:Program) (E:Env) (nt:Nat) (s s':Tr Value) (σ σ':St) (φ:Foot) (x:Exit) (wp:(Exit->Act->World->Prop)->Act->World->Prop):Prop:=
 σ'.Ok->∀(D:Nat->Prop) (ι:Nat->Reg) (w:World) (a:Act) (Q:Exit->Act->World->Prop),σ.wf->GI E D ι->(∀id,σ.rng σ' id->¬D id)->FL nt D ι s a->HOn P D ι σ.H φ w->
  (∀ι' w' b,FL nt (λi=>D i\/σ.rng σ' i) ι' s' b->b.defers=a.defers->Post P D (σ.rng σ') ι σ.H w φ ι' σ'.H w'->Q x b w')->wp Q a w
def Gu (σ σ':St) (φ:Foot):Prop:=σ.next<=σ'.next/\(σ.wf->σ'.wf/\AFr σ σ' φ)
theorem Gu.refl (σ:St) (φ:Foot):Gu σ σ φ:=⟨Nat.le_refl _,λa=>⟨a,AFr.refl _ _⟩⟩
theorem Gu.trans {σ σ1 σ2:St} {φ ψ:Foot} (h:Gu σ σ1 φ) (a:Gu σ1 σ2 ψ):Gu σ σ2 (φ.add ψ):=
 ⟨Nat.le_trans h.1 a.1,λb=>by
  obtain⟨c,f1⟩:=h.2 b;obtain⟨d,f2⟩:=a.2 c;exact⟨d,f1.trans f2 h.1 a.1⟩⟩
section
variable {P:Program} {E:Env} {nt:Nat} {s s1 s2:Tr Value} {σ σ1 σ2:St} {φ ψ:Foot} {x y:Exit} {wp wp2:(Exit->Act->World->Prop)->Act->World->Prop}
theorem Gt.here (h:∀Q a w,Q x a w->wp Q a w):Gt P E nt s s σ σ .nil x wp:=λ_ _ ι w a Q _ _ _ b _ c=>
 h Q a w (c ι w a (b.mono (λ_=>.inl) λ_ _=>rfl) rfl (Post.refl _ _ _ _ _ _ (St.rng_self σ)))
theorem Gt.mono (h:Gt P E nt s s1 σ σ1 φ x wp) (d:∀Q a w,wp (λe a w=>e=x/\Q y a w) a w->wp2 Q a w):Gt P E nt s s1 σ σ1 φ y wp2:=λb D ι w a Q c f hd g i j=>
 d Q a w (h b D ι w a _ c f hd g i λι' w' k l m n=>⟨rfl,j ι' w' k l m n⟩)
theorem Gt.seq {g:(Exit->Act->World->Prop)->Act->World->Prop} (A:Gt P E nt s s1 σ σ1 φ x wp) (B:Gt P E nt s1 s2 σ1 σ2 ψ y wp2) (d:Gu σ σ1 φ) (a2:Gu σ1 σ2 ψ)
  (C:∀Q a w,wp (λe a w=>e=x/\wp2 Q a w) a w->g Q a w):Gt P E nt s s2 σ σ2 (φ.add ψ) y g:=by
 intro i D ι w a Q b v hd F o G;have j:σ1.Ok:=(a2.2 (d.2 b).1).2.ok i;have c:∀id,σ.rng σ1 id->¬D id:=λid f=>hd id (by have:=a2.1;simp only[St.rng] at f⊢;omega)
 refine C Q a w (A j D ι w a _ b v c F (o.sub (λid x=>Foot.add_Fi.2 (.inl x)) λid k x=>Foot.add_Fc.2 (.inl x)) λι' w' H p q r=>⟨rfl,?_⟩);have l:∀id,σ1.rng σ2 id->¬(D id\/σ.rng σ1 id):=λid f hx=>by
  have:=d.1;rcases hx with hx|hx
  ·exact hd id (by simp only[St.rng] at f⊢;omega) hx
  ·simp only[St.rng] at f hx;omega
 refine B i _ ι' w' H Q (d.2 b).1 (v.next c r.io) l p (r.hon o c) λι2 I t m n u=> ?_
 have z:=Post.trans o r u l λid f=>by
  have h:=d.1;exact St.hdr_none b id (by simp only[St.rng] at f;omega)
 rw[KX d.1 a2.1] at z;rw[Xe D d.1 a2.1] at m;exact G ι2 I t m (n.trans q) z
end
structure EvOK (P:Program) (E:Env) (n:Nat):Prop where
 plain:∀nt c s σ x s' σ' φ,ev P E n none nt c s σ=some (x,s',σ',φ)->Gu σ σ' φ/\Gt P E nt s s' σ σ' φ x (λQ a w=>c.wp P Q a w)/\∀body,c=.loop body->Gt P E nt s s' σ σ' φ x (λQ a w=>nV P body Q a w)
 scope:∀body nt c s σ x s' σ' φ,ev P E n (some body) nt c s σ=some (x,s',σ',φ)->Gu σ σ' φ/\Gt P E nt s s' σ σ' φ x (λQ a w=>xJ P body c Q a w)
section
variable {P:Program} {E:Env} (hE:E.OK P)
include hE
theorem JX {σ:St} (g:Iq σ E.gl=true) {D:Nat->Prop} {ι:Nat->Reg} {w:World} {φ:Foot} (f:GI E D ι) (h:∀p,p∈E.gl->p.1∈φ.rh) (j:HOn P D ι σ.H φ w):I6 E.gl w:=by
 refine⟨λp b i c k=> ?_,λp b=> ?_⟩
 ·obtain⟨e,o,a⟩:=FZ g p b;obtain⟨d,q⟩:=hE.gl p b;obtain⟨-,u,l,r⟩:=j.ce p.1 i c (.inr (.inl (h p b))) (St.lv_of a) (by rw[St.cell_of a];exact k);rw[(f p.1 d).2.1,(f p.1 d).2.2.1,Nat.zero_add] at l;exact⟨u,l,.of (List.all_eq_true.1 q c (List.mem_of_getElem? k)) r⟩
 ·obtain⟨e,o,a⟩:=FZ g p b;obtain⟨d, -⟩:=hE.gl p b;obtain⟨c,s,fr,m,n, -⟩:=j.hd p.1 _ (.inr (.inl (h p b))) (St.hdr_of a);rw[(f p.1 d).2.1] at m;rw[(f p.1 d).2.2.1,(f p.1 d).2.2.2 p b rfl,Nat.zero_add] at n;exact⟨c,s,fr,m,n.symm⟩
omit hE in
theorem Y8 {σ:St}:∀(t:Ty) (c:List Value) (x:t.Den) (r:List Value) (i:List Nat) (p:List Bool),A3 σ t c=some (x,r,i,p)->∀id,id∈i->Lv σ.H id:=by
 intro t
 induction t with
 |pair a b d e=>
  intro c x r i p h id hid;simp only[A3] at h
  split at h
  ·rename_i m n o q f
   split at h
   ·rename_i s u i2 w g;cases h;rcases List.mem_append.1 hid with hid|hid
    ·exact d _ _ _ _ _ f id hid
    ·exact e _ _ _ _ _ g id hid
   ·cases h
  ·cases h
 |slice a y=>
  intro c x r i p h id hid;cases c with
  |nil=>simp[A3] at h
  |cons v c=>
   simp only[A3] at h
   split at h
   ·cases h;cases hid
   ·cases h;cases hid
   ·split at h
    ·split at h
     ·rename_i t z j
      split at h
      ·rename_i l;subst l;cases h;rw[List.mem_singleton] at hid;subst hid;exact St.lv_of j
      ·cases h
     ·cases h
    ·cases h
   ·cases h
 |unit=>
  intro c x r i p h id hid;simp only[A3,Option.some.injEq,Prod.mk.injEq] at h;obtain⟨-, -,rfl, -⟩:=h;cases hid
 |int k=>
  intro c x r i p h id hid;cases c with
  |nil=>simp[A3] at h
  |cons v c=>
   simp only[A3,Bool.cond_eq_ite] at h
   repeat' split at h
   all_goals cases h
   cases hid
 |_=>
  intro c x r i p h id hid;cases c with
  |nil=>simp[A3] at h
  |cons v c=>
   simp only[A3,Bool.cond_eq_ite] at h
   repeat' split at h
   all_goals cases h
   all_goals cases hid
omit hE in
theorem Sy {σ:St}:∀(ts:List Ty) (vs:List Value) (x:AA ts) (i:List Nat) (p:List Bool),Hn σ ts vs=some (x,i,p)->∀id,id∈i->Lv σ.H id
 |[],vs,x,i,p,h,id,hid=>by
  cases vs with
  |nil=>simp only[Hn,Option.some.injEq,Prod.mk.injEq] at h;obtain⟨-,rfl, -⟩:=h;cases hid
  |cons _ _=>simp[Hn] at h
 |t::ts,vs,x,i,p,h,id,hid=>by
  cases vs with
  |nil=>simp[Hn] at h
  |cons v vs=>
   simp only[Hn] at h
   split at h
   ·split at h
    ·rename_i c d e a
     split at h
     ·rename_i y j q b;cases h;rcases List.mem_append.1 hid with hid|hid
      ·exact Y8 t _ _ _ _ _ a id hid
      ·exact Sy ts vs y j q b id hid
     ·cases h
    ·cases h
   ·cases h
theorem M5 {S:PSpec} {f:FuncId} (N:E.spec f=some S) {args:List Value} {σ σ':St} {v:Value} {φ:Foot} (h:M0 E S args σ=some (v,σ',φ)):
  σ.next<=σ'.next/\(σ.wf->σ'.wf/\AFr σ σ' φ)/\
  (σ'.Ok->∀(D:Nat->Prop) (ι:Nat->Reg) (w:World) (a:Array Value),σ.wf->GI E D ι->(∀id,σ.rng σ' id->¬D id)->AR D ι args.toArray a->HOn P D ι σ.H φ w->
   Calls P f a w λe w'=>∃v' ι',e=.returned v'/\VR (λi=>D i\/σ.rng σ' i) ι' v v'/\Post P D (σ.rng σ') ι σ.H w φ ι' σ'.H w'):=by
 unfold M0 at h
 split at h
 ·rename_i x j d k;cases s:Iq σ E.gl
  ·rw[s] at h;cases h
  rw[s,cond_true] at h;rcases hm:EM (IW S.rs (S.g x)) σ with⟨vs,σ1⟩
  rw[hm] at h;simp only[Option.some.injEq,Prod.mk.injEq] at h;obtain⟨rfl,rfl,rfl⟩:=h;have l:=CY (φ:=⟨[],j++E.gl.map (·.1),[],[]⟩) hm;refine⟨(A4.assumes (v:=undef) (S.pre x::d) l).1,(A4.assumes (v:=undef) (S.pre x::d) l).2,?_⟩;intro u D ι w a m O hd Q L;obtain⟨⟨n,y⟩, -⟩:=(BT _ _).1 u
  have R:∀id,id∈j->∀x,σ.H.hdr id=some x->Am P ι id w x:=λid hid x T=>L.hd id x (.inr (.inl (by simp[hid]))) T
  have z:LR D ι args a.toList:=LR.of_AR (by simpa using Q);have A:=Ta R S.ts args a.toList x j d k (λ_ h=>h) y z;have B:I6 E.gl w:=JX hE s O (λp C=>by simp only[List.mem_append,List.mem_map];exact .inr ⟨p,C,rfl⟩) L;refine(hE.spec f S N (IJ ι j w) w a x (nw j) B A n).mono ?_
  rintro e w' ⟨M,U,rfl,h1,F,V,W,r⟩;obtain⟨X,Y,Z,u3⟩:=Rk S.rs (S.g x) M W;obtain⟨ι',m1,m2,m3⟩:=AA4 (IW S.rs (S.g x)) X D ι σ σ1 vs hm Y Z;have G:=u3 vs _ ι' m2 m3;refine⟨De M,ι',rfl,?_,?_⟩
  ·have hD:(λi=>D i\/σ.rng (σ1.assumes (S.pre x::d)) i)=λi=>D i\/σ.rng σ1 i:=by
    have:(σ1.assumes (S.pre x::d)).next=σ1.next:=by
     have:∀(d:List Bool),(σ1.assumes d).next=σ1.next:=λd=>by
      induction d with
      |nil=>rfl
      |cons p d I=>exact I
     exact this _
    funext i;simp only[St.rng,this]
   rw[hD]
   revert G
   generalize Zh S.rs vs=gs;intro G;cases G with
   |nil=>exact .tuple _ _ rfl (by simp)
   |cons h t=>
    cases t with
    |nil=>exact h
    |cons F t=>
     obtain⟨a1,a2⟩:=LR.AR (.cons h (.cons F t));exact .tuple _ _ a1 a2
  ·have C:=Post.mats (P:=P) (D:=D) (φ:=⟨[],j++E.gl.map (·.1),[],[]⟩) m m1 r.1 r.2.1 r.2.2.1 r.2.2.2 F (λb c o=> ?_) rfl rfl
   ·have:∀(d:List Bool),(σ1.assumes d).next=σ1.next/\(σ1.assumes d).H=σ1.H:=λd=>by
     induction d with
     |nil=>exact⟨rfl,rfl⟩
     |cons p d I=>exact I
    obtain⟨q1,q2⟩:=this (S.pre x::d);have J:σ.rng (σ1.assumes (S.pre x::d))=σ.rng σ1:=by funext i;simp only[St.rng,q1]
    rw[J,q2];exact C
   ·rcases V b c o with o|o
    ·obtain⟨id,hid,K⟩:=ny o;have q:Lv σ.H id:=Sy S.ts args x j d k id hid;exact .inr ⟨id,.inr (.inl (by simp[hid])),λJ=>by have:=St.lv_lt m q;simp only[St.rng] at J;omega,q,K⟩
    ·exact .inl o
 ·cases h
theorem M6 {S:PSpec} {f:FuncId} (M:E.spec f=some S) {args:List Value} {σ σ':St} {v:Value} {φ:Foot} (h:M1 E S args σ=some (v,σ',φ)):
  σ.next<=σ'.next/\(σ.wf->σ'.wf/\AFr σ σ' φ)/\
  (σ'.Ok->∀(D:Nat->Prop) (ι:Nat->Reg) (w:World) (a:Array Value),σ.wf->GI E D ι->(∀id,σ.rng σ' id->¬D id)->AR D ι args.toArray a->HOn P D ι σ.H φ w->
   Calls P f a w λe w'=>∃v' ι',e=.returned v'/\VR (λi=>D i\/σ.rng σ' i) ι' v v'/\Post P D (σ.rng σ') ι σ.H w φ ι' σ'.H w'):=by
 unfold M1 at h
 split at h
 ·rename_i c d;cases l:(Iq σ E.gl&&S.rs.all Ty.flat&&Dv σ c.i&&Jl σ c.g)
  ·rw[l] at h;cases h
  rw[l,cond_true] at h;simp only[Bool.and_eq_true] at l;obtain⟨⟨⟨l,u⟩,m⟩,n⟩:=l;have m:=DM m;have n:=Dx n;rcases hm:EM (IW S.rs (S.g c.x)) σ with⟨vs,σ1⟩
  rw[hm] at h;simp only[Option.some.injEq,Prod.mk.injEq] at h;obtain⟨rfl,rfl,rfl⟩:=h;have o:=CY (φ:=⟨[],(c.i++c.g)++E.gl.map (·.1),[],[]⟩) hm;refine⟨(A4.assumes (v:=undef) (S.pre c.x::c.p) o).1,(A4.assumes (v:=undef) (S.pre c.x::c.p) o).2,?_⟩;intro y D ι w a z N hd O A;obtain⟨⟨q,B⟩, -⟩:=(BT _ _).1 y
  have r:∀id,id∈c.i\/id∈c.g->id∈(⟨[],(c.i++c.g)++E.gl.map (·.1),[],[]⟩:Foot).rh:=λid hid=>List.mem_append_left _ (List.mem_append.2 hid)
  have C:LR D ι args a.toList:=LR.of_AR (by simpa using O);have F:=Sp (is:=c.i) (gs:=c.g) (P:=P) (w:=w) (λid hid x Q=>A.hd id x (.inr (.inl (r id hid))) Q) (λid hid k v G R=>A.ce id k v (.inr (.inl (r id (.inr hid)))) G R) S.ts args a.toList c d (λ_ h=>h) (λ_ h=>h) B C
  have I:I6 E.gl w:=JX hE l N (λp T=>by simp only[List.mem_append,List.mem_map];exact .inr ⟨p,T,rfl⟩) A;refine(hE.spec f S M (Gv ι c.i c.g w) w a c.x Du I F q).mono ?_;rintro e w' ⟨J,U,rfl,h1,h2,h3,K,t⟩;have K:Bc (λ_=>none) S.rs (S.g c.x) J:=K.flat u;obtain⟨V,W,X,Y⟩:=Rk S.rs (S.g c.x) J K
  obtain⟨ι',Z,m2,m3⟩:=AA4 (IW S.rs (S.g c.x)) V D ι σ σ1 vs hm W X;have G:=Y vs _ ι' m2 m3;have j:∀(s:List Bool),(σ1.assumes s).next=σ1.next/\(σ1.assumes s).H=σ1.H:=λs=>by
   induction s with
   |nil=>exact⟨rfl,rfl⟩
   |cons p s ih=>exact ih
  obtain⟨q1,q2⟩:=j (S.pre c.x::c.p);have L:σ.rng (σ1.assumes (S.pre c.x::c.p))=σ.rng σ1:=by funext i;simp only[St.rng,q1]
  refine⟨De J,ι',rfl,?_,?_⟩
  ·rw[L];exact So G
  ·rw[L,q2];exact Post.mats (P:=P) (D:=D) (φ:=⟨[],(c.i++c.g)++E.gl.map (·.1),[],[]⟩) z Z t.1 t.2.1 t.2.2.1 t.2.2.2 (λb c h=>by cases h) (λb c hb=>by cases hb) rfl rfl
 ·cases h
theorem M7 {S:PSpec} {f:FuncId} (b:E.spec f=some S) {args:List Value} {σ σ':St} {v:Value} {φ:Foot} (h:JW E S args σ=some (v,σ',φ)):
  σ.next<=σ'.next/\(σ.wf->σ'.wf/\AFr σ σ' φ)/\
  (σ'.Ok->∀(D:Nat->Prop) (ι:Nat->Reg) (w:World) (a:Array Value),σ.wf->GI E D ι->(∀id,σ.rng σ' id->¬D id)->AR D ι args.toArray a->HOn P D ι σ.H φ w->
   Calls P f a w λe w'=>∃v' ι',e=.returned v'/\VR (λi=>D i\/σ.rng σ' i) ι' v v'/\Post P D (σ.rng σ') ι σ.H w φ ι' σ'.H w'):=by
 unfold JW at h
 split at h
 ·rename_i r c;cases h;exact M5 hE b c
 ·exact M6 hE b h
theorem O6 {S:VSpec} {f:FuncId} (Z:E.vsp f=some S) {args:List Value} {σ σ':St} {v:Value} {φ:Foot} (h:MG E S args σ=some (v,σ',φ)):
  σ.next<=σ'.next/\(σ.wf->σ'.wf/\AFr σ σ' φ)/\
  (σ'.Ok->∀(D:Nat->Prop) (ι:Nat->Reg) (w:World) (b:Array Value),σ.wf->GI E D ι->(∀id,σ.rng σ' id->¬D id)->AR D ι args.toArray b->HOn P D ι σ.H φ w->
   Calls P f b w λe w'=>∃v' ι',e=.returned v'/\VR (λi=>D i\/σ.rng σ' i) ι' v v'/\Post P D (σ.rng σ') ι σ.H w φ ι' σ'.H w'):=by
 unfold MG at h
 split at h
 ·rename_i v0
  split at h
  ·rename_i F
   split at h
   ·rename_i id q
    split at h
    ·rename_i t j e A;by_cases R:t=S.t
     ·subst R;rw[dif_pos rfl] at h;cases B:(Nat.beq e S.e&&(Iq σ E.gl&& !Dw (E.gl.map (·.1)) [id]))
      ·rw[B] at h;cases h
      rw[B,cond_true] at h;simp only[Bool.and_eq_true,Bool.not_eq_true'] at B;obtain⟨G,T,I⟩:=B;have G:=Nat.eq_of_beq_eq_true G;subst G;have I:=DN I;simp only[Option.some.injEq,Prod.mk.injEq] at h;obtain⟨rfl,rfl,rfl⟩:=h;have m:A4 σ ⟨.tuple #[],(σ.put id (some (.vec S.t (S.g j) S.e))).assumes [S.pre j],⟨[],E.gl.map (·.1),[],[id]⟩⟩:=A4.assumes _ ⟨Nat.le_refl _,λU=>⟨St.put_wf U (St.lv_lt U (St.lv_of A)) _,AFr.whole (by simp)⟩⟩
      obtain⟨q1,q2⟩:=F6 (σ:=σ.put id (some (.vec S.t (S.g j) S.e))) [S.pre j];refine⟨m.1,m.2,λJ D ι w b hwf V hd d C=> ?_⟩;obtain⟨⟨r, -⟩, -⟩:=(BT _ _).1 J;obtain⟨v',rfl,W⟩:∃v',b=#[v']/\VR D ι (.tuple F) v':=by
       have hs:b.size=1:=d.1.symm;obtain⟨u,rfl⟩:∃u,b=#[u]:=⟨b[0]'(by omega),by
        apply Array.ext
        ·simpa using hs
        ·intro i X K;have:i=0:=by simp at K;omega
         subst this;rfl⟩
       exact⟨u,rfl,d.2 0 _ _ rfl rfl⟩
      rw[BG q] at W;obtain⟨a,l,c,rfl,hD,L⟩:=Cz W;have k:∀p,p∈E.gl->p.1∈E.gl.map (·.1):=λp o=>List.mem_map_of_mem o
      have M:=JX hE T V k C;have hh:Am P ι id w (.vec S.t j S.e):=C.hd id _ (Foot.Wi.fi (by simp[Foot.Wi])) (St.hdr_of A);have N:∀p,p∈E.gl->¬(ι id).Own p.1:=λp o s=>by
       obtain⟨e',ro,n⟩:=FZ T p o;have O:id≠p.1:=λhe=>I id (by rw[he];exact k p o) (by simp)
       have Q:Am P ι p.1 w _:=C.hd p.1 _ (.inr (.inl (k p o))) (St.hdr_of n);have Y:=Q.own_row;rw[(V p.1 (hE.gl p o).1).2.1] at Y;exact(C.inj id p.1 (Foot.Wi.fi (by simp[Foot.Wi])) (.inr (.inl (k p o))) ⟨_,St.hdr_of A,trivial⟩ (St.lv_of n) O p.1 s).1 Y
      rw[<-L];refine(hE.vsp f S Z (ι id) w j M (hh.as rfl) N r).mono ?_;rintro e w' ⟨rfl,X,K,h3,h4,h5⟩;have hP:=Post.setVec (D:=D) (rh:=E.gl.map (·.1)) (rc:=[]) A (X.as (ι0:=ι) (c:=id) rfl) K h3 h4 h5;refine⟨.tuple #[],ι,rfl,.tuple _ _ rfl (λi x y hx=>by simp at hx),?_⟩;have z:σ.rng ((σ.put id (some (.vec S.t (S.g j) S.e))).assumes [S.pre j])=σ.rng (σ.put id (some (.vec S.t (S.g j) S.e))):=by funext i;simp only[St.rng,q1]
      rw[z,q2];exact hP
     ·rw[dif_neg R] at h;cases h
    ·cases h
   ·cases h
  ·cases h
 ·cases h
theorem JY {n:Nat} (U:EvOK P E n):CallSound P E (F9 E λnt c s σ=>ev P E n none nt c s σ):=by
 refine⟨λf args σ v σ' φ h=> ?_⟩;unfold F9 at h
 split at h
 ·rename_i v0 V;unfold RI at h;cases l:Iq σ E.gl
  ·rw[l] at h;cases h
  ·rw[l,cond_true] at h;cases h;obtain⟨F,O,Q⟩:=hE.sum _ _ _ V;refine⟨Nat.le_refl _,λt=>⟨t,AFr.refl _ _⟩,λ_ D ι w m d u hd a g=> ?_⟩;rw[K2 O a];have G:I6 E.gl w:=JX hE l u (λp C=>by simpa using⟨p.2,C⟩) g;refine(Q w G).mono λe w' ⟨W,o⟩=>⟨v,ι,W,(Ar 8 v F).mono (λ_=>.inl) λ_ _=>rfl,Post.grown (St.rng_self σ) o rfl rfl⟩
 split at h
 ·rename_i S y;exact M7 hE y h
 split at h
 ·rename_i S y;exact O4 hE (λl _ _ _ _ u I g=>JX hE l u I g) y h
 split at h
 ·rename_i S y;exact O6 hE y h
 split at h
 ·rename_i fn J;obtain⟨F,O,Q⟩:=hE.fn f fn J
  split at h
  ·rename_i body q;cases z:Nat.ble args.length fn.ntmps
   ·rw[z] at h;cases h
   ·rw[z,cond_true] at h;have z:=Nat.le_of_ble_eq_true z
    split at h
    ·rename_i x s' σ1 φ1 K;obtain⟨X,l,_⟩:=U.plain _ _ _ _ _ _ _ _ K;have key:(x=.normal\/x=.ret)/\∃vs ψ,DZ E s' σ1 fn.results.toList=some (vs,ψ)/\v=De vs/\σ'=σ1/\φ=(φ1.add ψ).trim σ.next:=by
      split at h
      ·split at h
       ·rename_i vs ψ A;cases h;exact⟨.inl rfl,vs,ψ,A,rfl,rfl,rfl⟩
       ·cases h
      ·split at h
       ·rename_i vs ψ A;cases h;exact⟨.inr rfl,vs,ψ,A,rfl,rfl,rfl⟩
       ·cases h
      ·cases h
     obtain⟨Y,vs,ψ,A,rfl,rfl,rfl⟩:=key;have b:Gu σ σ' (φ1.add ψ):=X.trans (Gu.refl _ _);refine⟨b.1,λt=>⟨(b.2 t).1,(b.2 t).2.trim t (b.2 t).1⟩,?_⟩;intro L D ι w m d u hd a g;have g:=g.untrim λid hid=>St.hdr_none d id hid
     refine calls_of_wp F q ?_;refine l L D ι w _ _ d u hd (Kd a z) (g.sub (λid x=>Foot.add_Fi.2 (.inl x)) λid k x=>Foot.add_Fc.2 (.inl x)) ?_;intro ι' w' R M N C;obtain⟨v',Z,e2,e3,T⟩:=Sx hE A M (C.hon g hd);have r:Post P D (σ.rng σ') ι σ.H w ((φ1.add ψ).trim σ.next) ι' σ'.H w':=by
      refine Post.trim (λid hid=>St.hdr_none d id hid) (C.same_foot (λid=> ?_) (λid k=> ?_) λid I=>Foot.add_Fi.2 (.inl I))
      ·rw[Foot.add_Wi];exact⟨λh=>h.resolve_right λh=>by simp[Foot.Wi,T] at h,.inl⟩
      ·rw[Foot.add_Wc];exact⟨λh=>h.resolve_right λh=>by simp[Foot.Wc,e3,T] at h,.inl⟩
     have j:R.defers=[]/\∃v,(results fn R.tmps).run P w'=.ok v w'/\∃B ι'',Ending.returned v=.returned B/\VR (λi=>D i\/σ.rng σ' i) ι'' (De vs) B/\Post P D (σ.rng σ') ι σ.H w ((φ1.add ψ).trim σ.next) ι'' σ'.H w':=
      ⟨N,v',Z,v',ι',rfl,e2,r⟩
     rcases Y with rfl|rfl
     ·exact j
     ·exact j
    ·cases h
  ·cases h
 ·cases h
end
end Go.Eng
end
end
end
section
noncomputable section
noncomputable section
namespace Go.Eng
open Go
section
variable {P:Program} {E:Env} (hE:E.OK P)
theorem C9 {c:Code} {Q:Code->Prop} (h:∀body,c≠ .loop body):∀body,c=.loop body->Q body:=λbody e=>absurd e (h body)
include hE
theorem lR:∀n,EvOK P E n
 |0=>⟨λnt c s σ x s' σ' φ h=>by simp[ev] at h,λbody nt c s σ x s' σ' φ h=>by simp[ev] at h⟩
 |n+1=>by
  have C:=lR n;have S:=JY hE C;refine⟨λnt c s σ x s' σ' φ h=> ?_,λbody nt c s σ x s' σ' φ h=> ?_⟩
  ·cases c with
   |skip=>
    simp only[ev,Option.some.injEq,Prod.mk.injEq] at h;obtain⟨rfl,rfl,rfl,rfl⟩:=h;exact⟨Gu.refl _ _,Gt.here λQ a w h=>wp_skip h,C9 (by simp)⟩
   |label l=>
    simp only[ev,Option.some.injEq,Prod.mk.injEq] at h;obtain⟨rfl,rfl,rfl,rfl⟩:=h;exact⟨Gu.refl _ _,Gt.here λQ a w h=>wp_label h,C9 (by simp)⟩
   |ret=>
    simp only[ev,Option.some.injEq,Prod.mk.injEq] at h;obtain⟨rfl,rfl,rfl,rfl⟩:=h;exact⟨Gu.refl _ _,Gt.here λQ a w h=>wp_ret h,C9 (by simp)⟩
   |exit id=>
    simp only[ev,Option.some.injEq,Prod.mk.injEq] at h;obtain⟨rfl,rfl,rfl,rfl⟩:=h;exact⟨Gu.refl _ _,Gt.here λQ a w h=>wp_exit h,C9 (by simp)⟩
   |goto l=>
    simp only[ev,Option.some.injEq,Prod.mk.injEq] at h;obtain⟨rfl,rfl,rfl,rfl⟩:=h;exact⟨Gu.refl _ _,Gt.here λQ a w h=>wp_goto h,C9 (by simp)⟩
   |region id ops L=>
    cases L with
    |false=>
     simp only[ev] at h
     split at h
     ·rename_i s1 σ1 φ1 A;simp only[Option.some.injEq,Prod.mk.injEq] at h;obtain⟨rfl,rfl,rfl,rfl⟩:=h;obtain⟨d,a2,a3⟩:=HX hE S ops.toList 0 _ _ _ _ _ A λj _=>by simp
      refine⟨⟨d,a2⟩,λi D ι w a Q g o hd p B F=>wp_region ?_,C9 (by simp)⟩;have:=a3 g i D ι w a Q g o hd p B F;rw[List.range_eq_range'];simpa using this
     ·cases h
    |true=>
     simp only[ev] at h
     split at h
     ·rename_i s1 σ1 recs A;cases q:HZ ops ops.toList recs [] ops.toList recs
      ·rw[q] at h;cases h
      ·rw[q,cond_true] at h;simp only[Option.some.injEq,Prod.mk.injEq] at h;obtain⟨rfl,rfl,rfl,rfl⟩:=h;obtain⟨d,a2,a3⟩:=JV hE S A q;refine⟨⟨d,a2⟩,λi D ι w a Q g o hd p B F=>wp_region_any hE.mixed ?_,C9 (by simp)⟩;have V:HOn P D ι σ.H (BP recs) { w with drawn:=w.drawn+1}:=⟨B.hd,B.ce,B.inj⟩
       refine a3 i D ι _ a Q g o hd p V λι' w' W A K m=>F ι' w' W A K ?_
       exact⟨m.io,m.size,m.os,m.out,m.hdr,m.cel,m.ahdr,m.acel,m.cfr,m.fresh,m.freshF,m.dist,m.nl,m.wl,m.wrm,m.wrow⟩
     ·cases h
   |seq u v=>
    simp only[ev] at h
    split at h
    ·rename_i e s1 σ1 φ1 A;obtain⟨d,g1, -⟩:=C.plain _ _ _ _ _ _ _ _ A
     split at h
     ·split at h
      ·rename_i X s2 σ2 φ2 K;simp only[Option.some.injEq,Prod.mk.injEq] at h;obtain⟨rfl,rfl,rfl,rfl⟩:=h;obtain⟨J,M, -⟩:=C.plain _ _ _ _ _ _ _ _ K;refine⟨d.trans J,g1.seq M d J λQ a w k=>wp_seq (wp_mono k ?_),C9 (by simp)⟩;rintro e a w ⟨rfl,h⟩;exact h
      ·cases h
     ·rename_i r;simp only[Option.some.injEq,Prod.mk.injEq] at h;obtain⟨rfl,rfl,rfl,rfl⟩:=h;refine⟨d,g1.mono λQ a w k=>wp_seq (wp_mono k ?_),C9 (by simp)⟩;rintro e a w ⟨rfl,h⟩;cases e<;>first|exact h|exact absurd rfl r
    ·cases h
   |cond I u v=>
    simp only[ev] at h;have T:∀b,av E.G s I=some (.bool b)->∀(D:Nat->Prop) (ι:Nat->Reg) (a:Act),GI E D ι->FL nt D ι s a->a.eval I=.bool b:=by
     intro b q D ι a o p;have Y:YA E.G D ι s a.eval I:=VM o.b λt _ v Z=>(p.2 t v Z).2
     have:=Y _ q;generalize a.eval I=z at this;cases this;rfl
    split at h
    ·rename_i q;obtain⟨d,g1, -⟩:=C.plain _ _ _ _ _ _ _ _ h;exact⟨d,λi D ι w a Q g o hd p B F=>wp_cond_true (T _ q D ι a o p) (g1 i D ι w a Q g o hd p B F),C9 (by simp)⟩
    ·rename_i q;obtain⟨d,g1, -⟩:=C.plain _ _ _ _ _ _ _ _ h;exact⟨d,λi D ι w a Q g o hd p B F=>wp_cond_false (T _ q D ι a o p) (g1 i D ι w a Q g o hd p B F),C9 (by simp)⟩
    ·cases h
   |block id body=>
    simp only[ev] at h
    split at h
    ·rename_i e s1 σ1 φ1 A;obtain⟨d,g1, -⟩:=C.plain _ _ _ _ _ _ _ _ A
     split at h
     ·rename_i N;cases q:Nat.beq N id
      ·rw[q,cond_false] at h;have O:N≠id:=λe=>by rw[Cc e] at q;cases q
       simp only[Option.some.injEq,Prod.mk.injEq] at h;obtain⟨rfl,rfl,rfl,rfl⟩:=h;refine⟨d,g1.mono λQ a w k=>wp_block (wp_mono k ?_),C9 (by simp)⟩;rintro e a w ⟨rfl,h⟩;simp only[Exit.inBlock,O,if_false];exact h
      ·rw[q,cond_true] at h;have he:=Nat.eq_of_beq_eq_true q;simp only[Option.some.injEq,Prod.mk.injEq] at h;obtain⟨rfl,rfl,rfl,rfl⟩:=h;refine⟨d,g1.mono λQ a w k=>wp_block (wp_mono k ?_),C9 (by simp)⟩;rintro e a w ⟨rfl,h⟩;simp only[Exit.inBlock,he,if_true];exact h
     ·rename_i r;simp only[Option.some.injEq,Prod.mk.injEq] at h;obtain⟨rfl,rfl,rfl,rfl⟩:=h;refine⟨d,g1.mono λQ a w k=>wp_block (wp_mono k ?_),C9 (by simp)⟩;rintro e a w ⟨rfl,h⟩;cases e<;>first|exact h|exact absurd rfl (r _)
    ·cases h
   |loop body=>
    have key:Gu σ σ' φ/\Gt P E nt s s' σ σ' φ x (λQ a w=>nV P body Q a w):=by
     simp only[ev] at h
     split at h
     ·rename_i e s1 σ1 φ1 A;obtain⟨d,g1, -⟩:=C.plain _ _ _ _ _ _ _ _ A
      split at h
      ·split at h
       ·rename_i X s2 σ2 φ2 K;simp only[Option.some.injEq,Prod.mk.injEq] at h;obtain⟨rfl,rfl,rfl,rfl⟩:=h;obtain⟨J, -,M⟩:=C.plain _ _ _ _ _ _ _ _ K;refine⟨d.trans J,g1.seq (M body rfl) d J λQ a w k=>RJ (wp_mono k ?_)⟩;rintro e a w ⟨rfl,h⟩;exact h
       ·cases h
      ·rename_i r;simp only[Option.some.injEq,Prod.mk.injEq] at h;obtain⟨rfl,rfl,rfl,rfl⟩:=h;refine⟨d,g1.mono λQ a w k=>RJ (wp_mono k ?_)⟩;rintro e a w ⟨rfl,h⟩;cases e<;>first|exact h|exact absurd rfl r
     ·cases h
    refine⟨key.1,λi D ι w a Q g o hd p B F=>M4 (key.2 i D ι w a Q g o hd p B F),λb e=> ?_⟩;cases e;exact key.2
   |scope body=>
    simp only[ev] at h;obtain⟨d,g1⟩:=C.scope _ _ _ _ _ _ _ _ _ h;exact⟨d,λi D ι w a Q g o hd p B F=>LI (g1 i D ι w a Q g o hd p B F),C9 (by simp)⟩
   |rangeFunc f ps as b=>simp[ev] at h
   |refuse why=>simp[ev] at h
  ·simp only[ev] at h
   split at h
   ·rename_i e s1 σ1 φ1 A;obtain⟨d,g1, -⟩:=C.plain _ _ _ _ _ _ _ _ A
    split at h
    ·rename_i l
     split at h
     ·rename_i U R
      split at h
      ·rename_i y s2 σ2 φ2 K;simp only[Option.some.injEq,Prod.mk.injEq] at h;obtain⟨rfl,rfl,rfl,rfl⟩:=h;obtain⟨J,M⟩:=C.scope _ _ _ _ _ _ _ _ _ K;refine⟨d.trans J,g1.seq M d J λQ a w k=>ABD (wp_mono k ?_)⟩;rintro e a w ⟨rfl,h⟩;simp only[Exit.inScope,R];exact h
      ·cases h
     ·rename_i R;simp only[Option.some.injEq,Prod.mk.injEq] at h;obtain⟨rfl,rfl,rfl,rfl⟩:=h;refine⟨d,g1.mono λQ a w k=>ABD (wp_mono k ?_)⟩;rintro e a w ⟨rfl,h⟩;simp only[Exit.inScope,R];exact h
    ·rename_i r;simp only[Option.some.injEq,Prod.mk.injEq] at h;obtain⟨rfl,rfl,rfl,rfl⟩:=h;refine⟨d,g1.mono λQ a w k=>ABD (wp_mono k ?_)⟩;rintro e a w ⟨rfl,h⟩;cases e<;>first|exact h|exact absurd rfl (r _)
   ·cases h
def Ke (P:Program) (E:Env) (n:Nat):Cb:=F9 E λnt c s σ=>ev P E n none nt c s σ
theorem JZ (n:Nat):CallSound P E (Ke P E n):=JY hE (lR hE n)
end
end Go.Eng
end
end
end
section
noncomputable section
noncomputable section
namespace Go.Eng
open Go
def iI {α:Type}:Nat->List α->Tr α->Tr α
 |_,[],t=>t
 |k,x::a,t=>iI (k+1) a (t.set k (some x))
theorem Xh {α:Type}:∀(l:List α) (k:Nat) (t:Tr α) (j:Nat),(iI k l t).get j=if k<=j/\j<k+l.length then l[j-k]? else t.get j
 |[],k,t,j=>by rw[iI,if_neg (by simp only[List.length_nil];omega)]
 |v::vs,k,t,j=>by
  rw[iI,Xh vs (k+1),Tr.set_get];simp only[List.length_cons];by_cases e:j=k
  ·subst e;rw[if_neg (by omega),if_pos rfl,if_pos (by omega)];simp
  ·by_cases h:k+1<=j/\j<k+1+vs.length
   ·rw[if_pos h,if_pos (by omega),show j-k=(j-(k+1))+1 by omega];simp
   ·rw[if_neg h,if_neg e,if_neg (by omega)]
theorem Sz {α:Type} {l:List α} {j:Nat} {x:α} (h:(iI 0 l .lf).get j=some x):l[j]?=some x:=by
 rw[Xh] at h;by_cases a:0<=j/\j<0+l.length
 ·rw[if_pos a] at h;simpa using h
 ·rw[if_neg a] at h;rw[Tr.get_lf] at h;cases h
def lS (t:Tr TypeInfo) (k:TypeId):Option TypeDesc:=
 match t.get k with
 |some i=>match i.desc with
  | .named _ u=>match t.get u with
    |some j=>some j.desc
    |none=>none
  |d=>some d
 |none=>none
def Lt (t:Tr TypeInfo):TE:=⟨lS t,t.get⟩
def nW (t:Tr Func) (f:FuncId):Option Func:=
 match t.get f with
 |some fn=>match fn.body with
  |some _=>some fn
  |none=>none
 |none=>none
theorem iJ {P:Program} {t:Tr TypeInfo} (c:t=iI 0 P.types.toList .lf):(Lt t).OK P:=by
 have a:∀k i,t.get k=some i->P.info? k=some i:=by
  intro k i h;rw[c] at h;have:=Sz h;rw[Array.getElem?_toList] at this;have b:k<P.types.size:=by
   rcases Nat.lt_or_ge k P.types.size with h|h
   ·exact h
   ·rw[Array.getElem?_eq_none h] at this;cases this
  show(if k<P.types.size then P.types[k]? else _)=some i;rw[if_pos b];exact this
 refine⟨λk d h=> ?_,a⟩;unfold Lt lS at h;simp only at h;unfold Program.underlying
 split at h
 ·rename_i i e;rw[a k i e];obtain⟨desc,g,a2,a3,a4,a5,l,m,n,a9⟩:=i;cases desc with
  |named o u=>
   simp only at h⊢
   split at h
   ·rename_i j f;cases h;rw[a u j f];rfl
   ·cases h
  |_=>simp only at h⊢;exact h
 ·cases h
theorem iK {P:Program} {t:Tr Func} (c:t=iI 0 P.funcs.toList .lf) (d:P.funcs.toList.all (λf=> !(f.name== "runtime.NumGoroutine"))=true):
  ∀f x,nW t f=some x->P.funcs[f]?=some x/\x.body.isSome=true/\(x.name== "runtime.NumGoroutine")=false:=by
 intro f x h;unfold nW at h
 split at h
 ·rename_i fn a
  split at h
  ·rename_i b e;cases h;rw[c] at a;have:=Sz a;refine⟨by rw[<-Array.getElem?_toList];exact this,by rw[e];rfl,?_⟩;have:=List.all_eq_true.1 d x (List.mem_of_getElem? this);simpa using this
  ·cases h
 ·cases h
