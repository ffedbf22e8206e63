/-
  The engine, part 11: an abstract evaluator over the model's code, proved sound. No condition.
-/
import Derived.Test.YtikedhemjoljpaaGreatDoorEng10
section
noncomputable section
noncomputable section
namespace Go.Eng
open Go
def rowE {α:Type} (f:List Value→Option (α×List Value×List Bool)):Nat→List Value→Option (List α×List Bool)
 |0,_=>some ([],[])
 |n+1,cs=>match f cs with
  |some (x,r,p)=>match rowE f n r with
   |some (xs,q)=>some (x::xs,p++q)
   |none=>none
  |none=>none
def cellsE (σ:St):(t:Ty)→List Value→Option (t.Den×List Value×List Bool)
 | .int k,v::r=>match unsy v with
   |some (.int k' n)=>bif decide (k'=k) then some (n,r,[]) else none
   |_=>none
 | .byte,v::r=>match unsy v with
   |some (.int .u8 n)=>some (UInt8.ofNat n.toNat,r,[decide (inK .u8 n)])
   |_=>none
 | .bool,v::r=>match unsy v with
   |some (.bool b)=>some (b,r,[])
   |_=>none
 | .f64,v::r=>match unsy v with
   |some (.float .f64 b)=>some (b,r,[])
   |_=>none
 | .cx,v::r=>match unsy v with
   |some (.complex .f64 a b)=>some ((a,b),r,[])
   |_=>none
 | .str,v::r=>match unsy v with
   |some (.string s)=>some (toL s,r,[])
   |_=>none
 | .unit,cs=>some ((),cs,[])
 | .pair a b,cs=>match cellsE σ a cs with
   |some (x,r,p)=>match cellsE σ b r with
    |some (y,r',q)=>some ((x,y),r',p++q)
    |none=>none
   |none=>none
 | .slice a,v::r=>match v with
   | .slice none 0 0=>some ([],r,[])
   | .slice (some ⟨_,_,some 0⟩) 0 _=>some ([],r,[])
   | .slice (some ⟨id,off,none⟩) n c=>match σ.heap.get id with
     |some (.row cs _ false)=>match rowE (cellsE σ a) n (cs.drop off) with
      |some (xs,p)=>bif Nat.ble (off+n*a.sz) cs.length&&Nat.ble n c then some (xs,r,p) else none
      |none=>none
     |_=>none
   | .tuple arr=>match arr.toList with
     |[.chan (some 2),.pointer (some ⟨id,0,none⟩)]=>match datOf (σ.heap.get id) with
      |some ⟨t,xs⟩=>if h:t=a then some (h▸xs,r,[]) else none
      |_=>none
     |[.chan (some 5),.slice (some ⟨id,0,none⟩) m 0]=>match datOf (σ.heap.get id) with
      |some ⟨t,xs⟩=>if h:t=a then some (List.take m (h▸xs),r,[]) else none
      |_=>none
     |_=>none
   |_=>none
 | .err,v::r=>match uner v with
   |some b=>some (b,r,[])
   |none=>none
 | .fn f,v::r=>match isFn v with
   |some g=>bif Nat.beq g f then some ((),r,[]) else none
   |none=>none
 | .fv,v::r=>match isFn v with
   |some g=>some (g,r,[])
   |none=>none
 | .ref _,_::_=>none
 | .clo _ _,_::_=>none
 |_,[]=>none
def argsE (σ:St):(ts:List Ty)→List Value→Option (DenL ts×List Bool)
 |[],[]=>some ((),[])
 |t::ts,v::vs=>match(bif t.agg then(match v with| .agg cs=>some cs.toList|_=>none) else some [v]) with
  |some cs=>match cellsE σ t cs with
   |some (x,[],p)=>match argsE σ ts vs with
    |some (y,q)=>some ((x,y),p++q)
    |none=>none
   |_=>none
  |none=>none
 |_,_=>none
section
variable {P:Program} {D:Nat→Prop} {ι:Nat→Reg} {σ σ':St} {w:World} {fz:Nat→Option (Array Value)}
theorem rowE_rd {a:Ty} (ih:∀(cs us:List Value) (x:a.Den) (r:List Value) (p:List Bool),cellsE σ a cs=some (x,r,p)→AllP p→LR D ι cs us→∃u1 u2,us=u1++u2∧RdC fz a x u1∧LR D ι r u2):
  ∀(n:Nat) (cs us:List Value) (xs:List a.Den) (p:List Bool),rowE (cellsE σ a) n cs=some (xs,p)→AllP p→LR D ι cs us→xs.length=n∧∀i x,xs[i]?=some x→RdC fz a x ((us.drop (i*a.sz)).take a.sz)
 |0,cs,us,xs,p,h,_,_=>by
  simp only[rowE,Option.some.injEq,Prod.mk.injEq] at h;obtain⟨rfl, -⟩:=h;exact⟨rfl,fun i x hx=>by simp at hx⟩
 |n+1,cs,us,xs,p,h,hp,hl=>by
  simp only[rowE] at h
  split at h
  ·rename_i x r q h1
   split at h
   ·rename_i ys q2 h2;cases h;obtain⟨p1,p2⟩:=AllP_append hp;obtain⟨u1,u2,rfl,g1,g2⟩:=ih cs us x r q h1 p1 hl;obtain⟨k1,k2⟩:=rowE_rd ih n r u2 ys q2 h2 p2 g2;have hlen:=(dcs_rd a x u1 g1).1;refine⟨by simp[k1],fun i y hy=> ?_⟩;rcases i with _|i
    ·simp only[List.getElem?_cons_zero,Option.some.injEq] at hy;subst hy;rw[Nat.zero_mul,List.drop_zero,List.take_append_of_le_length (by omega),List.take_of_length_le (by omega)];exact g1
    ·have:=k2 i y (by simpa using hy);rw[show(i+1)*a.sz=u1.length+i*a.sz by rw[hlen,Nat.add_mul];omega,←List.drop_drop,List.drop_left];exact this
   ·cases h
  ·cases h
theorem dat_wr {id b:Nat} {y} (h:datOf (σ.heap.get id)=some y) (hd:∀x,σ.H.hdr id=some x→HdrOK P ι id w x) (hb:(ι id).Own b):Wr σ.H id:=by
 unfold datOf at h
 split at h
 ·rename_i t xs hg;obtain⟨_,_,h3,_⟩:=hd _ (St.hdr_of hg);rw[hb.1] at h3;cases h3
 ·rename_i t xs e hg;exact⟨_,St.hdr_of hg,trivial⟩
 ·cases h
theorem cellsE_rd (hall:HAll P D ι σ.H w) (hz:∀id b,(Wr σ.H id∧(ι id).Own b)∨(Lv σ.H id∧(ι id).Fz b)→∀c e fr,w.heap[b]?=some (.cells c e fr)→fz b=some c):∀(t:Ty) (cs us:List Value) (x:t.Den) (r:List Value) (p:List Bool),cellsE σ t cs=some (x,r,p)→AllP p→LR D ι cs us→
  ∃u1 u2,us=u1++u2∧RdC fz t x u1∧LR D ι r u2:=by
 intro t
 induction t with
 |int k=>
  intro cs us x r p h _ hl;cases hl with
  |nil=>simp[cellsE] at h
  |cons hv ht=>
   simp only[cellsE] at h
   split at h
   ·rename_i k' n hu;cases hk:decide (k'=k)
    ·rw[hk] at h;cases h
    ·rw[hk] at h;cases h;have:=of_decide_eq_true hk;subst this;exact⟨[_],_,rfl,by rw[(unsy_spec hu hv).1];rfl,ht⟩
   ·cases h
 |byte=>
  intro cs us x r p h hp hl;cases hl with
  |nil=>simp[cellsE] at h
  |cons hv ht=>
   simp only[cellsE] at h
   split at h
   ·rename_i n hu;cases h;refine⟨[_],_,rfl,?_,ht⟩;rw[(unsy_spec hu hv).1];simp only[RdC];rw[←u8_back (of_decide_eq_true hp.1)]
   ·cases h
 |bool=>
  intro cs us x r p h _ hl;cases hl with
  |nil=>simp[cellsE] at h
  |cons hv ht=>
   simp only[cellsE] at h
   split at h
   ·rename_i b hu;cases h;exact⟨[_],_,rfl,by rw[(unsy_spec hu hv).1];rfl,ht⟩
   ·cases h
 |f64=>
  intro cs us x r p h _ hl;cases hl with
  |nil=>simp[cellsE] at h
  |cons hv ht=>
   simp only[cellsE] at h
   split at h
   ·rename_i b hu;cases h;exact⟨[_],_,rfl,by rw[(unsy_spec hu hv).1];rfl,ht⟩
   ·cases h
 |ref a ih=>
  intro cs us x r p h _ hl;cases hl<;>simp[cellsE] at h
 |clo f a ih=>
  intro cs us x r p h _ hl;cases hl<;>simp[cellsE] at h
 |cx=>
  intro cs us x r p h _ hl;cases hl with
  |nil=>simp[cellsE] at h
  |cons hv ht=>
   simp only[cellsE] at h
   split at h
   ·rename_i a b hu;cases h;exact⟨[_],_,rfl,by rw[(unsy_spec hu hv).1];rfl,ht⟩
   ·cases h
 |str=>
  intro cs us x r p h _ hl;cases hl with
  |nil=>simp[cellsE] at h
  |cons hv ht=>
   simp only[cellsE] at h
   split at h
   ·rename_i b hu;cases h;exact⟨[_],_,rfl,by rw[(unsy_spec hu hv).1];simp only[RdC,bs_toL],ht⟩
   ·cases h
 |unit=>
  intro cs us x r p h _ hl;simp only[cellsE,Option.some.injEq,Prod.mk.injEq] at h;obtain⟨-,rfl, -⟩:=h;exact⟨[],us,rfl,rfl,hl⟩
 |err=>
  intro cs us x r p h _ hl;cases hl with
  |nil=>simp[cellsE] at h
  |cons hv ht=>
   simp only[cellsE] at h
   split at h
   ·rename_i b hu;cases h;exact⟨[_],_,rfl,⟨_,rfl,uner_spec hu hv⟩,ht⟩
   ·cases h
 |fv=>
  intro cs us x r p h _ hl;cases hl with
  |nil=>simp[cellsE] at h
  |cons hv ht=>
   simp only[cellsE] at h
   split at h
   ·rename_i g hu;cases h;exact⟨[_],_,rfl,by rw[isFn_spec hu hv];rfl,ht⟩
   ·cases h
 |fn f=>
  intro cs us x r p h _ hl;cases hl with
  |nil=>simp[cellsE] at h
  |cons hv ht=>
   simp only[cellsE] at h
   split at h
   ·rename_i g hu;cases hb:Nat.beq g f
    ·rw[hb] at h;cases h
    ·rw[hb] at h;cases h;have:=Nat.eq_of_beq_eq_true hb;subst this;exact⟨[_],_,rfl,by rw[isFn_spec hu hv];rfl,ht⟩
   ·cases h
 |pair a b iha ihb=>
  intro cs us x r p h hp hl;simp only[cellsE] at h
  split at h
  ·rename_i x1 r1 p1 h1
   split at h
   ·rename_i x2 r2 p2 h2;cases h;obtain⟨q1,q2⟩:=AllP_append hp;obtain⟨u1,u2,rfl,g1,g2⟩:=iha cs us x1 r1 p1 h1 q1 hl;obtain⟨v1,v2,rfl,g3,g4⟩:=ihb r1 u2 x2 r p2 h2 q2 g2;exact⟨u1++v1,v2,by simp,⟨u1,v1,rfl,g1,g3⟩,g4⟩
   ·cases h
  ·cases h
 |slice a ih=>
  intro cs us x r p h hp hl;cases hl with
  |nil=>simp[cellsE] at h
  |cons hv ht=>
   simp only[cellsE] at h
   split at h
   ·cases h;cases hv;exact⟨[_],_,rfl,⟨_,rfl,.inl ⟨⟨_,_,rfl⟩,rfl⟩⟩,ht⟩
   ·cases h;cases hv;exact⟨[_],_,rfl,⟨_,rfl,.inl ⟨⟨_,_,rfl⟩,rfl⟩⟩,ht⟩
   ·rename_i id off n c
    split at h
    ·rename_i cs' el hg
     split at h
     ·rename_i xs q hr;cases hb:(Nat.ble (off+n*a.sz) cs'.length&&Nat.ble n c)
      ·rw[hb] at h;cases h
      rw[hb,cond_true] at h;rw[Bool.and_eq_true] at hb;have hb2:=Nat.le_of_ble_eq_true hb.2;have hb:=Nat.le_of_ble_eq_true hb.1;cases h;obtain⟨c',rfl,hD,hc1,hc2⟩:=hv.sl_inv;have hd:=hall.hd id _ (St.hdr_of hg);obtain⟨arr,e,fr,e1,e2,e3,⟨e4,e5⟩,e6⟩:=hd;have hfz:=hz id (ι id).blk (.inl ⟨⟨_,St.hdr_of hg,rfl⟩,e4,rfl⟩) arr e fr e1
      have hcell:∀k,k<cs'.length→∃u,arr.toList[(ι id).base+k]?=some u∧∃v,cs'[k]?=some v∧VR D ι v u:=by
       intro k hk;obtain⟨_,u,hu,hvu⟩:=hall.ceR id k cs'[k] (St.hdr_of hg) (by rw[St.cell_of hg];exact List.getElem?_eq_getElem hk);simp only[World.cell?,e1,Option.isSome_none,Bool.false_eq_true,if_false] at hu;exact⟨u,by rw[Array.getElem?_toList];exact hu,cs'[k],List.getElem?_eq_getElem hk,hvu⟩
      have hlr:LR D ι (cs'.drop off) (((arr.toList.drop (ι id).base).take cs'.length).drop off):=by
       refine LR.drop off (LR.of_AR ⟨?_,fun i a b ha hb=> ?_⟩)
       ·simp only[List.size_toArray,List.length_take,List.length_drop,Array.length_toList];have:cs'.length≤(ι id).room:=e3;omega
       ·simp only[List.getElem?_toArray] at ha hb;rw[List.getElem?_take] at hb
        split at hb
        ·rename_i hi;obtain⟨u,hu,v,hv',hvu⟩:=hcell i hi;rw[List.getElem?_drop,hu] at hb;rw[hv'] at ha;cases ha;cases hb;exact hvu
        ·cases hb
      obtain⟨k1,k2⟩:=rowE_rd (fz:=fz) (fun cs us x r p h1 h2 h3=>ih cs us x r p h1 h2 h3) n _ _ _ _ hr hp hlr;have hnc:n≤c':=by
       by_cases hu:c=unk
       ·exact(hc2 hu).1
       ·rw[hc1 hu];exact hb2
      refine⟨[_],_,rfl,⟨_,rfl,.inr ⟨(ι id).blk,(ι id).base+off,c',arr,by rw[k1],hfz,by rw[k1];have:cs'.length≤(ι id).room:=e3;omega,by rw[k1];exact hnc,fun i y hy=> ?_⟩⟩,ht⟩;have hy2:=k2 i y hy;have hi:i<n:=by
       rcases Nat.lt_or_ge i n with h|h
       ·exact h
       ·rw[List.getElem?_eq_none (by omega)] at hy;cases hy
      have hm:i*a.sz+a.sz≤n*a.sz:=by
       have:=Nat.mul_le_mul_right a.sz hi;rwa[Nat.succ_mul] at this
      have e:((((arr.toList.drop (ι id).base).take cs'.length).drop off).drop (i*a.sz)).take a.sz=(arr.toList.drop ((ι id).base+off+i*a.sz)).take a.sz:=by
       rw[List.drop_drop,List.drop_take,List.take_take,List.drop_drop,Nat.add_assoc];congr 1;omega
      rw[e] at hy2;exact hy2
     ·cases h
    ·cases h
   ·rename_i arr
    split at h
    ·rename_i id ha;rw[tuple_eq ha] at hv;obtain⟨a',l,c,rfl,hD,hsv⟩:=dt_inv hv
     split at h
     ·rename_i t xs hg
      split at h
      ·rename_i he;subst he;cases h;have hm:=mem_of (φ:=⟨[],[id],[],[]⟩) hg (.inr (.inl (by simp))) (hall.on _);refine⟨[_],_,rfl,⟨_,rfl,?_⟩,ht⟩;rw[←hsv];refine hm.rd.imp_right ?_;rintro⟨b,o,c,arr,e,fr,g1,g2,g3,g4,g5,g6⟩;refine⟨b,o,c,arr,g1,hz id b (g6.imp (fun h=>⟨dat_wr hg (hall.hd id) h,h⟩) fun h=>⟨datOf_lv hg,h⟩) arr e fr g2,g3,g4,fun i x hx=>RdC.mono (fun b' c' hb'=> ?_) _ _ _ (g5 i x hx)⟩
       obtain⟨e',fr',he'⟩:=hm.fz b' c' hb';exact hz id b' (.inr ⟨datOf_lv hg,c',hb'⟩) c' e' fr' he'
      ·cases h
     ·cases h
    ·rename_i id m ha;rw[tuple_eq ha] at hv;obtain⟨a',l,c,rfl,hD,hsv,hml⟩:=pf_inv hv
     split at h
     ·rename_i t xs hg
      split at h
      ·rename_i he;subst he;cases h;have hm:=mem_of (φ:=⟨[],[id],[],[]⟩) hg (.inr (.inl (by simp))) (hall.on _);refine⟨[_],_,rfl,⟨_,rfl,?_⟩,ht⟩;rcases hm.rd with⟨⟨q,c1,e1⟩,hn⟩|⟨b,o,c1,arr,e,fr,g1,g2,g3,g4,g5,g6⟩
       ·rw[hsv] at e1;cases e1;obtain rfl:m=0:=Nat.le_zero.1 hml;exact .inl ⟨⟨_,_,rfl⟩,rfl⟩
       ·rw[hsv] at g1;cases g1;have hlt:(xs.take m).length=m:=by rw[List.length_take];omega
        have hmul:=Nat.mul_le_mul_right t.sz hml;refine .inr ⟨b,o,c,arr,by rw[hlt],hz id b (g6.imp (fun h=>⟨dat_wr hg (hall.hd id) h,h⟩) fun h=>⟨datOf_lv hg,h⟩) arr e fr g2,by rw[hlt];omega,by rw[hlt];omega,fun i x hx=>RdC.mono (fun b' c' hb'=> ?_) _ _ _ (g5 i x ?_)⟩
        ·obtain⟨e',fr',he'⟩:=hm.fz b' c' hb';exact hz id b' (.inr ⟨datOf_lv hg,c',hb'⟩) c' e' fr' he'
        ·rw[List.getElem?_take] at hx
         split at hx
         ·exact hx
         ·cases hx
      ·cases h
     ·cases h
    ·cases h
   ·cases h
theorem argsE_rd (hall:HAll P D ι σ.H w) (hz:∀id b,(Wr σ.H id∧(ι id).Own b)∨(Lv σ.H id∧(ι id).Fz b)→∀c e fr,w.heap[b]?=some (.cells c e fr)→fz b=some c):∀(ts:List Ty) (vs us:List Value) (x:DenL ts) (p:List Bool),argsE σ ts vs=some (x,p)→AllP p→LR D ι vs us→RdAll fz ts x us
 |[],vs,us,x,p,h,_,hl=>by
  cases hl with
  |nil=>rfl
  |cons _ _=>simp[argsE] at h
 |t::ts,vs,us,x,p,h,hp,hl=>by
  cases hl with
  |nil=>simp[argsE] at h
  |cons hv ht=>
   rename_i v u vs us;simp only[argsE] at h
   split at h
   ·rename_i cs hcs
    split at h
    ·rename_i x1 p1 h1
     split at h
     ·rename_i y q h2;cases h;obtain⟨q1,q2⟩:=AllP_append hp;refine⟨u,us,rfl,?_,argsE_rd hall hz ts vs us y q h2 q2 ht⟩;cases hagg:t.agg
      ·rw[hagg] at hcs;cases hcs;obtain⟨u1,u2,e1,g1,g2⟩:=cellsE_rd hall hz t [v] [u] x1 [] p1 h1 q1 (.cons hv .nil);cases g2;rw[List.append_nil] at e1;rw[←e1] at g1;exact .inr ⟨hagg,g1⟩
      ·rw[hagg,cond_true] at hcs
       split at hcs
       ·rename_i as;cases hcs;cases hv with
        |agg _ bs hs hh=>
         obtain⟨u1,u2,e1,g1,g2⟩:=cellsE_rd hall hz t as.toList bs.toList x1 [] p1 h1 q1 (LR.of_AR ⟨by simpa using hs,by simpa using hh⟩);cases g2;rw[List.append_nil] at e1;rw[←e1] at g1;exact .inl ⟨hagg,bs,rfl,g1⟩
       ·cases hcs
     ·cases h
    ·cases h
   ·cases h
end
section
variable {P:Program} {E:Env} (hE:E.OK P)
def QP (P:Program) (fn:Func) (rs:List Ty) (y:DenL rs) (fz0:Nat→Option (Array Value)) (w0:World):Exit→Act→World→Prop:=
 bodyPost P fn fun e w'=>FzOK fz0 w0→∃vs fz',e=.returned (resV vs)∧(∀b c,fz0 b=some c→fz' b=some c)∧FzOK fz' w'∧(∀b c,fz' b=some c→fz0 b=some c∨w0.heap.size≤b)∧RdAll fz' rs y vs∧Same w0 w'
include hE in
theorem results_list {nt:Nat} {D:Nat→Prop} {ι:Nat→Reg} {s:Tr Value} {σ:St} {a:Act} {w:World} {φ:Foot} {fn:Func} {vs:List Value} (h:resAll E s σ fn.results.toList=some (vs,φ)) (hs:SRel nt D ι s a) (ho:HOn P D ι σ.H φ w):
  ∃l:List Value,(results fn a.tmps).run P w=.ok (resV l) w∧AR D ι vs.toArray l.toArray:=by
 obtain⟨l,e1,e2,e3,e4⟩:=resAll_run hE _ _ _ h hs ho;have hm:(fn.results.mapM (resF a.tmps)).run P w=.ok l.toArray w:=by
  rw[Array.mapM_eq_mapM_toList,Sem.run_map,e1];rfl
 have hr:results fn a.tmps=(do let vs←fn.results.mapM (resF a.tmps);Pure.pure (if h:vs.size=1 then vs[0] else .tuple vs)):=by
  unfold results;congr 2
 refine⟨l,?_,e2⟩;rw[hr,Sem.run_bind,hm,Result.andThen_ok,Sem.run_pure];congr 1
 match l with
 |[]=>rfl
 |[v]=>rfl
 |_::_::_=>rfl
def zfin (E:Env) (fn:Func) (rs:List Ty):Pl×Tr Value×St→Option (DenL rs×List Bool)
 |(.out e [],s,σ)=>match e with
  | .normal=>match resAll E s σ fn.results.toList with
    |some (vs,_)=>argsE σ rs vs
    |none=>none
  | .ret=>match resAll E s σ fn.results.toList with
    |some (vs,_)=>argsE σ rs vs
    |none=>none
  |_=>none
 |_=>none
include hE in
theorem fin_rd {nt:Nat} {fz0:Nat→Option (Array Value)} {w0 w:World} {s:Tr Value} {σ:St} {a:Act} {fn:Func} {rs:List Ty} {vs:List Value} {φ:Foot} {y:DenL rs} {ps:List Bool}
  (hs:Asrt P E nt [] w0 (fun _=>False) (fun b=>∃c,fz0 b=some c) s σ a w) (hr:resAll E s σ fn.results.toList=some (vs,φ)) (hy:argsE σ rs vs=some (y,ps)) (hp:AllP ps):
  a.defers=[]∧∃v,(results fn a.tmps).run P w=.ok v w∧(FzOK fz0 w0→∃vs fz',Ending.returned v=.returned (resV vs)∧(∀b c,fz0 b=some c→fz' b=some c)∧FzOK fz' w∧(∀b c,fz' b=some c→fz0 b=some c∨w0.heap.size≤b)∧RdAll fz' rs y vs∧Same w0 w):=by
 obtain⟨D,ι,hwf,hG,hD,hsr,hall,hdf,q1,q2,q3,q4,q5,q6,q7⟩:=hs;obtain⟨l,r1,r2⟩:=results_list hE hr hsr (hall.on _);refine⟨hdf,resV l,r1,fun hz0=> ?_⟩;have hlow:∀b c,fz0 b=some c→b<w0.heap.size∧∃e fr,w.heap[b]?=some (.cells c e fr):=fun b c h=>by
  obtain⟨e,fr,h'⟩:=hz0 b c h;have hlt:=heap_lt h';exact⟨hlt,e,fr,by rw[q4 b hlt not_false];exact h'⟩
 refine⟨l,fun b=>if b<w0.heap.size then fz0 b else(match w.heap[b]? with|some (.cells c _ _)=>some c|_=>none),rfl,fun b c h=> ?_,fun b c h=> ?_,fun b c h=> ?_,?_,q1,q2,q3,fun b hb=>q4 b hb not_false⟩
 ·simp only[if_pos (hlow b c h).1];exact h
 ·simp only at h
  split at h
  ·exact(hlow b c h).2
  ·split at h
   ·rename_i c' e fr hh;cases h;exact⟨e,fr,hh⟩
   ·cases h
 ·simp only at h
  split at h
  ·exact .inl h
  ·rename_i hlt;exact .inr (by omega)
 ·refine argsE_rd hall (fun id b hb c e fr hh=> ?_) rs vs l y ps hy hp (LR.of_AR r2);by_cases hlt:b<w0.heap.size
  ·rw[if_pos hlt];rcases hb with⟨hw,ho⟩|⟨hl,hf⟩
   ·rcases q5 id hw b ho with h|h
    ·omega
    ·exact h.elim
   ·rcases q6 id hl b hf with h|h|⟨c0,h⟩
    ·omega
    ·exact h.elim
    ·obtain⟨_,e',fr',h'⟩:=hlow b c0 h;rw[hh] at h';cases h';exact h
  ·rw[if_neg hlt,hh]
include hE in
theorem zfin_at {nt:Nat} {fz0:Nat→Option (Array Value)} {fn:Func} {rs:List Ty} {p:Pl} {s:Tr Value} {σ:St} {y:DenL rs} {ps:List Bool} (h:zfin E fn rs (p,s,σ)=some (y,ps)) (hp:AllP ps):
  At P E nt [] (QP P fn rs y fz0) (fun _ _=>False) (fun _ b=>∃c,fz0 b=some c) p s σ:=by
 intro w0 a w hs;unfold zfin at h
 split at h
 ·rename_i e s' σ' heq;simp only[Prod.mk.injEq] at heq;obtain⟨rfl,rfl,rfl⟩:=heq
  split at h
  ·split at h
   ·rename_i vs φ hr;exact fin_rd hE hs hr h hp
   ·cases h
  ·split at h
   ·rename_i vs φ hr;exact fin_rd hE hs hr h hp
   ·cases h
  ·cases h
 ·cases h
def entM (E:Env) (S:PSpec) (x:DenL S.ts) (ora:List Nat):List Value×St:=mat (dcsL S.ts x) ((glSt E).pop ora)
def entS (E:Env) (S:PSpec) (x:DenL S.ts) (ora:List Nat):Tr Value:=initS 0 (grp S.ts (entM E S x ora).1) .lf
def entσ (E:Env) (S:PSpec) (x:DenL S.ts) (ora:List Nat):St:=(entM E S x ora).2
include hE in
theorem glSt_wf (ora:List Nat):((glSt E).pop ora).wf:=by
 intro id hid;cases hg:(glHeap E.gl).get id with
 |none=>exact hg
 |some o=>
  obtain⟨p,h1,h2,_⟩:=glHeap_get hg;have:=(hE.gl p h1).1;have hid:E.G≤id:=hid;omega
theorem glSt_ro (ora:List Nat) {id:Nat} {x:Hd} (hx:((glSt E).pop ora).H.hdr id=some x):∃p,p∈E.gl∧p.1=id∧((glSt E).pop ora).heap.get id=some (AO.row p.2 0 true)∧x=.row p.2.length 0 true:=by
 cases hg:(glHeap E.gl).get id with
 |none=>
  have:((glSt E).pop ora).H.hdr id=none:=by simp[St.H,glSt,St.pop,hg]
  rw[this] at hx;cases hx
 |some o=>
  obtain⟨p,h1,h2,rfl⟩:=glHeap_get hg;have:((glSt E).pop ora).H.hdr id=some (AO.row p.2 0 true).hd:=St.hdr_of (σ:=(glSt E).pop ora) hg;rw[this] at hx;cases hx;exact⟨p,h1,h2,hg,rfl⟩
theorem glSt_hall (hne:∀p,p∈E.gl→p.2≠[]) (ora:List Nat) {w:World} (hw:GlW E.gl w):HAll P (fun id=>id<E.G) (glReg w) ((glSt E).pop ora).H w where
 hd:=fun id x hx=>by
  obtain⟨p,h1,rfl,h2,rfl⟩:=glSt_ro ora hx;obtain⟨c,e,fr,g1,g2⟩:=gl_row (hw.1 p h1) (hne p h1);refine⟨c,e,fr,g1,?_,?_,⟨rfl,rg_fz _ _ _ _⟩,fun h=>by cases h⟩
  ·simp[glReg,g1]
  ·simpa[glReg,g1] using g2
 ce:=fun id k u hl hu=>by
  obtain⟨x,hx⟩:=hl;obtain⟨p,h1,rfl,h2,rfl⟩:=glSt_ro ora hx;rw[St.cell_of h2] at hu;obtain⟨u',g1,g2⟩:=hw.1 p h1 k u hu;refine⟨rfl,u',?_,g2.vr⟩;exact .inl (by simpa[glReg] using g1)
 inj:=fun i j _ _ hij b hi=>⟨fun hj=>hij (hi.2.trans hj.2.symm),rg_fz _ _ _ _ b⟩
theorem MatOK.hall {D:Nat→Prop} {ι ι':Nat→Reg} {σ σ':St} {w:World} {fz:Nat→Option (Array Value)} (m:MatOK fz ι σ σ' ι') (h:HAll P D ι σ.H w) (hD:∀id,D id→id<σ.next) (hz:FzOK fz w)
  (hfar:∀id,Wr σ.H id→∀b,(ι id).Own b→∀c,fz b=some c→False):HAll P (fun i=>D i∨σ.rng σ' i) ι' σ'.H w where
 hd:=fun id x hx=>by
  by_cases hr:σ.rng σ' id
  ·obtain⟨t,xs,u,g1,g2,g3⟩:=m.new id hr;rw[St.hdr_of g1] at hx;cases hx;exact⟨by rw[g3];exact g2,by rw[g3];rfl,by rw[g3];rfl,by rw[g3];exact hz⟩
  ·have e:σ'.H.hdr id=σ.H.hdr id:=by simp only[St.H,m.old id hr]
   rw[e] at hx;exact(h.hd id x hx).keep (S:=fun _ _=>False) (m.io id hr) (fun b _=>ObjBut.refl _ _) (.inr fun _ _ _=>not_false)
 ce:=fun id k v hl hx=>by
  by_cases hr:σ.rng σ' id
  ·obtain⟨t,xs,u,g1,g2,g3⟩:=m.new id hr;simp only[St.H,g1,cellOf] at hx;cases hx
  ·have e:σ'.H.hdr id=σ.H.hdr id:=by simp only[St.H,m.old id hr]
   have e2:σ'.H.cell id k=σ.H.cell id k:=by simp only[St.H,m.old id hr]
   rw[e2] at hx;exact(h.ce id k v (hl.of_hdr e) hx).keep (S:=fun _=>False) (m.io id hr) (fun _=>.inl) (fun i hi=>m.io i fun hr=>by have:=hD i hi;simp only[St.rng] at hr;omega) (ObjBut.refl _ _) not_false
 inj:=fun i j li lj hij b hb=>by
  by_cases hi:σ.rng σ' i
  ·obtain⟨t,xs,u,g1,g2,g3⟩:=m.new i hi;rw[g3] at hb;cases hb.1
  ·have ei:σ'.H.hdr i=σ.H.hdr i:=by simp only[St.H,m.old i hi]
   rw[m.io i hi] at hb;by_cases hj:σ.rng σ' j
   ·obtain⟨t,xs,u,g1,g2,g3⟩:=m.new j hj;rw[g3];exact⟨fun(h:(datReg t fz u).Own b)=>(by cases h.1),fun⟨c,h⟩=>hfar i (li.of_hdr ei) b hb c h⟩
   ·have ej:σ'.H.hdr j=σ.H.hdr j:=by simp only[St.H,m.old j hj]
    rw[m.io j hj];exact h.inj i j (li.of_hdr ei) (lj.of_hdr ej) hij b hb
include hE in
theorem pure_of (hne:∀p,p∈E.gl→p.2≠[]) {S:PSpec} {f:FuncId} {fn:Func} {body:Code} (hfn:P.funcs[f]?=some fn) (hb:fn.body=some body) (hnt:S.ts.length≤fn.ntmps)
  (h:∀x,S.pre x→∀fz0,∃ora,At P E fn.ntmps [] (QP P fn S.rs (S.g x) fz0) (fun _ _=>False) (fun _ b=>∃c,fz0 b=some c) (.run body []) (entS E S x ora) (entσ E S x ora)):PureC P E.gl f S:=by
 intro fz w args x hz hgl hrd hpre;obtain⟨ora,hat⟩:=h x hpre fz;obtain⟨us,u1,u2,u3⟩:=res_rd S.ts x args.toList hrd;rcases hm:mat (dcsL S.ts x) ((glSt E).pop ora) with⟨vs,σ1⟩
 obtain⟨ι',m1,m2,m3⟩:=mat_ok (dcsL S.ts x) us (fun id=>id<E.G) (glReg w) ((glSt E).pop ora) σ1 vs hm u1 u2;have hlr:=u3 vs _ ι' m2 m3;have hlen:(grp S.ts vs).length=S.ts.length:=by
  have:∀(ts:List Ty) (vs:List Value),(grp ts vs).length=ts.length:=fun ts=>by
   induction ts with
   |nil=>intro vs;rfl
   |cons t ts ih=>intro vs;simp[grp,ih]
  exact this _ _
 have hwf0:=glSt_wf hE ora;have e1:entS E S x ora=initS 0 (grp S.ts vs) .lf:=by simp only[entS,entM,hm]
 have e2:entσ E S x ora=σ1:=by simp only[entσ,entM,hm]
 rw[e1,e2] at hat;have har:AR (fun i=>i<E.G∨((glSt E).pop ora).rng σ1 i) ι' (grp S.ts vs).toArray args:=by
  have:=LR.AR hlr;simpa using this
 have hall:=m1.hall (P:=P) (glSt_hall hne ora hgl) (fun id h=>h) hz fun id hl b hb c hc=>by
  obtain⟨y,hy,hyw⟩:=hl;obtain⟨p,h1,rfl, -,rfl⟩:=glSt_ro ora hy;cases hyw
 have has:Asrt P E fn.ntmps [] w (fun _=>False) (fun b=>∃c,fz b=some c) (initS 0 (grp S.ts vs) .lf) σ1 { tmps:=args++Array.replicate (fn.ntmps-args.size) undef,defers:=[]} w:=by
  refine⟨fun i=>i<E.G∨((glSt E).pop ora).rng σ1 i,ι',m1.wf hwf0,?_,?_,initS_rel har (by rw[hlen];exact hnt),hall,rfl,Nat.le_refl _,rfl,rfl,fun _ _ _=>rfl,fun id hw b ho=> ?_,fun id hl b hf=> ?_,fun p hp=>by cases hp⟩
  ·intro g hg;have:ι' g=glReg w g:=m1.io g fun hr=>by simp only[St.rng,St.pop,glSt] at hr;omega
   rw[this];exact⟨.inl hg,rfl,rfl,gl_room hgl⟩
  ·intro id hid;have:=m1.le;rcases hid with hid|hid
   ·simp only[St.pop,glSt] at this;omega
   ·exact hid.2
  ·by_cases hr:((glSt E).pop ora).rng σ1 id
   ·obtain⟨t,xs,u,g1,g2,g3⟩:=m1.new id hr;rw[g3] at ho;cases ho.1
   ·obtain⟨y,hy,hyw⟩:=hw;simp only[St.H,m1.old id hr] at hy;obtain⟨p,_,_,_,rfl⟩:=glSt_ro ora (show((glSt E).pop ora).H.hdr id=some y from hy);cases hyw
  ·by_cases hr:((glSt E).pop ora).rng σ1 id
   ·obtain⟨t,xs,u,g1,g2,g3⟩:=m1.new id hr;rw[g3] at hf;exact .inr (.inr hf)
   ·rw[m1.io id hr] at hf;exact absurd hf (rg_fz _ _ _ _ b)
 have hwp:=hat w _ w has;refine calls_of_wp hfn hb (wp_mono hwp ?_);intro e a w' hq;have up:∀v,(FzOK fz w→∃vs fz',Ending.returned v=.returned (resV vs)∧(∀b c,fz b=some c→fz' b=some c)∧FzOK fz' w'∧(∀b c,fz' b=some c→fz b=some c∨w.heap.size≤b)∧RdAll fz' S.rs (S.g x) vs∧Same w w')→
   ∃vs fz',Ending.returned v=.returned (resV vs)∧(∀b c,fz b=some c→fz' b=some c)∧FzOK fz' w'∧(∀b c,fz' b=some c→fz b=some c∨w.heap.size≤b)∧RdAll fz' S.rs (S.g x) vs∧Same w w':=fun v h=>h hz
 cases e with
 |normal=>obtain⟨h1,v,h2,h3⟩:=hq;exact⟨h1,v,h2,up v h3⟩
 |ret=>obtain⟨h1,v,h2,h3⟩:=hq;exact⟨h1,v,h2,up v h3⟩
 |panic ch=>obtain⟨h1,h3⟩:=hq;exact⟨h1,h3 hz⟩
 |outgrown=>exact hq hz
 |exit id=>exact hq
 |goto l=>exact hq
end
end Go.Eng
end
end
end
section
noncomputable section
noncomputable section
namespace Go.Eng
open Go
theorem fz_lt {fz:Nat→Option (Array Value)} {w:World} (h:FzOK fz w) {b:Nat} {c:Array Value} (e:fz b=some c):b<w.heap.size:=by
 obtain⟨_,_,h1⟩:=h b c e;exact heap_lt h1
section
variable {P:Program} {E:Env} (hE:E.OK P)
include hE in
theorem pure_here (hne:∀p,p∈E.gl→p.2≠[]) {S:PSpec} {f:FuncId} {fn:Func} {body:Code} (hfn:P.funcs[f]?=some fn) (hb:fn.body=some body) (hnt:S.ts.length≤fn.ntmps)
  (h:∀x,S.pre x→∀w ι0 a,Base P E w (entσ E S x []) ι0→SRel fn.ntmps (fun i=>i<(entσ E S x []).next) ι0 (entS E S x []) a→a.defers=[]→
   ∃vs,(∀fz,RdAll fz S.rs (S.g x) vs)∧body.wp P (bodyPost P fn fun e w'=>e=.returned (resV vs)∧Same w w') a w):PureC P E.gl f S:=by
 intro fz w args x hz hgl hrd hpre;obtain⟨us,u1,u2,u3⟩:=res_rd S.ts x args.toList hrd;rcases hm:mat (dcsL S.ts x) ((glSt E).pop []) with⟨vs,σ1⟩
 obtain⟨ι',m1,m2,m3⟩:=mat_ok (dcsL S.ts x) us (fun id=>id<E.G) (glReg w) ((glSt E).pop []) σ1 vs hm u1 u2;have hlr:=u3 vs _ ι' m2 m3;have hlen:(grp S.ts vs).length=S.ts.length:=by
  have:∀(ts:List Ty) (vs:List Value),(grp ts vs).length=ts.length:=fun ts=>by
   induction ts with
   |nil=>intro vs;rfl
   |cons t ts ih=>intro vs;simp[grp,ih]
  exact this _ _
 have hwf0:=glSt_wf hE [];have e1:entS E S x []=initS 0 (grp S.ts vs) .lf:=by simp only[entS,entM,hm]
 have e2:entσ E S x []=σ1:=by simp only[entσ,entM,hm]
 have har:AR (fun i=>i<E.G∨((glSt E).pop []).rng σ1 i) ι' (grp S.ts vs).toArray args:=by
  have:=LR.AR hlr;simpa using this
 have hall:=m1.hall (P:=P) (glSt_hall hne [] hgl) (fun id h=>h) hz fun id hl b hb c hc=>by
  obtain⟨y,hy,hyw⟩:=hl;obtain⟨p,h1,rfl, -,rfl⟩:=glSt_ro [] hy;cases hyw
 have hle:E.G≤σ1.next:=m1.le;have eD:(fun i=>i<E.G∨((glSt E).pop []).rng σ1 i)=fun i=>i<σ1.next:=funext fun i=>propext ⟨fun h=>by
  rcases h with h|h
  ·omega
  ·exact h.2,fun h=>by
  by_cases h1:i<E.G
  ·exact .inl h1
  ·exact .inr ⟨Nat.le_of_not_lt h1,h⟩⟩
 rw[eD] at har hall;obtain⟨vs',hr,hwp⟩:=h x hpre w ι' { tmps:=args++Array.replicate (fn.ntmps-args.size) undef,defers:=[]} (by
  rw[e2];refine⟨m1.wf hwf0,fun g hg=> ?_,fun φ=>⟨fun id x _ e=>hall.hd id x e,fun id k v _ l e=>hall.ce id k v l e,fun i j _ _ wi lj h=>hall.inj i j wi lj h⟩,fun id hw=> ?_⟩
  ·have:ι' g=glReg w g:=m1.io g fun hr=>by simp only[St.rng,St.pop,glSt] at hr;omega
   rw[this];exact⟨by omega,rfl,rfl,gl_room hgl⟩
  ·by_cases hr:((glSt E).pop []).rng σ1 id
   ·obtain⟨t,xs,u,g1,g2,g3⟩:=m1.new id hr;obtain⟨y,hy,hyw⟩:=hw;rw[St.hdr_of g1] at hy;cases hy;cases hyw
   ·obtain⟨y,hy,hyw⟩:=hw;simp only[St.H,m1.old id hr] at hy;obtain⟨p,_,_,_,rfl⟩:=glSt_ro [] (show((glSt E).pop []).H.hdr id=some y from hy);cases hyw) (by rw[e1,e2];exact initS_rel har (by rw[hlen];exact hnt)) rfl
 refine(calls_of_wp hfn hb hwp).mono ?_;rintro e w' ⟨rfl,hs⟩;exact⟨vs',fz,rfl,fun _ _ h=>h,hz.keep (fun b c hbc=>hs.2.2.2 b (fz_lt hz hbc)),fun _ _ h=>.inl h,hr fz,hs⟩
end
end Go.Eng
end
end
end
section
noncomputable section
noncomputable section
namespace Go.Eng
open Go
def bodyOf (fn:Func):Code:=match fn.body with|some c=>c|none=>.skip
end Go.Eng
end
end
end
section
noncomputable section
noncomputable section
namespace Go.Eng
open Go
inductive Sh1 where
 |any
 |sym
 |dat (t:Ty)
 |vec (t:Ty) (elem:TypeId)
 |same (k:Nat)
 |samep (k:Nat)
inductive Sh where
 |one (s:Sh1)
 |obj (cells:List Sh1)
 |agg (cells:List Sh1)
 |sli (cells:List Sh1)
 |nest (i:Nat) (sub cells:List Sh1)
inductive Src where
 |id (k:Nat)
 |nil (t:Ty)
structure Can where
 srcs:List Src
 objs:List AO
def syB:Value→Value
 | .bool b=>.bool b
 |u=>sy u
theorem syB_vr {D:Nat→Prop} {ι:Nat→Reg} {v:Value} (h:scal v=true):VR D ι (syB v) v:=by
 cases v<;>first|exact .bool _|exact .sym _ h|cases h
def usedSrc:Nat→List Src→Bool
 |_,[]=>false
 |k,.id j::r=>Nat.beq k j||usedSrc k r
 |k,_::r=>usedSrc k r
def cv1 (G:Nat) (σ:St) (sh:Sh1) (v:Value) (C:Can):Option (Value×Can):=
 match sh with
 | .any=>bif plainN 8 v then some (v,C) else match unsy v with
   |some u=>some (syB u,C)
   |none=>none
 | .sym=>match unsy v with
   |some u=>some (syB u,C)
   |none=>none
 | .dat t=>match v with
   | .slice none 0 0=>some (dt (G+C.objs.length),⟨C.srcs++[.nil t],C.objs++[.dat t []]⟩)
   | .tuple arr=>match arr.toList with
     |[.chan (some 2),.pointer (some ⟨id,0,none⟩)]=>match σ.heap.get id with
      |some (.dat t' xs)=>if h:t'=t then some (dt (G+C.objs.length),⟨C.srcs++[.id id],C.objs++[.dat t (h▸xs)]⟩) else none
      |_=>none
     |_=>none
   |_=>none
 | .vec t e=>match v with
   | .slice none 0 0=>some (dt (G+C.objs.length),⟨C.srcs++[.nil t],C.objs++[.vec t [] e]⟩)
   | .tuple arr=>match arr.toList with
     |[.chan (some 2),.pointer (some ⟨id,0,none⟩)]=>match σ.heap.get id with
      |some (.vec t' xs e')=>if h:t'=t then(bif Nat.beq e' e&& !usedSrc id C.srcs then some (dt (G+C.objs.length),⟨C.srcs++[.id id],C.objs++[.vec t (h▸xs) e]⟩) else none) else none
      |_=>none
     |_=>none
   |_=>none
 | .same k=>match v with
   | .tuple arr=>match arr.toList with
     |[.chan (some 2),.pointer (some ⟨id,0,none⟩)]=>match C.srcs[k]? with
      |some (.id j)=>bif Nat.beq j id then some (dt (G+k),C) else none
      |_=>none
     |_=>none
   |_=>none
 | .samep k=>match v with
   | .pointer (some ⟨id,0,none⟩)=>match C.srcs[k]? with
     |some (.id j)=>bif Nat.beq j id then some (.pointer (some ⟨G+k,0,none⟩),C) else none
     |_=>none
   |_=>none
def cvs (G:Nat) (σ:St):List Sh1→List Value→Can→Option (List Value×Can)
 |[],[],C=>some ([],C)
 |sh::shs,v::vs,C=>match cv1 G σ sh v C with
  |some (v',C1)=>match cvs G σ shs vs C1 with
   |some (vs',C2)=>some (v'::vs',C2)
   |none=>none
  |none=>none
 |_,_,_=>none
def cv0 (G:Nat) (σ:St) (sh:Sh) (v:Value) (C:Can):Option (Value×Can):=
 match sh with
 | .one s=>cv1 G σ s v C
 | .obj shs=>match v with
   | .pointer (some ⟨id,0,none⟩)=>match σ.heap.get id with
     |some (.row cs e false)=>match cvs G σ shs cs C with
      |some (cs',C')=>bif !usedSrc id C'.srcs then some (.pointer (some ⟨G+C'.objs.length,0,none⟩),⟨C'.srcs++[.id id],C'.objs++[.row cs' e false]⟩) else none
      |none=>none
     |_=>none
   |_=>none
 | .agg shs=>match v with
   | .agg cs=>match cvs G σ shs cs.toList C with
     |some (cs',C')=>some (.agg cs'.toArray,C')
     |none=>none
   |_=>none
 | .sli shs=>match v with
   | .slice (some ⟨id,0,none⟩) l c=>match σ.heap.get id with
     |some (.row cs e false)=>match cvs G σ shs cs C with
      |some (cs',C')=>bif !usedSrc id C'.srcs then some (.slice (some ⟨G+C'.objs.length,0,none⟩) l c,⟨C'.srcs++[.id id],C'.objs++[.row cs' e false]⟩) else none
      |none=>none
     |_=>none
   |_=>none
 | .nest _ _ _=>none
def cellAt (σ:St) (v:Value) (i:Nat):Option Value:=match v with
 | .pointer (some ⟨id,0,none⟩)=>match σ.heap.get id with
   |some (.row cs _ false)=>cs[i]?
   |_=>none
 |_=>none
def cv (G:Nat) (σ:St) (sh:Sh) (v:Value) (C:Can):Option (Value×Can):=
 match sh with
 | .nest i sub cells=>match cellAt σ v i with
   |some u=>match cv0 G σ (.obj sub) u C with
    |some (_,C1)=>cv0 G σ (.obj cells) v C1
    |none=>none
   |none=>none
 |sh=>cv0 G σ sh v C
def cvSlots (G:Nat) (σ:St) (s:Tr Value):List (Nat×Sh)→Can→Option (List (Nat×Value)×Can)
 |[],C=>some ([],C)
 |(t,sh)::r,C=>match s.get t with
  |some v=>match cv G σ sh v C with
   |some (v',C1)=>match cvSlots G σ s r C1 with
    |some (l,C2)=>some ((t,v')::l,C2)
    |none=>none
   |none=>none
  |none=>none
def mkS:List (Nat×Value)→Tr Value
 |[]=>.lf
 |(t,v)::r=>(mkS r).set t (some v)
def mkH:Nat→List AO→Tr AO→Tr AO
 |_,[],h=>h
 |k,o::os,h=>mkH (k+1) os (h.set k (some o))
def mkSt (E:Env) (objs:List AO) (ora:List Nat):St:=⟨mkH E.G objs (glHeap E.gl),E.G+objs.length,[],ora⟩
def glSame (σ:St):List (Nat×List Value)→Bool
 |[]=>true
 |p::ps=>match σ.heap.get p.1 with
  |some (.row cs 0 true)=>bif eqCs cs p.2 then glSame σ ps else false
  |_=>false
def pinned (G:Nat) (srcs:List Src):List Nat→Bool
 |[]=>true
 |k::ks=>match srcs[k-G]? with
  |some (.id j)=>bif Nat.beq j k&&Nat.ble G k then pinned G srcs ks else false
  |_=>false
def canon (E:Env) (pins:List Nat) (shs:List (Nat×Sh)) (s:Tr Value) (σ:St):Option (List (Nat×Value)×List AO):=
 match cvSlots E.G σ s shs ⟨[],[]⟩ with
 |some (l,C)=>bif glSame σ E.gl&&pinned E.G C.srcs pins then some (l,C.objs) else none
 |none=>none
section
variable {P:Program} {E:Env} {D:Nat→Prop} {ι:Nat→Reg} {σ:St} {w:World} {G:Nat}
def srcReg (ι:Nat→Reg):Src→Reg
 | .id k=>ι k
 | .nil t=>⟨0,0,0,t.sz,false,fun _=>none,.slice none 0 0⟩
def canReg (G:Nat) (ι:Nat→Reg) (S:List Src) (c:Nat):Reg:=
 if c<G then ι c else match S[c-G]? with
  |some s=>srcReg ι s
  |none=>rg 0 0 0 0
def ObjOK (P:Program) (D:Nat→Prop) (ι0:Nat→Reg) (c:Nat) (w:World) (o:AO):Prop:=
 HdrOK P ι0 c w o.hd∧∀k v,cellOf (some o) k=some v→CellOK D ι0 c w k v
structure SrcOK (σ:St) (S:List Src):Prop where
 lv:∀(i k:Nat),S[i]?=some (Src.id k)→Lv σ.H k
 nro:∀(i k:Nat),S[i]?=some (.id k)→∀cs,σ.heap.get k≠some (.row cs 0 true)
 one:∀(i j k:Nat),S[i]?=some (Src.id k)→S[j]?=some (Src.id k)→i≠j→∃t xs,σ.heap.get k=some (.dat t xs)
theorem usedSrc_spec {k:Nat}:∀{S:List Src},usedSrc k S=false→∀i:Nat,S[i]?≠some (Src.id k)
 |[],_,i=>by simp
 |Src.id j::r,h,i=>by
  simp only[usedSrc,Bool.or_eq_false_iff] at h;rcases i with _|i
  ·simp only[List.getElem?_cons_zero,ne_eq,Option.some.injEq,Src.id.injEq];intro e;subst e;rw[beq_t rfl] at h;cases h.1
  ·simpa using usedSrc_spec h.2 i
 |Src.nil t::r,h,i=>by
  simp only[usedSrc] at h;rcases i with _|i
  ·simp
  ·simpa using usedSrc_spec h i
theorem SrcOK.add_dat {S:List Src} (h:SrcOK σ S) {k:Nat} {t:Ty} {xs:List t.Den} (hg:σ.heap.get k=some (.dat t xs)):SrcOK σ (S++[Src.id k]) where
 lv:=fun i j hi=>by
  rcases Nat.lt_or_ge i S.length with hl|hl
  ·rw[List.getElem?_append_left hl] at hi;exact h.lv i j hi
  ·rw[List.getElem?_append_right hl] at hi;have:i-S.length=0:=by
    rcases Nat.eq_zero_or_pos (i-S.length) with h|h
    ·exact h
    ·rw[List.getElem?_eq_none (by simp;omega)] at hi;cases hi
   rw[this] at hi;simp only[List.getElem?_cons_zero,Option.some.injEq,Src.id.injEq] at hi;subst hi;exact St.lv_of hg
 nro:=fun i j hi cs hc=>by
  rcases Nat.lt_or_ge i S.length with hl|hl
  ·rw[List.getElem?_append_left hl] at hi;exact h.nro i j hi cs hc
  ·rw[List.getElem?_append_right hl] at hi;rcases hx:i-S.length with _|n
   ·rw[hx] at hi;simp only[List.getElem?_cons_zero,Option.some.injEq,Src.id.injEq] at hi;subst hi;rw[hg] at hc;cases hc
   ·rw[hx] at hi;simp at hi
 one:=fun i j k' hi hj hij=>by
  by_cases e:k'=k
  ·subst e;exact⟨t,xs,hg⟩
  ·have low:∀i,(S++[Src.id k])[i]?=some (Src.id k')→S[i]?=some (Src.id k'):=fun i hi=>by
    rcases Nat.lt_or_ge i S.length with hl|hl
    ·rwa[List.getElem?_append_left hl] at hi
    ·rw[List.getElem?_append_right hl] at hi;rcases hx:i-S.length with _|n
     ·rw[hx] at hi;simp only[List.getElem?_cons_zero,Option.some.injEq,Src.id.injEq] at hi;exact absurd hi.symm e
     ·rw[hx] at hi;simp at hi
   exact h.one i j k' (low i hi) (low j hj) hij
theorem SrcOK.add_own {S:List Src} (h:SrcOK σ S) {k:Nat} (hl:Wr σ.H k) (hu:usedSrc k S=false):SrcOK σ (S++[Src.id k]):=by
 have hno:=usedSrc_spec hu;have low:∀i k',(S++[Src.id k])[i]?=some (Src.id k')→S[i]?=some (Src.id k')∨(i=S.length∧k'=k):=fun i k' hi=>by
  rcases Nat.lt_or_ge i S.length with hl|hl
  ·rw[List.getElem?_append_left hl] at hi;exact .inl hi
  ·rw[List.getElem?_append_right hl] at hi;rcases hx:i-S.length with _|n
   ·rw[hx] at hi;simp only[List.getElem?_cons_zero,Option.some.injEq,Src.id.injEq] at hi;exact .inr ⟨by omega,hi.symm⟩
   ·rw[hx] at hi;simp at hi
 refine⟨fun i k' hi=> ?_,fun i k' hi cs hc=> ?_,fun i j k' hi hj hij=> ?_⟩
 ·rcases low i k' hi with h1|⟨_,rfl⟩
  ·exact h.lv i k' h1
  ·exact hl.lv
 ·rcases low i k' hi with h1|⟨_,rfl⟩
  ·exact h.nro i k' h1 cs hc
  ·obtain⟨y,hy,hw⟩:=hl;rw[St.hdr_of hc] at hy;cases hy;cases hw
 ·rcases low i k' hi with h1|⟨e1,rfl⟩
  ·rcases low j k' hj with h2|⟨e2,rfl⟩
   ·exact h.one i j k' h1 h2 hij
   ·exact absurd h1 (hno i)
  ·rcases low j _ hj with h2|⟨e2,_⟩
   ·exact absurd h2 (hno j)
   ·omega
theorem SrcOK.add_nil {S:List Src} (h:SrcOK σ S) (t:Ty):SrcOK σ (S++[Src.nil t]):=by
 have low:∀i k',(S++[Src.nil t])[i]?=some (Src.id k')→S[i]?=some (Src.id k'):=fun i k' hi=>by
  rcases Nat.lt_or_ge i S.length with hl|hl
  ·rwa[List.getElem?_append_left hl] at hi
  ·rw[List.getElem?_append_right hl] at hi;rcases hx:i-S.length with _|n
   ·rw[hx] at hi;simp at hi
   ·rw[hx] at hi;simp at hi
 exact⟨fun i k' hi=>h.lv i k' (low i k' hi),fun i k' hi=>h.nro i k' (low i k' hi),fun i j k' hi hj=>h.one i j k' (low i k' hi) (low j k' hj)⟩
structure CanOK (P:Program) (G:Nat) (σ:St) (ι:Nat→Reg) (w:World) (C:Can):Prop where
 len:C.srcs.length=C.objs.length
 src:SrcOK σ C.srcs
 wr:∀(i:Nat) o k,C.objs[i]?=some o→C.srcs[i]?=some (Src.id k)→o.hd.wr→Wr σ.H k
 obj:∀(i:Nat) o S,C.objs[i]?=some o→ObjOK P (fun c=>c<G+C.objs.length) (canReg G ι (C.srcs++S)) (G+i) w o
theorem canReg_at {S:List Src} {T:List Src} {s:Src}:canReg G ι (S++s::T) (G+S.length)=srcReg ι s:=by
 unfold canReg;rw[if_neg (by omega),Nat.add_sub_cancel_left,List.getElem?_append_right (Nat.le_refl _),Nat.sub_self];rfl
theorem HdrOK.at {ι ι0:Nat→Reg} {k c:Nat} {x:Hd} (h:HdrOK P ι k w x) (e:ι0 c=ι k):HdrOK P ι0 c w x:=by
 cases x<;>simp only[HdrOK,e] at h⊢ <;>exact h
theorem ObjOK.more {ι0:Nat→Reg} {D D':Nat→Prop} {c:Nat} {o:AO} (h:ObjOK P D ι0 c w o) (hD:∀i,D i→D' i):ObjOK P D' ι0 c w o:=
 ⟨h.1,fun k v hk=>(h.2 k v hk).more hD⟩
theorem CanOK.add {C:Can} {s:Src} {o:AO} (h:CanOK P G σ ι w C) (hs:SrcOK σ (C.srcs++[s])) (hw:∀k,s=.id k→o.hd.wr→Wr σ.H k)
  (ho:∀ι0,ι0 (G+C.objs.length)=srcReg ι s→(∀S,ι0=canReg G ι (C.srcs++s::S)→ObjOK P (fun c=>c<G+(C.objs.length+1)) ι0 (G+C.objs.length) w o)):CanOK P G σ ι w ⟨C.srcs++[s],C.objs++[o]⟩ where
 len:=by simp[h.len]
 src:=hs
 wr:=fun i o' k hi hk hwr=>by
  rcases Nat.lt_or_ge i C.objs.length with hl|hl
  ·rw[List.getElem?_append_left hl] at hi;rw[List.getElem?_append_left (by rw[h.len];exact hl)] at hk;exact h.wr i o' k hi hk hwr
  ·rw[List.getElem?_append_right hl] at hi;rw[List.getElem?_append_right (by rw[h.len];exact hl),h.len] at hk;rcases hx:i-C.objs.length with _|n
   ·rw[hx] at hi hk;simp only[List.getElem?_cons_zero,Option.some.injEq] at hi hk;subst hi;exact hw k hk hwr
   ·rw[hx] at hi;simp at hi
 obj:=fun i o' S hi=>by
  simp only[List.append_assoc,List.singleton_append,List.length_append,List.length_cons,List.length_nil,Nat.zero_add];rcases Nat.lt_or_ge i C.objs.length with hl|hl
  ·rw[List.getElem?_append_left hl] at hi;exact(h.obj i o' (s::S) hi).more fun c hc=>by have hc:c<G+C.objs.length:=hc;omega
  ·rw[List.getElem?_append_right hl] at hi;rcases hx:i-C.objs.length with _|n
   ·rw[hx] at hi;simp only[List.getElem?_cons_zero,Option.some.injEq] at hi;subst hi;obtain rfl:i=C.objs.length:=by omega
    refine ho _ ?_ S rfl;have:=canReg_at (G:=G) (ι:=ι) (S:=C.srcs) (T:=S) (s:=s);rw[h.len] at this;exact this
   ·rw[hx] at hi;simp at hi
def Ext (C C':Can):Prop:=∃T,C'.srcs=C.srcs++T
theorem Ext.refl (C:Can):Ext C C:=⟨[],by simp⟩
theorem Ext.trans {A B C:Can}:Ext A B→Ext B C→Ext A C:=fun⟨T,h⟩ ⟨U,h'⟩=>⟨T++U,by rw[h',h,List.append_assoc]⟩
def VC (D:Nat→Prop) (ι:Nat→Reg) (G:Nat) (C:Can) (v v0:Value):Prop:=
 ∀v',VR D ι v v'→∀S,VR (fun c=>c<G+C.objs.length) (canReg G ι (C.srcs++S)) v0 v'
theorem VC.more {C C':Can} {v v0:Value} (h:VC D ι G C v v0) (hC:CanOK P G σ ι w C) (hC':CanOK P G σ ι w C') (e:Ext C C'):VC D ι G C' v v0:=by
 obtain⟨T,hT⟩:=e;intro v' hv S;have:=h v' hv (T++S);rw[hT,List.append_assoc];refine this.mono (fun c hc=> ?_) fun _ _=>rfl
 have hl:C.objs.length≤C'.objs.length:=by
  rw[←hC.len,←hC'.len,hT];simp
 have hc:c<G+C.objs.length:=hc;show c<G+C'.objs.length;omega
theorem cv1_ok (hall:HAll P D ι σ.H w) {sh:Sh1} {v v0:Value} {C C':Can} (h:cv1 G σ sh v C=some (v0,C')) (hC:CanOK P G σ ι w C):CanOK P G σ ι w C'∧Ext C C'∧VC D ι G C' v v0:=by
 have unsy':∀u,unsy v=some u→VC D ι G C v (syB u):=fun u hu v' hv S=>by
  obtain⟨rfl,h⟩:=unsy_spec hu hv;exact syB_vr h
 unfold cv1 at h
 split at h
 ·cases hp:plainN 8 v
  ·rw[hp,cond_false] at h
   split at h
   ·rename_i u hu;cases h;exact⟨hC,.refl _,unsy' u hu⟩
   ·cases h
  ·rw[hp] at h;cases h;refine⟨hC,.refl _,fun v' hv S=> ?_⟩;rw[plain_eq 8 _ _ hp hv];exact plain_refl 8 _ hp
 ·split at h
  ·rename_i u hu;cases h;exact⟨hC,.refl _,unsy' u hu⟩
  ·cases h
 ·rename_i t
  split at h
  ·cases h;refine⟨hC.add (hC.src.add_nil t) (fun k e=>by cases e) fun ι0 e S _=>⟨?_,fun k v hk=>by cases hk⟩,⟨_,rfl⟩,fun v' hv S=> ?_⟩
   ·exact HdrOK.at (ι:=fun _=>srcReg ι (.nil t)) (k:=0) ⟨.inl ⟨⟨_,_,rfl⟩,rfl⟩,rfl,rfl,fun b c h=>by cases h⟩ e
   ·cases hv;have hr:=canReg_at (G:=G) (ι:=ι) (S:=C.srcs) (T:=S) (s:=.nil t);rw[hC.len] at hr;simp only[List.append_assoc,List.singleton_append];exact .dat _ _ _ _ (by simp) (by rw[hr];rfl)
  ·rename_i arr
   split at h
   ·rename_i id ha
    split at h
    ·rename_i t' xs hg
     split at h
     ·rename_i he;subst he;cases h;refine⟨hC.add (hC.src.add_dat hg) (fun k e hw=>by cases hw) fun ι0 e S _=>⟨(hall.hd id _ (St.hdr_of hg)).at e,fun k v hk=>by cases hk⟩,⟨_,rfl⟩,fun v' hv S=> ?_⟩;rw[tuple_eq ha] at hv;obtain⟨a,l,c,rfl,hD,hsv⟩:=dt_inv hv;have hr:=canReg_at (G:=G) (ι:=ι) (S:=C.srcs) (T:=S) (s:=.id id)
      rw[hC.len] at hr;simp only[List.append_assoc,List.singleton_append];exact .dat _ _ _ _ (by simp) (by rw[hr];exact hsv)
     ·cases h
    ·cases h
   ·cases h
  ·cases h
 ·rename_i t e
  split at h
  ·cases h;refine⟨hC.add (hC.src.add_nil t) (fun k e=>by cases e) fun ι0 e S _=>⟨?_,fun k v hk=>by cases hk⟩,⟨_,rfl⟩,fun v' hv S=> ?_⟩
   ·exact HdrOK.at (ι:=fun _=>srcReg ι (.nil t)) (k:=0) ⟨rfl,fun b c h=>(by cases h),.inl ⟨rfl,rfl,none,rfl⟩⟩ e
   ·cases hv;have hr:=canReg_at (G:=G) (ι:=ι) (S:=C.srcs) (T:=S) (s:=.nil t);rw[hC.len] at hr;simp only[List.append_assoc,List.singleton_append];exact .dat _ _ _ _ (by simp) (by rw[hr];rfl)
  ·rename_i arr
   split at h
   ·rename_i id ha
    split at h
    ·rename_i t' xs e' hg
     split at h
     ·rename_i he;subst he;cases hb:(Nat.beq e' e&& !usedSrc id C.srcs)
      ·rw[hb] at h;cases h
      rw[hb,cond_true] at h;rw[Bool.and_eq_true] at hb;have he':=Nat.eq_of_beq_eq_true hb.1;subst he';have hu:usedSrc id C.srcs=false:=by simpa using hb.2
      cases h;refine⟨hC.add (hC.src.add_own ⟨_,St.hdr_of hg,trivial⟩ hu) (fun k e hw=> ?_) fun ι0 e S _=>⟨(hall.hd id _ (St.hdr_of hg)).at e,fun k v hk=>by cases hk⟩,⟨_,rfl⟩,fun v' hv S=> ?_⟩
      ·cases e;exact⟨_,St.hdr_of hg,trivial⟩
      rw[tuple_eq ha] at hv;obtain⟨a,l,c,rfl,hD,hsv⟩:=dt_inv hv;have hr:=canReg_at (G:=G) (ι:=ι) (S:=C.srcs) (T:=S) (s:=.id id);rw[hC.len] at hr;simp only[List.append_assoc,List.singleton_append];exact .dat _ _ _ _ (by simp) (by rw[hr];exact hsv)
     ·cases h
    ·cases h
   ·cases h
  ·cases h
 ·rename_i k
  split at h
  ·rename_i arr
   split at h
   ·rename_i id ha
    split at h
    ·rename_i j hj;cases hb:Nat.beq j id
     ·rw[hb] at h;cases h
     rw[hb,cond_true] at h;have hb:=Nat.eq_of_beq_eq_true hb;subst hb;cases h;refine⟨hC,.refl _,fun v' hv S=> ?_⟩;rw[tuple_eq ha] at hv;obtain⟨a,l,c,rfl,hD,hsv⟩:=dt_inv hv;have hlt:k<C.srcs.length:=by
      rcases Nat.lt_or_ge k C.srcs.length with h|h
      ·exact h
      ·rw[List.getElem?_eq_none h] at hj;cases hj
     have hr:canReg G ι (C.srcs++S) (G+k)=ι j:=by
      unfold canReg;rw[if_neg (by omega),Nat.add_sub_cancel_left,List.getElem?_append_left hlt,hj];rfl
     exact .dat _ _ _ _ (by rw[←hC.len];omega) (by rw[hr];exact hsv)
    ·cases h
   ·cases h
  ·cases h
 ·rename_i k
  split at h
  ·rename_i id
   split at h
   ·rename_i j hj;cases hb:Nat.beq j id
    ·rw[hb] at h;cases h
    rw[hb,cond_true] at h;have hb:=Nat.eq_of_beq_eq_true hb;subst hb;cases h;refine⟨hC,.refl _,fun v' hv S=> ?_⟩;obtain⟨rfl,hD⟩:=hv.ptr_inv;have hlt:k<C.srcs.length:=by
     rcases Nat.lt_or_ge k C.srcs.length with h|h
     ·exact h
     ·rw[List.getElem?_eq_none h] at hj;cases hj
    have hr:canReg G ι (C.srcs++S) (G+k)=ι j:=by
     unfold canReg;rw[if_neg (by omega),Nat.add_sub_cancel_left,List.getElem?_append_left hlt,hj];rfl
    have:=VR.ptr (D:=fun c=>c<G+C.objs.length) (ι:=canReg G ι (C.srcs++S)) (G+k) 0 (by rw[←hC.len];omega);rw[hr] at this;exact this
   ·cases h
  ·cases h
theorem cvs_ok (hall:HAll P D ι σ.H w):∀{shs:List Sh1} {vs vs0:List Value} {C C':Can},cvs G σ shs vs C=some (vs0,C')→CanOK P G σ ι w C→CanOK P G σ ι w C'∧Ext C C'∧vs0.length=vs.length∧∀(k:Nat) v v0,vs[k]?=some v→vs0[k]?=some v0→VC D ι G C' v v0
 |[],[],vs0,C,C',h,hC=>by
  simp only[cvs,Option.some.injEq,Prod.mk.injEq] at h;obtain⟨rfl,rfl⟩:=h;exact⟨hC,.refl _,rfl,fun k v v0 hv=>by simp at hv⟩
 |[],_::_,vs0,C,C',h,hC=>by simp[cvs] at h
 |_::_,[],vs0,C,C',h,hC=>by simp[cvs] at h
 |sh::shs,v::vs,vs0,C,C',h,hC=>by
  simp only[cvs] at h
  split at h
  ·rename_i v0 C1 h1
   split at h
   ·rename_i vs1 C2 h2;cases h;obtain⟨a1,a2,a3⟩:=cv1_ok hall h1 hC;obtain⟨b1,b2,b3,b4⟩:=cvs_ok hall h2 a1;refine⟨b1,a2.trans b2,by simp[b3],fun k u u0 hu hu0=> ?_⟩;rcases k with _|k
    ·simp only[List.getElem?_cons_zero,Option.some.injEq] at hu hu0;subst hu hu0;exact a3.more a1 b1 b2
    ·exact b4 k u u0 (by simpa using hu) (by simpa using hu0)
   ·cases h
  ·cases h
theorem cv0_ok (hall:HAll P D ι σ.H w) {sh:Sh} {v v0:Value} {C C':Can} (h:cv0 G σ sh v C=some (v0,C')) (hC:CanOK P G σ ι w C):CanOK P G σ ι w C'∧Ext C C'∧VC D ι G C' v v0:=by
 unfold cv0 at h
 split at h
 ·exact cv1_ok hall h hC
 ·rename_i shs
  split at h
  ·rename_i id
   split at h
   ·rename_i cs e hg
    split at h
    ·rename_i cs' C1 hc;cases hu:usedSrc id C1.srcs
     case true=>rw[hu] at h;cases h
     rw[hu] at h;cases h;obtain⟨a1,a2,a3,a4⟩:=cvs_ok hall hc hC;have hd:=hall.hd id _ (St.hdr_of hg);refine⟨a1.add (a1.src.add_own ⟨_,St.hdr_of hg,rfl⟩ hu) (fun k e hw=> ?_) fun ι0 e S hS=>⟨?_,fun k v hk=> ?_⟩,a2.trans ⟨_,rfl⟩,fun v' hv S=> ?_⟩
     ·cases e;exact⟨_,St.hdr_of hg,rfl⟩
     ·have:=hd.at e;simp only[AO.hd] at this⊢;rw[a3];exact this
     ·simp only[cellOf] at hk;have hlt:k<cs.length:=by
       rcases Nat.lt_or_ge k cs'.length with h|h
       ·omega
       ·rw[List.getElem?_eq_none h] at hk;cases hk
      obtain⟨o1,v',o2,o3⟩:=hall.ceR id k cs[k] (St.hdr_of hg) (by rw[St.cell_of hg];exact List.getElem?_eq_getElem hlt);refine⟨by rw[e];exact o1,v',by rw[e];exact .inl o2,?_⟩;have:=a4 k cs[k] v (List.getElem?_eq_getElem hlt) hk v' o3 (.id id::S);rw[←hS] at this;exact this.mono (fun c hc=>by have hc:c<G+C1.objs.length:=hc;show c<G+(C1.objs.length+1);omega) fun _ _=>rfl
     ·obtain⟨rfl,hD⟩:=hv.ptr_inv;have hr:=canReg_at (G:=G) (ι:=ι) (S:=C1.srcs) (T:=S) (s:=.id id);rw[a1.len] at hr;simp only[List.append_assoc,List.singleton_append];have:=VR.ptr (D:=fun c=>c<G+(C1.objs++[AO.row cs' e false]).length) (ι:=canReg G ι (C1.srcs++Src.id id::S)) (G+C1.objs.length) 0 (by simp);rw[hr] at this
      exact this
    ·cases h
   ·cases h
  ·cases h
 ·rename_i shs
  split at h
  ·rename_i cs
   split at h
   ·rename_i cs' C1 hc;cases h;obtain⟨a1,a2,a3,a4⟩:=cvs_ok hall hc hC;refine⟨a1,a2,fun v' hv S=> ?_⟩;cases hv with
    |agg _ bs hs hh=>
     refine .agg _ _ (by simp[a3,hs]) fun i x y hx hy=> ?_
     simp only[List.getElem?_toArray] at hx;have hlt:i<cs.toList.length:=by
      rcases Nat.lt_or_ge i cs'.length with h|h
      ·omega
      ·rw[List.getElem?_eq_none h] at hx;cases hx
     exact a4 i cs.toList[i] x (List.getElem?_eq_getElem hlt) hx y (hh i _ y (by rw[←Array.getElem?_toList];exact List.getElem?_eq_getElem hlt) hy) S
   ·cases h
  ·cases h
 ·rename_i shs
  split at h
  ·rename_i id l c
   split at h
   ·rename_i cs e hg
    split at h
    ·rename_i cs' C1 hc;cases hu:usedSrc id C1.srcs
     case true=>rw[hu] at h;cases h
     rw[hu] at h;cases h;obtain⟨a1,a2,a3,a4⟩:=cvs_ok hall hc hC;have hd:=hall.hd id _ (St.hdr_of hg);refine⟨a1.add (a1.src.add_own ⟨_,St.hdr_of hg,rfl⟩ hu) (fun k e hw=> ?_) fun ι0 e S hS=>⟨?_,fun k v hk=> ?_⟩,a2.trans ⟨_,rfl⟩,fun v' hv S=> ?_⟩
     ·cases e;exact⟨_,St.hdr_of hg,rfl⟩
     ·have:=hd.at e;simp only[AO.hd] at this⊢;rw[a3];exact this
     ·simp only[cellOf] at hk;have hlt:k<cs.length:=by
       rcases Nat.lt_or_ge k cs'.length with h|h
       ·omega
       ·rw[List.getElem?_eq_none h] at hk;cases hk
      obtain⟨o1,v',o2,o3⟩:=hall.ceR id k cs[k] (St.hdr_of hg) (by rw[St.cell_of hg];exact List.getElem?_eq_getElem hlt);refine⟨by rw[e];exact o1,v',by rw[e];exact .inl o2,?_⟩;have:=a4 k cs[k] v (List.getElem?_eq_getElem hlt) hk v' o3 (.id id::S);rw[←hS] at this;exact this.mono (fun c hc=>by have hc:c<G+C1.objs.length:=hc;show c<G+(C1.objs.length+1);omega) fun _ _=>rfl
     ·have hr:=canReg_at (G:=G) (ι:=ι) (S:=C1.srcs) (T:=S) (s:=.id id);rw[a1.len] at hr;simp only[List.append_assoc,List.singleton_append];have hD2:G+C1.objs.length<G+(C1.objs++[AO.row cs' e false]).length:=by simp
      cases hv with
      |slK _ _ _ _ hd hc=>
       have:=VR.slK (D:=fun c=>c<G+(C1.objs++[AO.row cs' e false]).length) (ι:=canReg G ι (C1.srcs++Src.id id::S)) (G+C1.objs.length) 0 l c hD2 hc;rw[hr] at this;exact this
      |slU _ _ _ c' hd h1 h2=>
       have:=VR.slU (D:=fun c=>c<G+(C1.objs++[AO.row cs' e false]).length) (ι:=canReg G ι (C1.srcs++Src.id id::S)) (G+C1.objs.length) 0 l c' hD2 h1 (by rw[hr];exact h2);rw[hr] at this;exact this
    ·cases h
   ·cases h
  ·cases h
 ·cases h
theorem cv_ok (hall:HAll P D ι σ.H w) {sh:Sh} {v v0:Value} {C C':Can} (h:cv G σ sh v C=some (v0,C')) (hC:CanOK P G σ ι w C):CanOK P G σ ι w C'∧Ext C C'∧VC D ι G C' v v0:=by
 unfold cv at h
 split at h
 ·split at h
  ·split at h
   ·rename_i u _ u0 C1 h1;obtain⟨a1,a2, -⟩:=cv0_ok hall h1 hC;obtain⟨b1,b2,b3⟩:=cv0_ok hall h a1;exact⟨b1,a2.trans b2,b3⟩
   ·cases h
  ·cases h
 ·exact cv0_ok hall h hC
theorem cvSlots_ok (hall:HAll P D ι σ.H w) {s:Tr Value}:∀{l:List (Nat×Sh)} {r:List (Nat×Value)} {C C':Can},cvSlots G σ s l C=some (r,C')→CanOK P G σ ι w C→CanOK P G σ ι w C'∧Ext C C'∧∀t v0,(t,v0)∈r→∃v,s.get t=some v∧VC D ι G C' v v0
 |[],r,C,C',h,hC=>by
  simp only[cvSlots,Option.some.injEq,Prod.mk.injEq] at h;obtain⟨rfl,rfl⟩:=h;exact⟨hC,.refl _,fun t v0 hm=>by cases hm⟩
 |(t,sh)::l,r,C,C',h,hC=>by
  simp only[cvSlots] at h
  split at h
  ·rename_i v hv
   split at h
   ·rename_i v' C1 h1
    split at h
    ·rename_i r' C2 h2;cases h;obtain⟨a1,a2,a3⟩:=cv_ok hall h1 hC;obtain⟨b1,b2,b3⟩:=cvSlots_ok hall h2 a1;refine⟨b1,a2.trans b2,fun t' v0 hm=> ?_⟩;rcases List.mem_cons.1 hm with e|hm
     ·cases e;exact⟨v,hv,a3.more a1 b1 b2⟩
     ·exact b3 t' v0 hm
    ·cases h
   ·cases h
  ·cases h
theorem mkS_get:∀{l:List (Nat×Value)} {t:Nat} {v:Value},(mkS l).get t=some v→(t,v)∈l
 |[],t,v,h=>by rw[mkS,Tr.get_lf] at h;cases h
 |(t',v')::l,t,v,h=>by
  rw[mkS,Tr.set_get] at h;by_cases e:t=t'
  ·rw[if_pos e] at h;cases h;subst e;simp
  ·rw[if_neg e] at h;exact List.mem_cons_of_mem _ (mkS_get h)
theorem mkH_get:∀(os:List AO) (k:Nat) (h:Tr AO) (j:Nat),(mkH k os h).get j=if k≤j∧j<k+os.length then os[j-k]? else h.get j
 |[],k,h,j=>by rw[mkH,if_neg (by simp only[List.length_nil];omega)]
 |o::os,k,h,j=>by
  rw[mkH,mkH_get os (k+1),Tr.set_get];simp only[List.length_cons];by_cases e:j=k
  ·subst e;rw[if_neg (by omega),if_pos rfl,if_pos (by omega)];simp
  ·by_cases hh:k+1≤j∧j<k+1+os.length
   ·rw[if_pos hh,if_pos (by omega),show j-k=(j-(k+1))+1 by omega];simp
   ·rw[if_neg hh,if_neg e,if_neg (by omega)]
theorem glSame_spec:∀{gl:List (Nat×List Value)},glSame σ gl=true→∀p,p∈gl→σ.heap.get p.1=some (.row p.2 0 true)
 |[],_,p,hp=>by cases hp
 |q::qs,h,p,hp=>by
  simp only[glSame] at h
  split at h
  ·rename_i cs hg;cases hc:eqCs cs q.2
   ·rw[hc] at h;cases h
   ·rw[hc,cond_true] at h;rcases List.mem_cons.1 hp with rfl|hp
    ·rw[hg,eqCs_eq hc]
    ·exact glSame_spec h p hp
  ·cases h
theorem pinned_spec {G:Nat} {srcs:List Src}:∀{ks:List Nat},pinned G srcs ks=true→∀k,k∈ks→G≤k∧srcs[k-G]?=some (Src.id k)
 |[],_,_,h=>by cases h
 |k::ks,h,j,hj=>by
  simp only[pinned] at h
  split at h
  ·rename_i i hi;cases hb:(Nat.beq i k&&Nat.ble G k)
   ·rw[hb] at h;cases h
   rw[hb,cond_true] at h;rw[Bool.and_eq_true] at hb;have h1:=Nat.eq_of_beq_eq_true hb.1;subst h1;rcases List.mem_cons.1 hj with rfl|hj
   ·exact⟨Nat.le_of_ble_eq_true hb.2,hi⟩
   ·exact pinned_spec h j hj
  ·cases h
theorem canon_sound (hE:E.OK P) {nt:Nat} {pin:List (Nat×Reg)} {w0:World} {own0 z0:Nat→Prop} {s:Tr Value} {a:Act} {shs:List (Nat×Sh)} {l:List (Nat×Value)} {objs:List AO} {ora:List Nat} (h:canon E (pin.map (·.1)) shs s σ=some (l,objs)) (hs:Asrt P E nt pin w0 own0 z0 s σ a w):
  Asrt P E nt pin w0 own0 z0 (mkS l) (mkSt E objs ora) a w:=by
 obtain⟨D,ι,hwf,hG,hD,hsr,hall,hdf,q1,q2,q3,q4,q5,q6,q7⟩:=hs;unfold canon at h
 split at h
 ·rename_i l' C hc;cases hg:(glSame σ E.gl&&pinned E.G C.srcs (pin.map (·.1)))
  ·rw[hg] at h;cases h
  rw[hg,cond_true] at h;rw[Bool.and_eq_true] at hg;obtain⟨hg,hpn⟩:=hg;simp only[Option.some.injEq,Prod.mk.injEq] at h;obtain⟨rfl,rfl⟩:=h;have hg:=glSame_spec hg;obtain⟨a1, -,a3⟩:=cvSlots_ok (G:=E.G) hall hc ⟨rfl,⟨fun i k h=>by simp at h,fun i k h=>by simp at h,fun i j k h=>by simp at h⟩,fun i o k h=>by simp at h,fun i o S h=>by simp at h⟩
  have hlow:∀c,c<E.G→canReg E.G ι C.srcs c=ι c:=fun c hc=>by unfold canReg;rw[if_pos hc]
  have hget:∀c o,(mkSt E C.objs ora).heap.get c=some o→(c<E.G∧∃p,p∈E.gl∧p.1=c∧o=.row p.2 0 true∧σ.heap.get c=some o)∨∃i,c=E.G+i∧C.objs[i]?=some o:=by
   intro c o hco;simp only[mkSt,mkH_get] at hco
   split at hco
   ·rename_i hr;exact .inr ⟨c-E.G,by omega,hco⟩
   ·obtain⟨p,h1,h2,h3⟩:=glHeap_get hco;refine .inl ⟨h2▸(hE.gl p h1).1,p,h1,h2,h3,?_⟩;rw[←h2,hg p h1,h3]
  have hobj:∀i o,C.objs[i]?=some o→ObjOK P (fun c=>c<E.G+C.objs.length) (canReg E.G ι C.srcs) (E.G+i) w o:=fun i o hi=>by
   have:=a1.obj i o [] hi;rwa[List.append_nil] at this
  have hsrc:∀i o,C.objs[i]?=some o→∃sr,C.srcs[i]?=some sr∧canReg E.G ι C.srcs (E.G+i)=srcReg ι sr:=fun i o hi=>by
   have hlt:i<C.objs.length:=by
    rcases Nat.lt_or_ge i C.objs.length with h|h
    ·exact h
    ·rw[List.getElem?_eq_none h] at hi;cases hi
   have e:C.srcs[i]?=some (C.srcs[i]'(by rw[a1.len];exact hlt)):=List.getElem?_eq_getElem _;refine⟨_,e,?_⟩;unfold canReg;rw[if_neg (by omega),Nat.add_sub_cancel_left,e]
  have hhd:∀c x,(mkSt E C.objs ora).H.hdr c=some x→∃o,(mkSt E C.objs ora).heap.get c=some o∧x=o.hd:=fun c x hx=>by
   simp only[St.H] at hx;cases ho:(mkSt E C.objs ora).heap.get c with
   |none=>rw[ho] at hx;cases hx
   |some o=>rw[ho] at hx;cases hx;exact⟨o,rfl,rfl⟩
  refine⟨fun c=>c<E.G+C.objs.length,canReg E.G ι C.srcs,fun id hid=> ?_,fun g hgl=> ?_,fun id h=>h,⟨hsr.1,fun t v ht=> ?_⟩,⟨fun c x hx=> ?_,fun c k v hl hk=> ?_,fun i j li lj hij b hb=> ?_⟩,hdf,q1,q2,q3,q4,fun c hw b hb=> ?_,fun c hl b hb=> ?_,fun p hp=> ?_⟩
  ·have hid:E.G+C.objs.length≤id:=hid;simp only[mkSt,mkH_get,if_neg (show ¬(E.G≤id∧id<E.G+C.objs.length) by omega)];cases hgh:(glHeap E.gl).get id with
   |none=>rfl
   |some o=>
    obtain⟨p,h1,h2,_⟩:=glHeap_get hgh;have:=(hE.gl p h1).1;omega
  ·obtain⟨g1,g2,g3⟩:=hG g hgl;rw[hlow g hgl];exact⟨by omega,g2,g3⟩
  ·obtain⟨v1,h1,h2⟩:=a3 t v (mkS_get ht);refine⟨(hsr.2 t v1 h1).1,?_⟩;have:=h2 _ (hsr.2 t v1 h1).2 [];rwa[List.append_nil] at this
  ·obtain⟨o,ho,rfl⟩:=hhd c x hx;rcases hget c o ho with⟨hlt,p,h1,h2,rfl,h4⟩|⟨i,rfl,hi⟩
   ·exact(hall.hd c _ (St.hdr_of h4)).at (hlow c hlt)
   ·exact(hobj i o hi).1
  ·obtain⟨x,hx⟩:=hl;obtain⟨o,ho,rfl⟩:=hhd c x hx;simp only[St.H,ho] at hk;rcases hget c o ho with⟨hlt,p,h1,h2,rfl,h4⟩|⟨i,rfl,hi⟩
   ·obtain⟨o1,v',o2,o3⟩:=hall.ce c k v (St.lv_of h4) (by simp only[St.H,h4];exact hk);have hp:glc v=true:=List.all_eq_true.1 (hE.gl p h1).2 v (List.mem_of_getElem? (by simpa[cellOf] using hk));refine⟨by rw[hlow c hlt];exact o1,v',by rw[hlow c hlt];exact o2,?_⟩;exact(glR.of hp o3).vr
   ·exact(hobj i o hi).2 k v hk
  ·obtain⟨x,hx,hxw⟩:=li;obtain⟨y,hy⟩:=lj;obtain⟨o,ho,rfl⟩:=hhd i x hx;obtain⟨o',ho',rfl⟩:=hhd j y hy;have nilReg:∀t b,¬(srcReg ι (.nil t)).Own b∧¬(srcReg ι (.nil t)).Fz b:=fun t b=>⟨fun h=>(by cases h.1),fun⟨c,h⟩=>(by cases h)⟩
   have from':∀c o,(mkSt E C.objs ora).heap.get c=some o→(∃t,canReg E.G ι C.srcs c=srcReg ι (.nil t))∨∃k,canReg E.G ι C.srcs c=ι k∧Lv σ.H k∧((c<E.G∧k=c∧∃cs,σ.heap.get k=some (.row cs 0 true))∨∃i,c=E.G+i∧C.srcs[i]?=some (Src.id k)∧(o.hd.wr∨True)∧C.objs[i]?=some o):=by
    intro c o hco;rcases hget c o hco with⟨hlt,p,h1,h2,rfl,h4⟩|⟨i,rfl,hi⟩
    ·exact .inr ⟨c,hlow c hlt,St.lv_of h4,.inl ⟨hlt,rfl,_,h4⟩⟩
    ·obtain⟨sr,e1,e2⟩:=hsrc i o hi;cases sr with
     |nil t=>exact .inl ⟨t,e2⟩
     |id k=>exact .inr ⟨k,e2,a1.src.lv i k e1,.inr ⟨i,rfl,e1,.inr trivial,hi⟩⟩
   rcases from' i o ho with⟨t,e⟩|⟨k,e,lk,hk⟩
   ·rw[e] at hb;exact absurd hb (nilReg t b).1
   ·rcases from' j o' ho' with⟨t,e'⟩|⟨k',e',lk',hk'⟩
    ·rw[e'];exact nilReg t b
    ·rw[e] at hb;rw[e'];by_cases hkk:k=k'
     ·subst hkk;exfalso;rcases hk with⟨h1,rfl,cs,h3⟩|⟨i1,rfl,h2,_,h3⟩
      ·rcases hk' with⟨_,rfl,_⟩|⟨j1,rfl,h4,_,h5⟩
       ·exact hij rfl
       ·exact a1.src.nro j1 _ h4 cs h3
      ·rcases hk' with⟨h1,rfl,cs,h4⟩|⟨j1,rfl,h4,_,h5⟩
       ·exact a1.src.nro i1 _ h2 cs h4
       ·obtain⟨t,xs,hd⟩:=a1.src.one i1 j1 k h2 h4 fun e=>hij (by rw[e])
        obtain⟨_,_,h,_⟩:=hall.hd k _ (St.hdr_of hd);rw[hb.1] at h;cases h
     ·have hwk:Wr σ.H k:=by
       rcases hk with⟨h1,rfl,cs,h3⟩|⟨i1,rfl,h2,_,h3⟩
       ·rcases hget _ o ho with⟨_,p,_,_,rfl,_⟩|⟨i',e',_⟩
        ·cases hxw
        ·omega
       ·exact a1.wr i1 o k h3 h2 hxw
      exact hall.inj k k' hwk lk' hkk b hb
  ·obtain⟨x,hx,hxw⟩:=hw;obtain⟨o,ho,rfl⟩:=hhd c x hx;rcases hget c o ho with⟨hlt,p,h1,h2,rfl,h4⟩|⟨i,rfl,hi⟩
   ·cases hxw
   ·obtain⟨sr,e1,e2⟩:=hsrc i o hi;rw[e2] at hb;cases sr with
    |nil t=>cases hb.1
    |id k=>exact q5 k (a1.wr i o k hi e1 hxw) b hb
  ·obtain⟨x,hx⟩:=hl;obtain⟨o,ho,rfl⟩:=hhd c x hx;rcases hget c o ho with⟨hlt,p,h1,h2,rfl,h4⟩|⟨i,rfl,hi⟩
   ·rw[hlow c hlt] at hb;exact q6 c (St.lv_of h4) b hb
   ·obtain⟨sr,e1,e2⟩:=hsrc i o hi;rw[e2] at hb;cases sr with
    |nil t=>obtain⟨c,hb⟩:=hb;cases hb
    |id k=>exact q6 k (a1.src.lv i k e1) b hb
  ·obtain⟨k1,k2⟩:=pinned_spec hpn p.1 (List.mem_map_of_mem hp);have hlt:p.1-E.G<C.objs.length:=by
    rw[←a1.len];rcases Nat.lt_or_ge (p.1-E.G) C.srcs.length with h|h
    ·exact h
    ·rw[List.getElem?_eq_none h] at k2;cases k2
   refine⟨by omega,?_⟩;have:canReg E.G ι C.srcs p.1=ι p.1:=by
    unfold canReg;rw[if_neg (by omega),k2];rfl
   rw[this];exact(q7 p hp).2
 ·cases h
end
end Go.Eng
end
end
end
