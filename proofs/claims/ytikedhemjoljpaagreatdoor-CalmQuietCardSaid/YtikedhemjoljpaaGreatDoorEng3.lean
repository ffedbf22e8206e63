/-
  The engine, part 3: an abstract evaluator over the model's code, proved sound. No condition.
-/
import Derived.Test.YtikedhemjoljpaaGreatDoorEng2
import Derived.Lib.UnsafeStr
import Derived.Lib.Builder
section
noncomputable section
namespace Go.Eng
open Go
section
variable {P:Program} {T:TE} (hT:T.OK P) {D:Nat→Prop} {ι:Nat→Reg} {σ:St} {w:World}
def aStringToBytes (T:TE) (σ:St) (elem:TypeId) (s:ByteArray):Option R:=
 match T.inf elem with
 |some i=>bif Nat.beq i.size 1 then some ⟨.slice (some ⟨σ.next,0,none⟩) s.size unk,σ.new (.row (bytesV s.data.toList) elem false),.nil⟩ else none
 |none=>none
theorem modify_push (h:Array Obj) (o:Obj) (f:Obj→Obj):(h.push o).modify h.size f=h.push (f o):=by
 apply Array.ext_getElem?;intro j;rw[Array.getElem?_modify,Array.getElem?_push,Array.getElem?_push];by_cases e:j=h.size
 ·subst e;simp
 ·simp[e,Ne.symm e]
include hT
theorem aStringToBytes_sound {elem:TypeId} {s:ByteArray} {r:R} (h:aStringToBytes T σ elem s=some r):Sound P D ι σ w (Conv.stringToBytes elem s) r:=by
 unfold aStringToBytes at h
 split at h
 ·rename_i i hi;cases hb:Nat.beq i.size 1
  ·rw[hb] at h;cases h
  ·rw[hb,cond_true] at h;have hz:=Nat.eq_of_beq_eq_true hb;cases h;refine⟨by simp[St.new],fun hw=>⟨St.new_wf hw _,AFr.new _ _ _⟩,fun hw hD _=> ?_⟩;have hDn:¬D σ.next:=hD _ (by simp[St.rng,St.new]);let cap:=(Question.appendCap s.size 0 elem).cut (w.tape w.drawn (.appendCap s.size 0 elem));have hcap:s.size≤cap:=cut_ge _ _ _ _
   let c:Array Value:=s.data.map (fun b=>Value.int .u8 b.toNat)++Array.replicate (cap-s.size) (.int .u8 0);have hc:c.size=cap:=by
    have hs:s.data.size=s.size:=rfl;simp only[c,Array.size_append,Array.size_map,Array.size_replicate,hs];omega
   have hlen:(bytesV s.data.toList).length=s.size:=by rw[bytesV_len];simp
   refine⟨.slice (some ⟨w.heap.size,0,none⟩) s.size cap,upd ι σ.next (rg w.heap.size 0 c.size 1),{ w with drawn:=w.drawn+1,heap:=w.heap.push (.cells c elem (c.size,c.size+1))},?_,?_,?_⟩
   ·have hq:(Question.appendCap s.size 0 elem).forced=false:=rfl;have hg:(w.heap.push (.cells c elem (0,0)))[w.heap.size]?=some (.cells c elem (0,0)):=heap_push_new w _;simp only[Conv.stringToBytes,Sem.run_bind,run_choose,hq,Bool.false_eq_true,if_false,Result.andThen_ok,newRow,run_newObj,Sem.run_pure,markStringish,run_shape,World.shape?]
    show((match(match(w.heap.push (.cells c elem (0,0)))[w.heap.size]? with|some (.cells c elem _)=>some (elem,c.size)|_=>none) with|some (_,n)=>freeze { block:=w.heap.size,off:=n} 1|_=>Pure.pure ()).run P _).andThen _=_;rw[hg];simp only[run_freeze,Result.andThen_ok,World.freeze];rw[if_neg (by omega)];simp only[modify_push,beq_self_eq_true,if_true]
    rfl
   ·have:=VR.slU (D:=fun i=>D i∨σ.rng (σ.new (.row (bytesV s.data.toList) elem false)) i) (ι:=upd ι σ.next (rg w.heap.size 0 c.size 1)) σ.next 0 s.size cap (.inr (St.rng_new.2 rfl)) hcap (by rw[upd_eq,hc];simp);rw[upd_eq] at this;exact this
   ·refine Post.new hw hDn ?_ ?_ ?_ ?_ rfl rfl rfl rfl rfl
    ·omega
    ·intro j hj;rw[hT.inf _ _ hi] at hj;cases hj;exact⟨hz.symm,by rw[hz];exact Nat.mod_one _⟩
    ·intro o ho;omega
    ·intro k v hk;rw[bytesV_eq] at hk;simp only[List.getElem?_map,Option.map_eq_some_iff] at hk;obtain⟨b,hb1,rfl⟩:=hk;refine⟨.int .u8 b.toNat,?_,.int _ _⟩;have hlt:k<s.data.size:=by
      rcases Nat.lt_or_ge k s.data.size with h|h
      ·exact h
      ·rw[List.getElem?_eq_none (by simpa using h)] at hb1;cases hb1
     simp only[c];rw[Array.getElem?_append_left (by simpa using hlt),Array.getElem?_map];rw[Array.getElem?_toList] at hb1;rw[hb1];rfl
 ·cases h
omit hT
def repL:Nat→List Value→List Value
 |0,_=>[]
 |n+1,zs=>zs++repL n zs
theorem repL_len (zs:List Value):∀n,(repL n zs).length=n*zs.length
 |0=>by simp[repL]
 |n+1=>by rw[repL,List.length_append,repL_len zs n,Nat.add_mul];omega
theorem repL_get (zs:List Value):∀(n k:Nat),k<n*zs.length→(repL n zs)[k]?=zs[k%zs.length]?
 |0,k,h=>by omega
 |n+1,k,h=>by
  rw[repL];by_cases hk:k<zs.length
  ·rw[List.getElem?_append_left hk,Nat.mod_eq_of_lt hk]
  ·rw[List.getElem?_append_right (by omega),repL_get zs n _ (by rw[Nat.add_mul] at h;omega)];congr 1
   conv=>rhs;rw[show k=(k-zs.length)+zs.length by omega,Nat.add_mod_right]
theorem repL_eq (z:Array Value) (n:Nat):((Array.range (n*z.size)).map (z[· %z.size]!))=(repL n z.toList).toArray:=by
 apply Array.ext_getElem?;intro k;simp only[Array.getElem?_map,List.getElem?_toArray];by_cases hk:k<n*z.size
 ·rw[repL_get _ _ _ (by simpa using hk)];have hz:0<z.size:=by
   rcases Nat.eq_zero_or_pos z.size with h|h
   ·rw[h] at hk;simp at hk
   ·exact h
  have hm:k%z.size<z.size:=Nat.mod_lt _ hz;simp[hk,hm]
 ·rw[List.getElem?_eq_none (by rw[repL_len];simpa using hk)];simp[hk]
def aMakeSlice (T:TE) (σ:St) (t:TypeId) (l c:Value):Option R:=
 match l,c with
 | .int _ (.ofNat l),.int _ (.ofNat c)=>match T.und t with
   |some (.slice elem)=>match T.inf elem with
    |some e=>match e.zero with
     |some z=>bif Nat.ble l c&&Nat.ble c 1099511627776&&Nat.ble (e.bytes*c) 281474976710656&&Nat.beq z.cells.size e.size&&plainN 8 z then
      some ⟨.slice (some ⟨σ.next,0,none⟩) l c,σ.new (.row (repL c z.cells.toList) elem false),.nil⟩ else none
     |none=>none
    |none=>none
   |_=>none
 |_,_=>none
theorem wrap64_small {n:Nat} (h:n≤1099511627776):IntKind.i64.wrap (n:Int)=n:=by
 have h1:(n:Int)%(2^IntKind.i64.bits:Int)=n:=Int.emod_eq_of_lt (by omega) (by show(n:Int)<2^64;omega);have h2:¬((n:Int)≥(2^(IntKind.i64.bits-1):Int)):=by show ¬((n:Int)≥2^63);omega
 simp only[IntKind.wrap,h1,h2,decide_false,Bool.and_false,Bool.false_eq_true,if_false]
include hT
theorem aMakeSlice_sound {t:TypeId} {l l' c c':Value} {r:R} (h:aMakeSlice T σ t l c=some r) (hl:VR D ι l l') (hc:VR D ι c c'):Sound P D ι σ w (Instr.makeSlice t l' c') r:=by
 unfold aMakeSlice at h
 split at h
 ·rename_i k1 l k2 c;cases hl;cases hc
  split at h
  ·rename_i elem hu
   split at h
   ·rename_i e he
    split at h
    ·rename_i z hz;cases hb:(Nat.ble l c&&Nat.ble c 1099511627776&&Nat.ble (e.bytes*c) 281474976710656&&Nat.beq z.cells.size e.size&&plainN 8 z)
     ·rw[hb] at h;cases h
     ·rw[hb,cond_true] at h;simp only[Bool.and_eq_true] at hb;obtain⟨⟨⟨⟨b1,b2⟩,b3⟩,b4⟩,b5⟩:=hb;have b1:=Nat.le_of_ble_eq_true b1;have b2:=Nat.le_of_ble_eq_true b2;have b3:=Nat.le_of_ble_eq_true b3;have b4:=Nat.eq_of_beq_eq_true b4;cases h;refine⟨by simp[St.new],fun hw=>⟨St.new_wf hw _,AFr.new _ _ _⟩,fun hw hD _=> ?_⟩
      have hDn:¬D σ.next:=hD _ (by simp[St.rng,St.new]);have hlen:(repL c z.cells.toList).length=c*e.size:=by rw[repL_len];simp[b4]
      refine⟨.slice (some ⟨w.heap.size,0,none⟩) l c,upd ι σ.next (rg w.heap.size 0 (repL c z.cells.toList).toArray.size e.size),{ w with heap:=w.heap.push (.cells (repL c z.cells.toList).toArray elem (0,0))},?_,?_,?_⟩
      ·have e3:¬((e.bytes:Int)*(c:Int)>2^48):=by
        have:=Int.ofNat_le.2 b3;rw[Int.natCast_mul] at this;omega
       have hcond:((((c:Int)<0||decide ((e.bytes:Int)*(c:Int)>2^48))||decide ((l:Int)<0)||decide ((l:Int)>(c:Int)))=true)=False:=by
        simp only[Bool.or_eq_true,decide_eq_true_eq,eq_iff_iff,iff_false];omega
       simp only[Instr.makeSlice,Sem.run_bind,run_und hT hu,Result.andThen_ok,asInt,asIntOf,Sem.run_pure,run_inf hT he,Int.ofNat_eq_natCast,wrap64_small b2,wrap64_small (Nat.le_trans b1 b2),hcond,if_false,run_askRoom,run_siz hT he,Int.toNat_natCast];by_cases hn:c*e.size=0
       ·rw[if_pos hn];have h0:(repL c z.cells.toList).toArray=#[]:=by
         have:(repL c z.cells.toList).length=0:=by rw[hlen,hn]
         rw[List.length_eq_zero_iff.1 this]
        rw[h0,hn];have hr:∀f:Nat→Value,Array.map f (Array.range 0)=#[]:=fun f=>Array.eq_empty_of_size_eq_zero (by simp)
        simp only[Sem.run_bind,Sem.run_pure,Result.andThen_ok,newRow,run_newObj,hr]
       ·rw[if_neg hn];simp only[Sem.run_bind,run_zero hT he hz,Result.andThen_ok,Sem.run_pure,newRow,run_newObj];rw[←b4,repL_eq]
      ·have:=VR.slK (D:=fun i=>D i∨σ.rng (σ.new (.row (repL c z.cells.toList) elem false)) i) (ι:=upd ι σ.next (rg w.heap.size 0 (repL c z.cells.toList).toArray.size e.size)) σ.next 0 l c (.inr (St.rng_new.2 rfl)) (by unfold unk;omega);rw[upd_eq] at this;exact this
      ·refine Post.new hw hDn (by simp) ?_ (fun o _ h=>by omega) ?_ rfl rfl rfl rfl rfl
       ·intro j hj;rw[hT.inf _ _ he] at hj;cases hj;exact⟨rfl,by rw[List.size_toArray,hlen];exact Nat.mul_mod_left _ _⟩
       ·intro k v hk;have hkz:v∈z.cells.toList:=by
         have hlt:k<c*z.cells.toList.length:=by
          rcases Nat.lt_or_ge k (c*z.cells.toList.length) with h|h
          ·exact h
          ·rw[List.getElem?_eq_none (by rw[repL_len];exact h)] at hk;cases hk
         rw[repL_get _ _ _ hlt] at hk;exact List.mem_of_getElem? hk
        obtain⟨j,hj,hjv⟩:=List.mem_iff_getElem.1 hkz;have hj':z.cells[j]?=some v:=by
         rw[←Array.getElem?_toList,List.getElem?_eq_getElem hj,hjv]
        exact⟨v,by simpa using hk,((plain_refl 8 z b5:VR D ι z z).cells (plain_notJ b5)).2 j v v hj' hj'⟩
    ·cases h
   ·cases h
  ·cases h
 ·cases h
omit hT
def aFill (place:Nat→Option (Nat×Nat)):List Value→List (Nat×Value)→Option (List Value)
 |cs,[]=>some cs
 |cs,(i,v)::rest=>match place i with
  |some (off,size)=>bif Nat.beq v.cells.toList.length size&&Nat.ble (off+v.cells.toList.length) cs.length&&notJ v then
    match lput cs off v.cells.toList with
    |some cs'=>aFill place cs' rest
    |none=>none
   else none
  |none=>none
theorem fold_setL:∀(l:List Value) (n off:Nat) (c:Array Value),(l.zipIdx n).foldl (fun cs (x:Value×Nat)=>cs.setIfInBounds (off+x.2) x.1) c=setL c (off+n) l
 |[],_,_,_=>rfl
 |v::l,n,off,c=>by
  rw[List.zipIdx_cons,List.foldl_cons,fold_setL l (n+1) off,setL];rfl
inductive PR (D:Nat→Prop) (ι:Nat→Reg):List (Nat×Value)→List (Nat×Value)→Prop where
 |nil:PR D ι [] []
 |cons (i:Nat) (a b:Value) (r s:List (Nat×Value)) (h:VR D ι a b) (hr:PR D ι r s):PR D ι ((i,a)::r) ((i,b)::s)
theorem aFill_run (place:Nat→Option (Nat×Nat)) {ps qs:List (Nat×Value)} (hpr:PR D ι ps qs):∀(cs cs':List Value) (c:Array Value),aFill place cs ps=some cs'→AR D ι cs.toArray c→
  ∃c',Instr.fill place c qs=some c'∧AR D ι cs'.toArray c':=by
 induction hpr with
 |nil=>
  intro cs cs' c h hc;simp only[aFill,Option.some.injEq] at h;subst h;exact⟨c,rfl,hc⟩
 |cons i a b r s hab _ ih=>
  intro cs cs' c h hc;simp only[aFill] at h
  split at h
  ·rename_i off size hp;cases hb:(Nat.beq a.cells.toList.length size&&Nat.ble (off+a.cells.toList.length) cs.length&&notJ a)
   ·rw[hb] at h;cases h
   ·rw[hb,cond_true] at h;rw[Bool.and_eq_true,Bool.and_eq_true] at hb;have b1:=Nat.eq_of_beq_eq_true hb.1.1;have b2:=Nat.le_of_ble_eq_true hb.1.2;have hz:a.cells.toList.length=b.cells.size:=by simpa using(hab.cells hb.2).1
    have hcs:cs.length=c.size:=by simpa using hc.1
    split at h
    ·rename_i cs1 hl;obtain⟨g1,g2,g3⟩:=lput_spec _ _ _ _ hl;have hset:=setL_get b.cells.toList c off;have hbl:b.cells.toList.length=b.cells.size:=by simp
     have hc1:AR D ι cs1.toArray (setL c off b.cells.toList):=by
      refine⟨by rw[setL_size];simp;omega,fun k v v' hv hv'=> ?_⟩;rw[hset k (by omega)] at hv';simp only[List.getElem?_toArray] at hv;rw[g3 k] at hv;by_cases hk:off≤k∧k<off+a.cells.toList.length
      ·rw[if_pos hk] at hv;rw[if_pos (by omega)] at hv';exact(hab.cells hb.2).2 (k-off) v v' (by simpa using hv) (by simpa using hv')
      ·rw[if_neg hk] at hv;rw[if_neg (by omega)] at hv';exact hc.2 k v v' (by simpa using hv) hv'
     obtain⟨c',e1,e2⟩:=ih cs1 cs' _ h hc1;refine⟨c',?_,e2⟩;simp only[Instr.fill,hp];have d1:decide (b.cells.size≠size)=false:=decide_eq_false (by omega);have d2:decide (off+b.cells.size>c.size)=false:=decide_eq_false (by omega);simp only[d1,d2,Bool.or_self,Bool.false_eq_true,if_false];have hfold:b.cells.zipIdx.foldl (fun cs (x:Value×Nat)=>cs.setIfInBounds (off+x.2) x.1) c=setL c off b.cells.toList:=by
      rw[←Array.foldl_toList,Array.toList_zipIdx];exact fold_setL _ 0 off c
     rw[←e1,←hfold]
    ·cases h
  ·cases h
def aPlaces (T:TE):List Field→Option (List (Nat×Nat))
 |[]=>some []
 |f::fs=>match T.inf f.type with
  |some i=>match aPlaces T fs with
   |some r=>some ((f.offset,i.size)::r)
   |none=>none
  |none=>none
include hT
theorem aPlaces_run:∀(fs:List Field) (l:List (Nat×Nat)) (w:World),aPlaces T fs=some l→(fs.mapM fun f=>(do Pure.pure (f.offset,←Go.sizeOf f.type):Sem (Nat×Nat))).run P w=.ok l w
 |[],l,w,h=>by
  simp only[aPlaces,Option.some.injEq] at h;subst h;rfl
 |f::fs,l,w,h=>by
  simp only[aPlaces] at h
  split at h
  ·rename_i i hi
   split at h
   ·rename_i r hr;cases h;have ih:=aPlaces_run fs r w hr;simp only[List.mapM_cons,Sem.run_bind,run_siz hT hi,Result.andThen_ok,Sem.run_pure] at ih⊢;rw[ih];rfl
   ·cases h
  ·cases h
omit hT
def aBuild (T:TE) (t:TypeId) (ps:List (Nat×Value)):Option Value:=
 match T.inf t with
 |some i=>match i.zero with
  |some z=>bif plainN 8 z then match T.und t with
    |some (.struct fs)=>match aPlaces T fs.toList with
     |some pl=>match aFill (fun k=>pl[k]?) z.cells.toList ps with
      |some cs=>some (.agg cs.toArray)
      |none=>none
     |none=>none
    |some (.array _ elem)=>match T.inf elem with
     |some e=>match aFill (fun k=>some (k*e.size,e.size)) z.cells.toList ps with
      |some cs=>some (.agg cs.toArray)
      |none=>none
     |none=>none
    |_=>none
   else none
  |none=>none
 |none=>none
include hT
theorem aBuild_sound {t:TypeId} {ps:List (Nat×Value)} {qs:Array (Nat×Value)} {v:Value} (h:aBuild T t ps=some v) (hp:PR D ι ps qs.toList):Sound P D ι σ w (Instr.build t qs) ⟨v,σ,.nil⟩:=by
 unfold aBuild at h
 split at h
 ·rename_i i hi
  split at h
  ·rename_i z hz;cases hpl:plainN 8 z
   ·rw[hpl] at h;cases h
   ·rw[hpl,cond_true] at h;have hzz:AR D ι z.cells.toList.toArray z.cells:=by simpa using(plain_refl 8 z hpl:VR D ι z z).cells (plain_notJ hpl)
    split at h
    ·rename_i fs hu
     split at h
     ·rename_i pl hpl
      split at h
      ·rename_i cs hf;cases h;obtain⟨c,e1,e2⟩:=aFill_run _ hp _ _ _ hf hzz;refine Sound.pure (v':=.agg c) ?_ (.agg _ _ e2.1 e2.2);have hm:(fs.mapM fun f=>(do Pure.pure (f.offset,←Go.sizeOf f.type):Sem (Nat×Nat))).run P w=.ok pl.toArray w:=by
        rw[Array.mapM_eq_mapM_toList,Sem.run_map,aPlaces_run hT _ _ _ hpl];rfl
       simp only[Instr.build,Sem.run_bind,run_zero hT hi hz,Result.andThen_ok,run_und hT hu];rw[hm];simp only[Result.andThen_ok,List.getElem?_toArray,e1,Sem.run_pure]
      ·cases h
     ·cases h
    ·rename_i n elem hu
     split at h
     ·rename_i e he
      split at h
      ·rename_i cs hf;cases h;obtain⟨c,e1,e2⟩:=aFill_run _ hp _ _ _ hf hzz;refine Sound.pure (v':=.agg c) ?_ (.agg _ _ e2.1 e2.2);simp only[Instr.build,Sem.run_bind,run_zero hT hi hz,Result.andThen_ok,run_und hT hu,run_siz hT he,e1,Sem.run_pure]
      ·cases h
     ·cases h
    ·cases h
  ·cases h
 ·cases h
omit hT
def aBuildSlice (T:TE) (σ:St) (t:TypeId) (len:Nat) (ps:List (Nat×Value)):Option R:=
 match T.und t with
 |some (.slice elem)=>match T.inf elem with
  |some e=>match e.zero with
   |some z=>bif plainN 8 z&&Nat.beq z.cells.size e.size&&Nat.ble (len*e.size) 16777216&&Nat.blt len unk then
     match aFill (fun k=>some (k*e.size,e.size)) (repL len z.cells.toList) ps with
     |some cs=>bif Nat.beq (Nat.mod cs.length e.size) 0 then some ⟨.slice (some ⟨σ.next,0,none⟩) len len,σ.new (.row cs elem false),.nil⟩ else none
     |none=>none
    else none
   |none=>none
  |none=>none
 |_=>none
theorem repL_AR {z:Array Value} (hz:AR D ι z z) (n:Nat):AR D ι (repL n z.toList).toArray (repL n z.toList).toArray:=
 ⟨rfl,fun k v v' h h'=>by
  rw[h] at h';cases h';simp only[List.getElem?_toArray] at h;have hlt:k<n*z.toList.length:=by
   rcases Nat.lt_or_ge k (n*z.toList.length) with hh|hh
   ·exact hh
   ·rw[List.getElem?_eq_none (by rw[repL_len];exact hh)] at h;cases h
  rw[repL_get _ _ _ hlt] at h;have h:z[k%z.toList.length]?=some v:=by simpa using h
  exact hz.2 _ v v h h⟩
include hT
theorem aBuildSlice_sound {t:TypeId} {len:Nat} {ps:List (Nat×Value)} {qs:Array (Nat×Value)} {r:R} (h:aBuildSlice T σ t len ps=some r) (hp:PR D ι ps qs.toList):Sound P D ι σ w (Instr.buildSlice t len qs) r:=by
 unfold aBuildSlice at h
 split at h
 ·rename_i elem hu
  split at h
  ·rename_i e he
   split at h
   ·rename_i z hz;cases hb:(plainN 8 z&&Nat.beq z.cells.size e.size&&Nat.ble (len*e.size) 16777216&&Nat.blt len unk)
    ·rw[hb] at h;cases h
    ·rw[hb,cond_true] at h;simp only[Bool.and_eq_true] at hb;obtain⟨⟨⟨b1,b2⟩,b3⟩,b4⟩:=hb;have b2:=Nat.eq_of_beq_eq_true b2;have b3:=Nat.le_of_ble_eq_true b3;have b4:len<unk:=by simpa using b4
     split at h
     ·rename_i cs hf;cases hmod:Nat.beq (Nat.mod cs.length e.size) 0
      ·rw[hmod] at h;cases h
      rw[hmod,cond_true] at h;have hmod:cs.length%e.size=0:=Nat.eq_of_beq_eq_true hmod;cases h;have hzz:AR D ι z.cells z.cells:=(plain_refl 8 z b1:VR D ι z z).cells (plain_notJ b1);obtain⟨c,e1,e2⟩:=aFill_run _ hp _ _ _ hf (repL_AR hzz len);refine⟨by simp[St.new],fun hw=>⟨St.new_wf hw _,AFr.new _ _ _⟩,fun hw hD _=> ?_⟩
      have hDn:¬D σ.next:=hD _ (by simp[St.rng,St.new]);refine⟨.slice (some ⟨w.heap.size,0,none⟩) len len,upd ι σ.next (rg w.heap.size 0 c.size e.size),{ w with heap:=w.heap.push (.cells c elem (0,0))},?_,?_,?_⟩
      ·have hno:¬(len*e.size>2^24):=by omega
       simp only[Instr.buildSlice,Sem.run_bind,run_und hT hu,Result.andThen_ok,run_siz hT he];rw[if_neg hno];by_cases hn:len*e.size=0
       ·rw[if_pos hn];have h0:repL len z.cells.toList=[]:=List.length_eq_zero_iff.1 (by rw[repL_len];simp[b2,hn]);have hr:∀f:Nat→Value,Array.map f (Array.range 0)=#[]:=fun f=>Array.eq_empty_of_size_eq_zero (by simp)
        rw[h0] at e1;simp only[Sem.run_bind,Sem.run_pure,Result.andThen_ok,hn,hr,newRow,run_newObj,e1]
       ·rw[if_neg hn];rw[←repL_eq,b2] at e1;simp only[Sem.run_bind,run_zero hT he hz,Sem.run_pure,Result.andThen_ok,newRow,run_newObj,b2,e1]
      ·have:=VR.slK (D:=fun i=>D i∨σ.rng (σ.new (.row cs elem false)) i) (ι:=upd ι σ.next (rg w.heap.size 0 c.size e.size)) σ.next 0 len len (.inr (St.rng_new.2 rfl)) (by omega);rw[upd_eq] at this;exact this
      ·refine Post.new hw hDn ?_ ?_ (fun o _ h=>by omega) ?_ rfl rfl rfl rfl rfl
       ·have:=e2.1;simp at this;omega
       ·intro j hj;rw[hT.inf _ _ he] at hj;cases hj;have hl:cs.length=c.size:=by simpa using e2.1
        exact⟨rfl,by rw[←hl];exact hmod⟩
       ·intro k v hk;have hlt:k<c.size:=by
         have:=e2.1;simp at this;rcases Nat.lt_or_ge k cs.length with h|h
         ·omega
         ·rw[List.getElem?_eq_none h] at hk;cases hk
        exact⟨c[k],Array.getElem?_eq_getElem hlt,e2.2 k v c[k] (by simpa using hk) (Array.getElem?_eq_getElem hlt)⟩
     ·cases h
   ·cases h
  ·cases h
 ·cases h
omit hT
end
end Go.Eng
end
end
section
noncomputable section
namespace Go.Eng
open Go
section
variable {P:Program} {T:TE} (hT:T.OK P) {D:Nat→Prop} {ι:Nat→Reg} {σ:St} {w:World}
def aRange (T:TE) (σ:St) (t:TypeId) (x:Value):Option R:=
 match x with
 | .string s=>match T.und t with
   |some .string=>some ⟨.pointer (some ⟨σ.next,0,none⟩),σ.new (.iter s 0),.nil⟩
   |_=>none
 |_=>none
include hT
theorem aRange_sound {t:TypeId} {x x':Value} {r:R} (h:aRange T σ t x=some r) (hx:VR D ι x x'):Sound P D ι σ w (Instr.range t x') r:=by
 unfold aRange at h
 split at h
 ·rename_i s;cases hx
  split at h
  ·rename_i hu;cases h;refine⟨by simp[St.new],fun hw=>⟨St.new_wf hw _,AFr.new _ _ _⟩,fun hw _ _=> ?_⟩;refine⟨.pointer (some ⟨w.heap.size,0,none⟩),upd ι σ.next (rg w.heap.size 0 0 0),{ w with heap:=w.heap.push (.stringIter s 0)},?_,?_,Post.newIter hw⟩
   ·simp only[Instr.range,Sem.run_bind,run_und hT hu,Result.andThen_ok,Sem.run_pure,run_newObj]
   ·have:=VR.ptr (D:=fun i=>D i∨σ.rng (σ.new (.iter s 0)) i) (ι:=upd ι σ.next (rg w.heap.size 0 0 0)) σ.next 0 (.inr (St.rng_new.2 rfl));rw[upd_eq] at this;exact this
  ·cases h
 ·cases h
omit hT
def aNext (σ:St) (it:Value) (isString:Bool):Option R:=
 match it with
 | .pointer (some ⟨id,0,none⟩)=>match isString,σ.heap.get id with
   |true,some (.iter s pos)=>bif Nat.blt pos s.size then
    match Utf8.decode s pos with
    |(c,wd)=>some ⟨.tuple #[.bool true,goInt pos,.int .i32 c],σ.put id (some (.iter s (pos+wd))),⟨[],[],[],[id]⟩⟩
    else some ⟨.tuple #[.bool false],σ,⟨[],[id],[],[]⟩⟩
   |_,_=>none
 |_=>none
theorem run_getIter (P:Program) (w:World) {b:Nat} {s:ByteArray} {pos:Nat} (h:w.heap[b]?=some (.stringIter s pos)):(getObj b).run P w=.ok (.stringIter s pos) w:=by
 simp only[getObj,Sem.run,h]
theorem run_setIter (P:Program) (w:World) {b:Nat} {s:ByteArray} {pos:Nat} (h:w.heap[b]?=some (.stringIter s pos)) (o:Obj):(setObj b o).run P w=.ok () { w with heap:=w.heap.setIfInBounds b o}:=by
 simp only[setObj,Sem.run,h]
theorem aNext_sound {it it':Value} {isString:Bool} {ty:TypeId} {r:R} (h:aNext σ it isString=some r) (hx:VR D ι it it'):Sound P D ι σ w (Instr.next it' isString ty) r:=by
 unfold aNext at h
 split at h
 ·rename_i id;obtain⟨rfl,hD⟩:=hx.ptr_inv
  split at h
  ·rename_i s pos hg;have hlk:∀φ:Foot,φ.Fi id→HOn P D ι σ.H φ w→w.heap[(ι id).blk]?=some (.stringIter s pos)∧(ι id).base=0∧(ι id).own=true∧∀b,¬(ι id).Fz b:=fun φ hf ho=>ho.hd id _ hf (St.hdr_of hg)
   cases hb:Nat.blt pos s.size
   ·rw[hb,cond_false] at h;cases h;refine Sound.same (w':=w) (v':=.tuple #[.bool false]) (fun ho=> ?_) rfl rfl;obtain⟨e1,e2, -⟩:=hlk _ (.inr (.inl (by simp))) ho;refine⟨?_,plain_refl 3 _ rfl,rfl,rfl,rfl⟩;have hn:¬pos<s.size:=by
     intro h;have:Nat.blt pos s.size=true:=by simpa using h
     rw[this] at hb;cases hb
    simp only[e2,Nat.zero_add,Instr.next,Sem.run_bind,run_getIter P w e1,Result.andThen_ok,if_neg hn,Sem.run_pure]
   ·rw[hb,cond_true] at h;have hlt:pos<s.size:=by simpa using hb
    split at h
    rename_i c wd hdec;cases h;refine⟨Nat.le_refl _,fun hw=>⟨St.put_wf hw (St.lv_lt hw (St.lv_of hg)) _,AFr.whole (by simp)⟩,fun hw _ ho=> ?_⟩;obtain⟨e1,e2,e3⟩:=hlk _ (.inr (.inr (.inr (by simp)))) ho;refine⟨.tuple #[.bool true,goInt pos,.int .i32 c],ι,_,?_,plain_refl 3 _ rfl,Post.setIter hg ⟨e1,e2,e3⟩⟩
    simp only[e2,Nat.zero_add,Instr.next,Sem.run_bind,run_getIter P w e1,Result.andThen_ok,if_pos hlt,hdec,run_setIter P w e1,Sem.run_pure]
  ·cases h
 ·cases h
def beqL:List UInt8→List UInt8→Bool
 |[],[]=>true
 |a::x,b::y=>bif Nat.beq a.toNat b.toNat then beqL x y else false
 |_,_=>false
theorem beqL_eq:∀(x y:List UInt8),beqL x y=(x==y)
 |[],[]=>rfl
 |[],_::_=>rfl
 |_::_,[]=>rfl
 |a::x,b::y=>by
  simp only[beqL,List.cons_beq_cons,beqL_eq x y];by_cases h:a=b
  ·subst h;rw[beq_t rfl];simp
  ·have:a.toNat≠b.toNat:=fun e=>h (UInt8.toNat_inj.1 e)
   rw[beq_f this];simp[h]
def bltL:List UInt8→List UInt8→Bool
 |_,[]=>false
 |[],_::_=>true
 |a::x,b::y=>bif Nat.blt a.toNat b.toNat then true else bif Nat.beq a.toNat b.toNat then bltL x y else false
theorem bltL_eq:∀(x y:List UInt8),bltL x y=Op.bytesLess x y
 |[],[]=>rfl
 |[],_::_=>rfl
 |_::_,[]=>rfl
 |a::x,b::y=>by
  simp only[bltL,Op.bytesLess,bltL_eq x y];by_cases h1:a<b
  ·have:Nat.blt a.toNat b.toNat=true:=by
    have:=UInt8.lt_iff_toNat_lt.1 h1;simpa using this
   simp[h1,this]
  ·have h2:Nat.blt a.toNat b.toNat=false:=by
    cases hb:Nat.blt a.toNat b.toNat
    ·rfl
    ·have:a.toNat<b.toNat:=by simpa using hb
     exact absurd (UInt8.lt_iff_toNat_lt.2 this) h1
   by_cases h:a=b
   ·subst h;simp
   ·have:a.toNat≠b.toNat:=fun e=>h (UInt8.toNat_inj.1 e)
    simp[h1,h2,beq_f this,h]
theorem bytes_toList (s:ByteArray):s.toList=s.data.toList:=by
 have key:∀(n i:Nat) (r:List UInt8),s.size-i=n→ByteArray.toList.loop s i r=r.reverse++s.data.toList.drop i:=by
  intro n
  induction n with
  |zero=>
   intro i r h;unfold ByteArray.toList.loop;rw[if_neg (by omega)];have:s.data.toList.length≤i:=by simp;omega
   rw[List.drop_eq_nil_of_le this];simp
  |succ n ih=>
   intro i r h;unfold ByteArray.toList.loop;rw[if_pos (by omega),ih (i+1) _ (by omega)];have hi:i<s.data.toList.length:=by simp;omega
   rw[List.drop_eq_getElem_cons hi];have hi2:i<s.data.size:=by simpa using hi
   have:s.get! i=s.data.toList[i]:=by
    simp only[ByteArray.get!,getElem!_def,Array.getElem?_eq_getElem hi2,Array.getElem_toList]
   simp[this]
 unfold ByteArray.toList;rw[key _ 0 [] rfl];simp
def strBin (op:BinOp) (x y:ByteArray):Option Value:=
 match op with
 | .add=>bif Nat.ble (x.size+y.size) 1099511627776 then some (.string ⟨(x.data.toList++y.data.toList).toArray⟩) else none
 | .eql=>some (.bool (beqL x.data.toList y.data.toList))
 | .neq=>some (.bool (!beqL x.data.toList y.data.toList))
 | .lss=>some (.bool (bltL x.data.toList y.data.toList))
 | .leq=>some (.bool (bltL x.data.toList y.data.toList||beqL x.data.toList y.data.toList))
 | .gtr=>some (.bool (!(bltL x.data.toList y.data.toList||beqL x.data.toList y.data.toList)))
 | .geq=>some (.bool (!bltL x.data.toList y.data.toList))
 |_=>none
theorem strBin_run {op:BinOp} {x y:ByteArray} {v:Value} (h:strBin op x y=some v) (w:World):(Op.stringOp op x y).run P w=.ok v w:=by
 cases op<;>simp only[strBin] at h<;>try cases h
 case add=>
  cases hb:Nat.ble (x.size+y.size) 1099511627776
  ·rw[hb] at h;cases h
  ·rw[hb] at h;have hb:=Nat.le_of_ble_eq_true hb;cases h;have hn:¬(((x.size+y.size:Nat):Int)>IntKind.i64.max):=by
    show ¬(((x.size+y.size:Nat):Int)>2^63-1);omega
   simp only[Op.stringOp,if_neg hn,Sem.run_pure];congr 2
 all_goals simp only[Op.stringOp,bytes_toList,beqL_eq,bltL_eq,Sem.run_pure]
def intBin (op:BinOp) (k:IntKind) (a b:Int):Option Value:=
 match op with
 | .add=>some (.int k (k.wrap (a+b)))
 | .sub=>some (.int k (k.wrap (a-b)))
 | .mul=>some (.int k (k.wrap (a*b)))
 | .quo=>if b=0 then none else some (.int k (k.wrap (a.tdiv b)))
 | .rem=>if b=0 then none else some (.int k (a.tmod b))
 | .and=>some (.int k (k.wrap (BitVec.ofInt k.bits a&&&BitVec.ofInt k.bits b).toNat))
 | .or=>some (.int k (k.wrap (BitVec.ofInt k.bits a|||BitVec.ofInt k.bits b).toNat))
 | .xor=>some (.int k (k.wrap (BitVec.ofInt k.bits a^^^BitVec.ofInt k.bits b).toNat))
 | .andNot=>some (.int k (k.wrap (BitVec.ofInt k.bits a&&& ~~~BitVec.ofInt k.bits b).toNat))
 | .eql=>some (.bool (a==b))
 | .neq=>some (.bool (a !=b))
 | .lss=>some (.bool (decide (a<b)))
 | .leq=>some (.bool (decide (a≤b)))
 | .gtr=>some (.bool (decide (a>b)))
 | .geq=>some (.bool (decide (a≥b)))
 |_=>none
theorem intBin_run {op:BinOp} {t:TypeId} {k:IntKind} {a b:Int} {v:Value} (h:intBin op k a b=some v) (w:World):(binOp op t (.int k a) (.int k b)).run P w=.ok v w:=by
 cases op<;>simp only[intBin] at h<;>try cases h
 case quo=>
  split at h
  ·cases h
  ·rename_i hb;cases h;simp[binOp,Op.intDiv,hb]
 case rem=>
  split at h
  ·cases h
  ·rename_i hb;cases h;simp[binOp,Op.intDiv,hb]
 all_goals simp[binOp,Op.intArith,Op.intBits,Op.intCmp]
def shBin (op:BinOp) (k:IntKind) (a b:Int):Option Value:=
 if b<0 then none else
 match op with
 | .shl=>some (.int k (k.wrap (a*2^(min b.toNat k.bits))))
 | .shr=>some (.int k (a.fdiv (2^(min b.toNat k.bits))))
 |_=>none
theorem shBin_run {op:BinOp} {t:TypeId} {k k':IntKind} {a b:Int} {v:Value} (h:shBin op k a b=some v) (w:World):(binOp op t (.int k a) (.int k' b)).run P w=.ok v w:=by
 unfold shBin at h
 split at h
 ·cases h
 ·rename_i hb;cases op<;>simp only at h<;>cases h<;>simp[binOp,Op.shift,hb]
def aEqV (T:TE) (t:TypeId) (x y:Value):Option Bool:=
 match x,y with
 | .bool a,.bool b=>match T.und t with
   |some .bool=>some (a==b)
   |_=>none
 | .pointer none,.pointer b=>match T.und t with
   |some (.pointer _)=>some b.isNone
   |_=>none
 | .pointer (some _),.pointer none=>match T.und t with
   |some (.pointer _)=>some false
   |_=>none
 | .pointer (some ⟨i,o,none⟩),.pointer (some ⟨j,p,none⟩)=>match T.und t with
   |some (.pointer e)=>match T.inf e with
    |some ie=>bif Nat.beq i j&& !Nat.beq ie.size 0 then some (Nat.beq o p) else none
    |none=>none
   |_=>none
 | .slice none _ _,.slice b _ _=>match T.und t with
   |some (.slice _)=>some b.isNone
   |_=>none
 | .slice (some _) _ _,.slice none _ _=>match T.und t with
   |some (.slice _)=>some false
   |_=>none
 | .nilIface,.iface _ _=>match T.und t with
   |some (.interface _)=>some false
   |_=>none
 | .iface _ _,.nilIface=>match T.und t with
   |some (.interface _)=>some false
   |_=>none
 | .func ..,.nilFunc=>match T.und t with
   |some (.func ..)=>some false
   |_=>none
 | .nilFunc,.func .. =>match T.und t with
   |some (.func ..)=>some false
   |_=>none
 |_,_=>none
theorem VR.ptr_shape {a:Addr} {v':Value} (h:VR D ι (.pointer (some a)) v'):∃a',v'=.pointer (some a'):=by
 cases h with
 |ptr id off h=>exact⟨_,rfl⟩
 |pel id i j b o l c h e=>exact⟨_,rfl⟩
theorem VR.sl_shape {a:Addr} {l c:Nat} {v':Value} (h:VR D ι (.slice (some a) l c) v'):∃a' c',v'=.slice (some a') l c':=by
 cases h with
 |slK id off l c h hc=>exact⟨_,_,rfl⟩
 |slU id off l c h h1 h2=>exact⟨_,_,rfl⟩
 |slE id off o' c h h1 h2=>exact⟨_,_,rfl⟩
include hT
theorem aEqV_run {t:TypeId} {x x' y y':Value} {b:Bool} (h:aEqV T t x y=some b) (hx:VR D ι x x') (hy:VR D ι y y') (w:World):
  (Op.equal t x' y').run P w=.ok b w∧(x'=.nilIface→y'≠ .nilIface)∧(∀c,x'≠ .agg c):=by
 have hun:Op.equal t x' y'=Op.equalIn (9999+1) t x' y':=rfl;rw[hun,Op.equalIn];simp only[Sem.run_bind];unfold aEqV at h
 split at h
 ·split at h
  ·rename_i hu;cases h;cases hx;cases hy;exact⟨by simp only[run_und hT hu,Result.andThen_ok,Sem.run_pure]<;>rfl,by simp,by simp⟩
  ·cases h
 ·rename_i bb
  split at h
  ·rename_i e hu;cases h;cases hx;cases bb with
   |none=>cases hy;exact⟨by simp only[run_und hT hu,Result.andThen_ok,Sem.run_pure]<;>rfl,by simp,by simp⟩
   |some a=>obtain⟨a',rfl⟩:=hy.ptr_shape;exact⟨by simp only[run_und hT hu,Result.andThen_ok,Sem.run_pure]<;>rfl,by simp,by simp⟩
  ·cases h
 ·split at h
  ·rename_i hu;cases h;cases hy;obtain⟨a',rfl⟩:=hx.ptr_shape;exact⟨by simp only[run_und hT hu,Result.andThen_ok,Sem.run_pure]<;>rfl,by simp,by simp⟩
  ·cases h
 ·rename_i i o j p
  split at h
  ·rename_i e hu
   split at h
   ·rename_i ie he;cases hb:(Nat.beq i j&& !Nat.beq ie.size 0)
    ·rw[hb] at h;cases h
    ·rw[hb,cond_true] at h;rw[Bool.and_eq_true] at hb;have hij:=Nat.eq_of_beq_eq_true hb.1;subst hij;have hz:ie.size≠0:=fun e=>by rw[e] at hb;cases hb.2
     cases h;obtain⟨rfl,_⟩:=hx.ptr_inv;obtain⟨rfl,_⟩:=hy.ptr_inv;refine⟨?_,by simp,by simp⟩;have:((⟨(ι i).blk,(ι i).base+o,none⟩:Addr)==⟨(ι i).blk,(ι i).base+p,none⟩)=Nat.beq o p:=by
      by_cases e:o=p
      ·subst e;rw[beq_t rfl];simp
      ·rw[beq_f e];simp only[beq_eq_false_iff_ne,ne_eq,Addr.mk.injEq,true_and,and_true];omega
     have hs:(sameAddr ⟨(ι i).blk,(ι i).base+o,none⟩ ⟨(ι i).blk,(ι i).base+p,none⟩).run P w=.ok (Nat.beq o p) w:=by
      simp only[sameAddr,beq_self_eq_true,if_true,Sem.run_pure,this]
     simp only[run_und hT hu,Result.andThen_ok,Sem.run_bind,run_siz hT he,ne_eq,hz,not_false_eq_true,if_true,hs]
   ·cases h
  ·cases h
 ·rename_i bb l c
  split at h
  ·rename_i hu;cases h;cases hx;cases bb with
   |none=>cases hy;exact⟨by simp only[run_und hT hu,Result.andThen_ok,Sem.run_pure]<;>rfl,by simp,by simp⟩
   |some a=>obtain⟨a',c',rfl⟩:=hy.sl_shape;exact⟨by simp only[run_und hT hu,Result.andThen_ok,Sem.run_pure]<;>rfl,by simp,by simp⟩
  ·cases h
 ·split at h
  ·rename_i hu;cases h;cases hy;obtain⟨a',c',rfl⟩:=hx.sl_shape;exact⟨by simp only[run_und hT hu,Result.andThen_ok,Sem.run_pure]<;>rfl,by simp,by simp⟩
  ·cases h
 ·split at h
  ·rename_i hu;cases h;cases hx;cases hy;exact⟨by simp only[run_und hT hu,Result.andThen_ok,Sem.run_pure]<;>rfl,by simp,by simp⟩
  ·cases h
 ·split at h
  ·rename_i hu;cases h;cases hx;cases hy;exact⟨by simp only[run_und hT hu,Result.andThen_ok,Sem.run_pure]<;>rfl,by simp,by simp⟩
  ·cases h
 ·split at h
  ·rename_i hu;cases h;cases hx;cases hy;exact⟨by simp only[run_und hT hu,Result.andThen_ok,Sem.run_pure]<;>rfl,by simp,by simp⟩
  ·cases h
 ·split at h
  ·rename_i hu;cases h;cases hx;cases hy;exact⟨by simp only[run_und hT hu,Result.andThen_ok,Sem.run_pure]<;>rfl,by simp,by simp⟩
  ·cases h
 ·cases h
omit hT
end
end Go.Eng
end
end
section
noncomputable section
namespace Go.Eng
open Go
section
variable {P:Program} {T:TE} (hT:T.OK P) {D:Nat→Prop} {ι:Nat→Reg} {σ:St} {w:World}
def aToUns (T:TE) (σ:St) (t:TypeId) (x:Value):Option R:=
 match x with
 | .pointer none=>some ⟨.pointer none,σ,.nil⟩
 | .pointer (some ⟨id,off,none⟩)=>match σ.heap.get id,T.inf t with
   |some (.row cs _ _),some j=>bif Nat.ble (off+1) cs.length&& !Nat.beq j.size 0 then some ⟨.pointer (some ⟨id,off,none⟩),σ,⟨[(id,off)],[],[],[]⟩⟩ else none
   |_,_=>none
 |_=>none
def aFromUns (T:TE) (σ:St) (t:TypeId) (x:Value):Option R:=
 match x with
 | .pointer none=>some ⟨.pointer none,σ,.nil⟩
 | .pointer (some ⟨id,off,none⟩)=>match σ.heap.get id,T.inf t with
   |some (.row cs e false),some j=>bif Nat.beq e t&&Nat.beq (Nat.mod off j.size) 0&&Nat.ble (off+j.size) cs.length&& !Nat.beq j.size 0 then some ⟨.pointer (some ⟨id,off,none⟩),σ,⟨[(id,off)],[],[],[]⟩⟩ else none
   |_,_=>none
 |_=>none
def aSliceData (x:Value):Option Value:=
 match x with
 | .slice none _ _=>some (.pointer none)
 | .slice (some ⟨id,off,none⟩) l c=>bif Nat.beq c unk then bif Nat.beq l 0 then none else some (.pointer (some ⟨id,off,none⟩)) else bif Nat.beq c 0 then none else some (.pointer (some ⟨id,off,none⟩))
 |_=>none
def aUString (T:TE) (σ:St) (pt:TypeId) (x:Value) (n:Int):Option R:=
 match n with
 | .ofNat 0=>match x with
   | .pointer _=>some ⟨.string .empty,σ,.nil⟩
   |_=>none
 | .ofNat n=>match x,T.und pt with
   | .pointer (some ⟨id,off,none⟩),some (.pointer e)=>match σ.heap.get id,T.inf e with
     |some (.row cs elem false),some j=>bif Nat.beq e elem&&Nat.beq j.size 1&&Nat.ble n 9223372036854775807 then
      match lslice cs off n with
      |some l=>match bytesOfV l with
       |some b=>some ⟨.string ⟨b.toArray⟩,σ.put id (some (.row cs elem true)),⟨[],[],[],[id]⟩⟩
       |none=>none
      |none=>none
      else none
     |_,_=>none
   |_,_=>none
 |_=>none
theorem lies_self {p:Program} {u count off s n:Nat} (hs:p.cellsOf u=s) (h0:s≠0) (h1:off%s=0) (h2:off/s+n≤count):liesAt p p.depth u count off u n=true:=by
 have hd:p.depth=(2*(p.types.size+Made.depth)+1)+1:=rfl;rw[hd];unfold liesAt;rw[Bool.or_eq_true];refine .inl ?_;rw[hd];unfold rowAt;simp only[hs,if_neg h0];rw[Bool.or_eq_true];refine .inl ?_;have:sameLayout p (2*(p.types.size+Made.depth)+1+1) u u=true:=by
  unfold sameLayout;rw[Bool.or_eq_true];exact .inl (by simp)
 simp only[h1,this,BEq.rfl,Bool.true_and,Bool.and_true,decide_eq_true_eq];exact h2
theorem run_load_of {w:World} {a:Addr} {v:Value} (h:w.cell? a=some v):(load a).run P w=.ok v w:=by
 simp[load,Sem.run,h]
theorem bytesOfV_int:∀{l:List Value} {b:List UInt8},bytesOfV l=some b→∀{j:Nat} {v:Value},l[j]?=some v→∃m,v=.int .u8 m
 |[],_,_,_,_,h=>by simp at h
 |v::l,b,hb,j,u,h=>by
  simp only[bytesOfV] at hb
  split at hb
  ·rename_i b0 hb0
   split at hb
   ·rename_i br hbr;obtain⟨n,rfl,_⟩:=byteOfV_spec hb0;rcases j with _|j
    ·simp at h;exact⟨n,h.symm⟩
    ·exact bytesOfV_int hbr (by simpa using h)
   ·cases hb
  ·cases hb
theorem shape_of {w:World} {b:Nat} {c:Array Value} {e:TypeId} {fr:Nat×Nat} (h:w.heap[b]?=some (.cells c e fr)):w.shape? b=some (e,c.size):=by
 simp[World.shape?,h]
include hT
theorem aToUns_sound {src dst t:TypeId} {x x':Value} {r:R} (hs:P.underlying src=some (.pointer t)) (hd:P.underlying dst=some .unsafePointer) (h:aToUns T σ t x=some r) (hx:VR D ι x x'):
  Sound P D ι σ w (convert src dst x') r:=by
 unfold aToUns at h
 split at h
 ·cases h;cases hx;refine Sound.pure (v':=.pointer none) ?_ .ptrN;simp only[convert,Sem.run_bind,run_underlying hs,run_underlying hd,Result.andThen_ok,Conv.unsafePointer,Sem.run_pure]
 ·rename_i id off;obtain⟨rfl,hD⟩:=hx.ptr_inv
  split at h
  ·rename_i cs e ro j hg hj;cases hb:(Nat.ble (off+1) cs.length&& !Nat.beq j.size 0)
   ·rw[hb] at h;cases h
   ·rw[hb,cond_true] at h;cases h;rw[Bool.and_eq_true] at hb;obtain⟨b1,b2⟩:=hb;have b1:=Nat.le_of_ble_eq_true b1;have b2:j.size≠0:=fun e=>by rw[beq_t e] at b2;cases b2
    refine Sound.same (w':=w) (v':=.pointer (some ⟨(ι id).blk,(ι id).base+off,none⟩)) (fun ho=> ?_) rfl rfl;obtain⟨c,e',fr,e1,e2,e3,_⟩:=ho.hd id _ (.inl ⟨off,by simp⟩) (St.hdr_of hg);exact⟨Lib.run_to_unsafe w _ hs hd (hT.inf _ _ hj) b2 (shape_of e1) (by simp only;omega),.ptr id off hD,rfl,rfl,rfl⟩
  ·cases h
 ·cases h
theorem aFromUns_sound {src dst t:TypeId} {x x':Value} {r:R} (hs:P.underlying src=some .unsafePointer) (hd:P.underlying dst=some (.pointer t)) (h:aFromUns T σ t x=some r) (hx:VR D ι x x'):
  Sound P D ι σ w (convert src dst x') r:=by
 unfold aFromUns at h
 split at h
 ·cases h;cases hx;refine Sound.pure (v':=.pointer none) ?_ .ptrN;simp only[convert,Sem.run_bind,run_underlying hs,run_underlying hd,Result.andThen_ok,Conv.unsafePointer,Sem.run_pure]
 ·rename_i id off;obtain⟨rfl,hD⟩:=hx.ptr_inv
  split at h
  ·rename_i cs e j hg hj;cases hb:(Nat.beq e t&&Nat.beq (Nat.mod off j.size) 0&&Nat.ble (off+j.size) cs.length&& !Nat.beq j.size 0)
   ·rw[hb] at h;cases h
   ·rw[hb,cond_true] at h;cases h;rw[Bool.and_eq_true,Bool.and_eq_true,Bool.and_eq_true] at hb;obtain⟨⟨⟨b0,b1⟩,b2⟩,b3⟩:=hb;have b0:=Nat.eq_of_beq_eq_true b0;have b1:off%j.size=0:=Nat.eq_of_beq_eq_true b1;have b2:=Nat.le_of_ble_eq_true b2;have b3:j.size≠0:=fun e=>by rw[beq_t e] at b3;cases b3
    subst b0;refine Sound.same (w':=w) (v':=.pointer (some ⟨(ι id).blk,(ι id).base+off,none⟩)) (fun ho=> ?_) rfl rfl;obtain⟨c,e',fr,e1,e2,e3,eo,e45⟩:=ho.hd id _ (.inl ⟨off,by simp⟩) (St.hdr_of hg);obtain⟨e0,e4,e5⟩:=e45 rfl;obtain⟨g1,g2,g3⟩:=e4 _ (hT.inf _ _ hj);rw[e0] at e1;have hc:P.cellsOf e=j.size:=by simp[Program.cellsOf,hT.inf _ _ hj]
    refine⟨Lib.run_from_unsafe w _ hs hd (hT.inf _ _ hj) (shape_of e1) (lies_self hc b3 ?_ ?_),.ptr id off hD,rfl,rfl,rfl⟩
    ·simp only;rw[Nat.add_mod,g2,b1];simp
    ·simp only;rw[hc];have hle:(ι id).base+off+j.size≤c.size:=by omega
     have:((ι id).base+off+j.size)/j.size≤c.size/j.size:=Nat.div_le_div_right hle;rwa[Nat.add_div_right _ (Nat.pos_of_ne_zero b3)] at this
  ·cases h
 ·cases h
omit hT
theorem aSliceData_sound {ts:Array TypeId} {ty:TypeId} {x x' v:Value} (h:aSliceData x=some v) (hx:VR D ι x x'):Sound P D ι σ w (Builtin.unsafeSliceData_ ts ty #[x']) ⟨v,σ,.nil⟩:=by
 unfold aSliceData at h
 split at h
 ·cases h;cases hx;exact Sound.pure rfl .ptrN
 ·rename_i id off l c;have key:∀(a:Addr) (l c:Nat),c≠0→(Builtin.unsafeSliceData_ ts ty #[.slice (some a) l c]).run P w=.ok (.pointer (some a)) w:=fun a l c hc=>Lib.run_unsafeSliceData_row _ _ _ _ _ _ hc
  cases hb:Nat.beq c unk
  ·rw[hb,cond_false] at h;cases hc:Nat.beq c 0
   ·rw[hc] at h;cases h;have hne:c≠0:=fun e=>by rw[beq_t e] at hc;cases hc
    have hnu:c≠unk:=fun e=>by rw[beq_t e] at hb;cases hb
    cases hx with
    |slK _ _ _ _ hD _=>exact Sound.pure (key _ _ _ hne) (.ptr id off hD)
    |slU _ _ _ _ hD _ _=>exact absurd rfl hnu
   ·rw[hc] at h;cases h
  ·rw[hb,cond_true] at h;cases hc:Nat.beq l 0
   ·rw[hc] at h;cases h;have hne:l≠0:=fun e=>by rw[beq_t e] at hc;cases hc
    have hu:=Nat.eq_of_beq_eq_true hb;cases hx with
    |slK _ _ _ _ hD hc=>exact absurd hu hc
    |slU _ _ _ c' hD h1 _=>exact Sound.pure (key _ _ _ (by omega)) (.ptr id off hD)
   ·rw[hc] at h;cases h
 ·cases h
theorem Post.freeze {w w':World} {id:Nat} {cs:List Value} {elem:TypeId} (hg:σ.heap.get id=some (.row cs elem false)) {φ:Foot} (hφ:φ.Fi id) (hall:∀k,φ.Fc id k) (ho:HOn P D ι σ.H φ w)
  {c:Array Value} {e:TypeId} {fr fr':Nat×Nat} (h1:w.heap[(ι id).blk]?=some (.cells c e fr)) (h2:w'.heap[(ι id).blk]?=some (.cells c e fr')) (h3:∀b,b≠(ι id).blk→w'.heap[b]?=w.heap[b]?)
  (h4:w'.heap.size=w.heap.size) (h5:w'.os=w.os) (h6:w'.output=w.output):
  Post P D (σ.rng (σ.put id (some (.row cs elem true)))) ι σ.H w ⟨[],[],[],[id]⟩ ι (σ.put id (some (.row cs elem true))).H w' where
 io:=fun _ _=>rfl
 size:=by omega
 os:=h5
 out:=h6
 hdr:=by
  rintro j x (hx|hx) e
  ·have:j=id:=by simpa[Foot.Wi] using hx
   subst this;rw[St.put_hdr,if_pos rfl] at e;cases e;obtain⟨c0,e0,fr0,g1,g2,g3,g4,_⟩:=ho.hd j _ hφ (St.hdr_of hg);rw[h1] at g1;cases g1;exact⟨c,_,fr',h2,g2,g3,g4,fun h=>by cases h⟩
  ·simp only[St.rng,St.put] at hx;omega
 cel:=by
  rintro j k v (hx|hx) lv e
  ·have:j=id:=by simpa[Foot.Wc] using hx
   subst this;rw[St.put_cell,if_pos rfl] at e;obtain⟨hown,v',hv,hr⟩:=ho.ceR j k v (hall k) (St.hdr_of hg) (by rw[St.cell_of hg];exact e);refine⟨hown,v',.inl ?_,hr.mono (fun _=>.inl) fun _ _=>rfl⟩;simp only[World.cell?,h1,h2] at hv⊢;exact hv
  ·simp only[St.rng,St.put] at hx;omega
 ahdr:=fun j _ hx=>by rw[St.put_hdr,if_neg fun e=>hx (by simp[Foot.Wi,e])]
 acel:=fun j k _ hx=>by rw[St.put_cell,if_neg fun e=>hx (by simp[Foot.Wc,e])]
 cfr:=fun b hb hx=>by
  have:(ι id).blk≠b:=fun e=>hx id (by simp[Foot.Wi]) ⟨_,St.hdr_of hg,rfl⟩ ⟨(ho.hd id _ hφ (St.hdr_of hg)).own_row.1,e⟩
  rw[h3 b (Ne.symm this)];exact ObjBut.refl _ _
 fresh:=fun j hn=>by simp only[St.rng,St.put] at hn;omega
 freshF:=fun j hn=>by simp only[St.rng,St.put] at hn;omega
 dist:=fun i j hn=>by simp only[St.rng,St.put] at hn;omega
 nl:=fun j hn=>by simp only[St.rng,St.put] at hn;omega
 wl:=fun j k hx _=>by
  have:j=id:=by simpa[Foot.Wc] using hx
  subst this;exact St.lv_of hg
 wrm:=fun j _ hx=>by
  by_cases e:j=id
  ·subst e;exact⟨_,St.hdr_of hg,rfl⟩
  ·obtain⟨y,hy,hw⟩:=hx;rw[St.put_hdr,if_neg e] at hy;exact⟨y,hy,hw⟩
 wrow:=fun j k hx hn=>absurd (by rcases hx with hx|hx;cases hx;exact hx) hn
theorem loadBytes_run (g:Nat):∀(l:List Value) (b:List UInt8) (o:Nat) (acc:ByteArray),bytesOfV l=some b→(∀(j:Nat) v,l[j]?=some v→w.cell? ⟨g,o+j,none⟩=some v)→(loadBytes ⟨g,o,none⟩ acc l.length).run P w=.ok ⟨acc.data++b.toArray⟩ w
 |[],b,o,acc,hb,_=>by
  simp only[bytesOfV,Option.some.injEq] at hb;subst hb;simp[loadBytes]
 |v::l,b,o,acc,hb,hc=>by
  simp only[bytesOfV] at hb
  split at hb
  ·rename_i b0 hb0
   split at hb
   ·rename_i br hbr;cases hb;obtain⟨n,rfl,rfl⟩:=byteOfV_spec hb0;have h0:=hc 0 _ rfl;have ih:=loadBytes_run g l br (o+1) (acc.push n.toNat.toUInt8) hbr fun j u hu=>by
     have:=hc (j+1) u (by simpa using hu);rw[←this];congr 2;omega
    have e:(load ⟨g,o,none⟩).run P w=.ok (.int .u8 n) w:=run_load_of h0;simp only[List.length_cons,loadBytes,Sem.run_bind,e,Result.andThen_ok,add_none,ih];congr 1;apply ByteArray.ext;simp
   ·cases hb
  ·cases hb
theorem uString_def (ts:Array TypeId) (ty:TypeId) (a:Addr) (x:Value):Builtin.unsafeString_ ts ty #[.pointer (some a),x]=
 (do
  let n←asInt x
  let some pt:=ts[0]?|stuck "unsafe.String: no argument types"
  if n<0 then runtimePanic (.error "unsafe.String: len out of range")
  if n>IntKind.i64.max then unsupported (.unsafePointer "String: a length above the largest int")
  if n=0 then Pure.pure (.string .empty)
  else if ←variablesAt a (←elemOf pt) n.toNat then do
   let s←loadBytes a .empty n.toNat
   freeze a n.toNat
   Pure.pure (.string s)
  else unsupported (.unsafePointer "String: not so many bytes at ptr")):=rfl
theorem uString_nil (ts:Array TypeId) (ty:TypeId) (x:Value):Builtin.unsafeString_ ts ty #[.pointer none,x]=
 (do
  let n←asInt x;let some _:=ts[0]?|stuck "unsafe.String: no argument types"
  if n<0 then runtimePanic (.error "unsafe.String: len out of range")
  if n>IntKind.i64.max then unsupported (.unsafePointer "String: a length above the largest int")
  if n=0 then Pure.pure (.string .empty)
  else runtimePanic (.error "unsafe.String: ptr is nil and len is not zero")):=rfl
include hT
theorem aUString_sound {ts:Array TypeId} {pt ty:TypeId} {tl:List TypeId} {x x':Value} {k:IntKind} {n:Int} {r:R} (ht:ts.toList=pt::tl) (h:aUString T σ pt x n=some r) (hx:VR D ι x x'):
  Sound P D ι σ w (Builtin.unsafeString_ ts ty #[x',.int k n]) r:=by
 have ht:ts[0]?=some pt:=by rw[←Array.getElem?_toList,ht];rfl
 unfold aUString at h
 have hmax:IntKind.i64.max=9223372036854775807:=rfl
 split at h
 ·split at h
  ·cases h
   have hp:∃a,x'=.pointer a:=by cases hx<;>exact⟨_,rfl⟩
   obtain⟨a,rfl⟩:=hp
   refine Sound.pure (v':=.string .empty) ?_ (.string _)
   cases a<;>simp[uString_def,uString_nil,asInt,asIntOf,hmax,ht]
  ·cases h
 ·rename_i n hn0
  have hn0:n≠0:=fun e=>hn0 (by rw[e])
  split at h
  ·rename_i id off e hu
   obtain⟨rfl,hD⟩:=hx.ptr_inv
   split at h
   ·rename_i cs elem j hg hj
    cases hb:(Nat.beq e elem&&Nat.beq j.size 1&&Nat.ble n 9223372036854775807)
    ·rw[hb] at h;cases h
    ·rw[hb,cond_true] at h
     rw[Bool.and_eq_true,Bool.and_eq_true] at hb
     obtain⟨⟨b0,b1⟩,b2⟩:=hb
     have b0:=Nat.eq_of_beq_eq_true b0
     have b1:=Nat.eq_of_beq_eq_true b1
     have b2:=Nat.le_of_ble_eq_true b2
     split at h
     ·rename_i l hl
      split at h
      ·rename_i b hbv
       cases h
       refine⟨Nat.le_refl _,fun hw=>⟨St.put_wf hw (St.lv_lt hw (St.lv_of hg)) _,AFr.whole (by simp)⟩,fun hw _ ho=> ?_⟩
       have hall:∀k,(⟨[],[],[],[id]⟩:Foot).Fc id k:=fun k=>.inr (.inr (.inr (by simp)))
       obtain⟨c,e',fr,e1,e2,e3,eo,e45⟩:=ho.hd id _ (hall 0).fi (St.hdr_of hg)
       obtain⟨e0,e4,e5⟩:=e45 rfl
       rw[e0] at e1
       obtain⟨q1,q2,q3⟩:=lslice_spec _ _ _ _ hl
       have hcell:∀(j:Nat) v,l[j]?=some v→w.cell? ⟨(ι id).blk,(ι id).base+off+j,none⟩=some v:=by
        intro j v hv
        have hj:j<n:=by
         rcases Nat.lt_or_ge j l.length with h|h
         ·omega
         ·rw[List.getElem?_eq_none h] at hv;cases hv
        obtain⟨-,v',hv',hr⟩:=ho.ceR id (off+j) v (hall _) (St.hdr_of hg) (by rw[St.cell_of hg,←q3 j hj];exact hv)
        have:v'=v:=by
         obtain⟨m,rfl⟩:=bytesOfV_int hbv hv
         cases hr;rfl
        rw[this] at hv'
        rw[←hv',Nat.add_assoc]
       have hlb:=loadBytes_run (P:=P) (w:=w) _ l b _ .empty hbv hcell
       rw[q1] at hlb
       have hcs:P.cellsOf e=1:=by simp[Program.cellsOf,hT.inf _ _ hj,b1]
       have hlies:liesAt P P.depth e (c.size/P.cellsOf e) ((ι id).base+off) e n=true:=lies_self hcs (by decide) (Nat.mod_one _) (by simp only[hcs,Nat.div_one];omega)
       refine⟨.string ⟨b.toArray⟩,ι,w.freeze ⟨(ι id).blk,(ι id).base+off,none⟩ n,?_,.string _,?_⟩
       ·have h63:¬(9223372036854775807:Int)<(n:Int):=by omega
        have hneg:¬(n:Int)<0:=by omega
        have he:((⟨(ByteArray.empty).data++b.toArray⟩:ByteArray))=⟨b.toArray⟩:=by apply ByteArray.ext;simp
        rw[he] at hlb
        rw[←b0] at e1
        simp[uString_def,asInt,asIntOf,hmax,ht,h63,hneg,hn0,variablesAt,shape_of e1,elemOf,run_und hT hu,hlies,hlb]
       ·have hlt:(ι id).blk<w.heap.size:=by
         rcases Nat.lt_or_ge (ι id).blk w.heap.size with h|h
         ·exact h
         ·rw[Array.getElem?_eq_none h] at e1;cases e1
        refine Post.freeze hg (hall 0).fi hall ho e1 (w':=w.freeze ⟨(ι id).blk,(ι id).base+off,none⟩ n) (fr':=if fr.1==fr.2 then((ι id).base+off,(ι id).base+off+n) else(min fr.1 ((ι id).base+off),max fr.2 ((ι id).base+off+n))) ?_ ?_ ?_ ?_ ?_
        ·simp[World.freeze,hn0,Array.getElem?_modify,e1]
        ·intro b hb
         simp[World.freeze,hn0,Array.getElem?_modify,Ne.symm hb]
        ·simp[World.freeze,hn0]
        ·simp[World.freeze,hn0]
        ·simp[World.freeze,hn0]
      ·cases h
     ·cases h
   ·cases h
  ·cases h
 ·cases h
omit hT
end
end Go.Eng
end
end
section
noncomputable section
noncomputable section
namespace Go.Eng
open Go
section
variable {P:Program} {T:TE} (hT:T.OK P) {D:Nat→Prop} {ι:Nat→Reg} {σ:St} {w:World}
def isSy:Value→Bool
 | .tuple a=>match a.toList with
   |[.chan (some 1),_]=>true
   |_=>false
 |_=>false
def unsy (v:Value):Option Value:=
 match v with
 | .tuple a=>match a.toList with
   |[.chan (some 1),v]=>some v
   |_=>none
 | .bool b=>some (.bool b)
 | .int k n=>some (.int k n)
 | .string s=>some (.string s)
 | .float k n=>some (.float k n)
 | .complex k a b=>some (.complex k a b)
 |_=>none
theorem sy_inv {v x':Value} (h:VR D ι (sy v) x'):x'=v∧scal v=true:=by
 cases h with
 |sym _ h=>exact⟨rfl,h⟩
 |tuple as bs hs h=>
  have hb:bs[0]?=some (bs[0]'(by rw[←hs];exact Nat.succ_pos _)):=Array.getElem?_eq_getElem _;exact(h 0 _ _ rfl hb).no_chan.elim
theorem tuple_eq {a:Array Value} {l:List Value} (h:a.toList=l):a=⟨l⟩:=by cases a;simp only at h;rw[h]
theorem unsy_spec {x x' v:Value} (h:unsy x=some v) (hx:VR D ι x x'):x'=v∧scal v=true:=by
 unfold unsy at h
 split at h
 ·rename_i a
  split at h
  ·rename_i u hu;cases h;rw[tuple_eq hu] at hx;exact sy_inv hx
  ·cases h
 ·cases h;cases hx;exact⟨rfl,rfl⟩
 ·cases h;cases hx;exact⟨rfl,rfl⟩
 ·cases h;cases hx;exact⟨rfl,rfl⟩
 ·cases h;cases hx;exact⟨rfl,rfl⟩
 ·cases h;cases hx;exact⟨rfl,rfl⟩
 ·cases h
def inK (k:IntKind) (n:Int):Prop:=k.min≤n∧n≤k.max
instance (k:IntKind) (n:Int):Decidable (inK k n):=inferInstanceAs (Decidable (_∧_))
theorem wrap_inK {k:IntKind} {n:Int} (h:inK k n):k.wrap n=n:=by
 obtain⟨h1,h2⟩:=h;have key:∀(s:Bool) (m q:Int),(if(s&&decide (m≥q))=true then m-2*q else m)=if s=true∧m≥q then m-2*q else m:=by
  intro s m q;cases s<;>simp
 cases k
 ·show(if(true&&decide (n%2^8≥(2^7:Int)))=true then n%2^8-2*(2^7:Int) else n%2^8)=n;have h1: -(2^7:Int)≤n:=h1;have h2:n≤2^7-1:=h2;rw[key];simp only[true_and];split<;>omega
 ·show(if(true&&decide (n%2^16≥(2^15:Int)))=true then n%2^16-2*(2^15:Int) else n%2^16)=n;have h1: -(2^15:Int)≤n:=h1;have h2:n≤2^15-1:=h2;rw[key];simp only[true_and];split<;>omega
 ·show(if(true&&decide (n%2^32≥(2^31:Int)))=true then n%2^32-2*(2^31:Int) else n%2^32)=n;have h1: -(2^31:Int)≤n:=h1;have h2:n≤2^31-1:=h2;rw[key];simp only[true_and];split<;>omega
 ·show(if(true&&decide (n%2^64≥(2^63:Int)))=true then n%2^64-2*(2^63:Int) else n%2^64)=n;have h1: -(2^63:Int)≤n:=h1;have h2:n≤2^63-1:=h2;rw[key];simp only[true_and];split<;>omega
 ·have h1:0≤n:=h1;have h2:n≤2^8-1:=h2;show n%2^8=n;omega
 ·have h1:0≤n:=h1;have h2:n≤2^16-1:=h2;show n%2^16=n;omega
 ·have h1:0≤n:=h1;have h2:n≤2^32-1:=h2;show n%2^32=n;omega
 ·have h1:0≤n:=h1;have h2:n≤2^64-1:=h2;show n%2^64=n;omega
def toL (s:ByteArray):List UInt8:=s.data.toList
theorem bs_toL (s:ByteArray):bs (toL s)=s:=by cases s;rfl
theorem toL_bs (l:List UInt8):toL (bs l)=l:=rfl
theorem size_toL (s:ByteArray):s.size=(toL s).length:=by show s.data.size=s.data.toList.length;exact Array.length_toList.symm
theorem cat_toL (a b:ByteArray):a++b=bs (toL a++toL b):=by
 apply ByteArray.ext;simp[bs,toL]
theorem toList_toL (s:ByteArray):s.toList=toL s:=bytes_toList s
def SV:Type:=Value×List Bool
def sI (k:IntKind) (n:Int):SV:=bif k.signed then(.int k n,[decide (inK k n)]) else(.int k (k.wrap n),[])
theorem sI_spec {k:IntKind} {n:Int} {r:SV} (h:sI k n=r) (hp:AllP r.2):r.1=.int k (k.wrap n):=by
 unfold sI at h;cases hs:k.signed
 ·rw[hs] at h;subst h;rfl
 ·rw[hs] at h;subst h;have:inK k n:=of_decide_eq_true hp.1;show Value.int k n=_;rw[wrap_inK this]
def fRel (op:BinOp) (k:FloatKind) (a b:Nat):Bool:=
 match op with
 | .eql=>k.format.order a b==some .eq
 | .neq=>k.format.order a b !=some .eq
 | .lss=>k.format.order a b==some .lt
 | .leq=>k.format.order a b==some .lt||k.format.order a b==some .eq
 | .gtr=>k.format.order a b==some .gt
 | .geq=>k.format.order a b==some .gt||k.format.order a b==some .eq
 |_=>false
def isRel:BinOp→Bool
 | .eql| .neq| .lss| .leq| .gtr| .geq=>true
 |_=>false
def fAr (op:BinOp) (x y:Nat):Option Nat:=
 match op with
 | .add=>FloatKind.f64.format.add x y
 | .sub=>FloatKind.f64.format.sub x y
 | .mul=>FloatKind.f64.format.mul x y
 |_=>none
def fA (op:BinOp) (x y:Nat):Nat:=(fAr op x y).getD 0
def fOk (op:BinOp) (x y:Nat):Bool:=(fAr op x y).isSome
theorem fAr_some {op:BinOp} {x y:Nat} (h:fOk op x y=true):fAr op x y=some (fA op x y):=by
 unfold fOk at h;unfold fA;cases e:fAr op x y
 ·rw[e] at h;cases h
 ·rfl
theorem fAr_run {P:Program} {w:World} {op:BinOp} {x y:Nat} (h:fOk op x y=true):(Op.floatArith op .f64 x y).run P w=.ok (.float .f64 (fA op x y)) w:=by
 have h:=fAr_some h;unfold fAr at h;cases op<;>simp only at h<;>first|(cases h;done)|skip
 all_goals simp[Op.floatArith,h]
theorem cAr_run {P:Program} {w:World} {op:BinOp} {x y:Nat} (h:fOk op x y=true):(Op.Complex.arith op .f64 x y).run P w=.ok (fA op x y) w:=by
 simp only[Op.Complex.arith,Sem.run_bind,fAr_run h,Result.andThen_ok,Sem.run_pure]
theorem cConv_run {P:Program} {w:World} {x:Nat}:(Op.Complex.conv .f64 x .f64).run P w=.ok x w:=rfl
def sBin (op:BinOp) (x y:Value):Option SV:=
 match x,y with
 | .int k a,.int k' b=>match op with
   | .shl=>some (.int k (k.wrap (a*2^(min b.toNat k.bits))),[decide (0≤b)])
   | .shr=>some (.int k (a.fdiv (2^(min b.toNat k.bits))),[decide (0≤b)])
   |_=>bif decide (k=k') then match op with
    | .add=>some (sI k (a+b))
    | .sub=>some (sI k (a-b))
    | .mul=>some (sI k (a*b))
    | .quo=>bif k.signed then some (.int k (a.tdiv b),[decide (b≠0),decide (inK k (a.tdiv b))]) else some (.int k (k.wrap (a.tdiv b)),[decide (b≠0)])
    | .rem=>some (.int k (a.tmod b),[decide (b≠0)])
    | .and=>some (.int k (k.wrap (BitVec.ofInt k.bits a&&&BitVec.ofInt k.bits b).toNat),[])
    | .or=>some (.int k (k.wrap (BitVec.ofInt k.bits a|||BitVec.ofInt k.bits b).toNat),[])
    | .xor=>some (.int k (k.wrap (BitVec.ofInt k.bits a^^^BitVec.ofInt k.bits b).toNat),[])
    | .andNot=>some (.int k (k.wrap (BitVec.ofInt k.bits a&&& ~~~BitVec.ofInt k.bits b).toNat),[])
    | .eql=>some (.bool (a==b),[])
    | .neq=>some (.bool (a !=b),[])
    | .lss=>some (.bool (decide (a<b)),[])
    | .leq=>some (.bool (decide (a≤b)),[])
    | .gtr=>some (.bool (decide (a>b)),[])
    | .geq=>some (.bool (decide (a≥b)),[])
    |_=>none
   else none
 | .string a,.string b=>match op with
   | .add=>some (.string (bs (toL a++toL b)),[decide ((toL a).length+(toL b).length≤1099511627776)])
   | .eql=>some (.bool (toL a==toL b),[])
   | .neq=>some (.bool (!(toL a==toL b)),[])
   | .lss=>some (.bool (Op.bytesLess (toL a) (toL b)),[])
   | .leq=>some (.bool (Op.bytesLess (toL a) (toL b)||toL a==toL b),[])
   | .gtr=>some (.bool (!(Op.bytesLess (toL a) (toL b)||toL a==toL b)),[])
   | .geq=>some (.bool (!Op.bytesLess (toL a) (toL b)),[])
   |_=>none
 | .bool a,.bool b=>match op with
   | .eql=>some (.bool (a==b),[])
   | .neq=>some (.bool (!(a==b)),[])
   |_=>none
 | .float k a,.float k' b=>bif decide (k=k')&&isRel op then some (.bool (fRel op k a b),[]) else bif decide (k=.f64∧k'=.f64) then(match op with
   | .add=>some (.float .f64 (fA .add a b),[fOk .add a b])
   | .sub=>some (.float .f64 (fA .sub a b),[fOk .sub a b])
   | .mul=>some (.float .f64 (fA .mul a b),[fOk .mul a b])
   |_=>none) else none
 | .complex k a b,.complex k' c d=>bif decide (k=.f64∧k'=.f64) then(match op with
   | .add=>some (.complex .f64 (fA .add a c) (fA .add b d),[fOk .add a c,fOk .add b d])
   | .mul=>some (.complex .f64 (fA .sub (fA .mul a c) (fA .mul b d)) (fA .add (fA .mul a d) (fA .mul b c)),[fOk .mul a c,fOk .mul b d,fOk .sub (fA .mul a c) (fA .mul b d),fOk .mul a d,fOk .mul b c,fOk .add (fA .mul a d) (fA .mul b c)])
   |_=>none) else none
 |_,_=>none
include hT in
theorem sBin_run {op:BinOp} {x y:Value} {r:SV} {t:TypeId} (ht:∀b,x=.bool b→T.und t=some .bool) (h:sBin op x y=some r) (hp:AllP r.2) (w:World):(binOp op t x y).run P w=.ok r.1 w∧scal r.1=true:=by
 unfold sBin at h
 split at h
 ·rename_i k a k' b
  split at h
  ·cases h;have hb:¬b<0:=by have:0≤b:=of_decide_eq_true hp.1;omega
   exact⟨by simp[binOp,Op.shift,hb],rfl⟩
  ·cases h;have hb:¬b<0:=by have:0≤b:=of_decide_eq_true hp.1;omega
   exact⟨by simp[binOp,Op.shift,hb],rfl⟩
  ·cases hk:decide (k=k')
   ·rw[hk] at h;cases h
   rw[hk,cond_true] at h;have hk:=of_decide_eq_true hk;subst hk;have arith:∀n,(sI k n).1=r.1→some (sI k n)=some r→r.1=.int k (k.wrap n):=fun n _ e=>sI_spec (r:=r) (Option.some.inj e) hp
   split at h
   ·have:=sI_spec (r:=r) (Option.some.inj h) hp;rw[this];exact⟨by simp[binOp,Op.intArith],rfl⟩
   ·have:=sI_spec (r:=r) (Option.some.inj h) hp;rw[this];exact⟨by simp[binOp,Op.intArith],rfl⟩
   ·have:=sI_spec (r:=r) (Option.some.inj h) hp;rw[this];exact⟨by simp[binOp,Op.intArith],rfl⟩
   ·cases hs:k.signed
    ·rw[hs] at h;cases h;have hb:b≠0:=of_decide_eq_true hp.1;exact⟨by simp[binOp,Op.intDiv,hb],rfl⟩
    ·rw[hs] at h;cases h;have hb:b≠0:=of_decide_eq_true hp.1;have hi:inK k (a.tdiv b):=of_decide_eq_true hp.2.1;exact⟨by simp[binOp,Op.intDiv,hb,wrap_inK hi],rfl⟩
   ·cases h;have hb:b≠0:=of_decide_eq_true hp.1;exact⟨by simp[binOp,Op.intDiv,hb],rfl⟩
   all_goals first
    |(cases h;exact⟨by simp[binOp,Op.intBits,Op.intCmp],rfl⟩)
    |cases h
 ·rename_i a b;have hl:∀op,binOp op t (.string a) (.string b)=Op.stringOp op a b:=fun op=>by cases op<;>rfl
  rw[hl]
  split at h
  ·cases h;have hb:(toL a).length+(toL b).length≤1099511627776:=of_decide_eq_true hp.1;have hn:¬(((a.size+b.size:Nat):Int)>IntKind.i64.max):=by
    rw[size_toL,size_toL];show ¬((((toL a).length+(toL b).length:Nat):Int)>2^63-1);omega
   exact⟨by simp only[Op.stringOp,if_neg hn,Sem.run_pure,cat_toL],rfl⟩
  all_goals first
   |(cases h;exact⟨by simp only[Op.stringOp,toList_toL,Sem.run_pure],rfl⟩)
   |cases h
 ·rename_i a b;have hu:=ht a rfl;have hun:Op.equal t (.bool a) (.bool b)=Op.equalIn (9999+1) t (.bool a) (.bool b):=rfl;have he:(Op.equal t (.bool a) (.bool b)).run P w=.ok (a==b) w:=by
   rw[hun,Op.equalIn];simp only[Sem.run_bind,run_und hT hu,Result.andThen_ok];rfl
  split at h
  ·cases h;exact⟨by simp only[binOp,Sem.run_bind,he,Result.andThen_ok,Sem.run_pure],rfl⟩
  ·cases h;exact⟨by simp only[binOp,Sem.run_bind,he,Result.andThen_ok,Sem.run_pure],rfl⟩
  ·cases h
 ·rename_i k a k' b;cases hk:decide (k=k')&&isRel op
  ·rw[hk,cond_false] at h;cases hz:decide (k=.f64∧k'=.f64)
   ·rw[hz] at h;cases h
   rw[hz,cond_true] at h;obtain⟨rfl,rfl⟩:=of_decide_eq_true hz
   split at h
   all_goals first
    |(cases h;exact⟨by simp only[binOp,ne_eq,not_true_eq_false,if_false];exact fAr_run hp.1,rfl⟩)
    |cases h
  rw[hk,cond_true] at h;cases h;rw[Bool.and_eq_true,decide_eq_true_eq] at hk;obtain⟨rfl,hk⟩:=hk;refine⟨?_,rfl⟩;cases op<;>first
   |(cases hk;done)
   |simp only[binOp,ne_eq,not_true_eq_false,if_false,Op.floatCmp,Sem.run_pure,fRel]
 ·rename_i k a b k' c d;cases hz:decide (k=.f64∧k'=.f64)
  ·rw[hz] at h;cases h
  rw[hz,cond_true] at h;obtain⟨rfl,rfl⟩:=of_decide_eq_true hz
  split at h
  ·cases h;refine⟨?_,rfl⟩;simp only[binOp,ne_eq,not_true_eq_false,if_false,Op.complexOp,Sem.run_bind,cAr_run hp.1,cAr_run hp.2.1,Result.andThen_ok,Sem.run_pure]
  ·cases h;obtain⟨h1,h2,h3,h4,h5,h6,_⟩:=hp;refine⟨?_,rfl⟩;have pr:(Op.Complex.product a b c d).run P w=.ok (fA .sub (fA .mul a c) (fA .mul b d),fA .add (fA .mul a d) (fA .mul b c)) w:=by
    simp only[Op.Complex.product,Op.Complex.sub,Op.Complex.mul,Op.Complex.add,Sem.run_bind,cAr_run h1,cAr_run h2,cAr_run h3,cAr_run h4,cAr_run h5,cAr_run h6,Result.andThen_ok,Sem.run_pure]
   have e:(BinOp.mul==BinOp.mul)=true:=rfl;simp only[binOp,ne_eq,not_true_eq_false,if_false,Op.complexOp,Sem.run_bind,cConv_run,Result.andThen_ok,e,if_true,pr,Sem.run_pure]
  ·cases h
 ·cases h
omit hT
def sUn (op:UnOp) (x:Value):Option SV:=
 match op,x with
 | .neg,.int k n=>some (sI k (0-n))
 | .xor,.int k n=>some (.int k (k.wrap (BitVec.ofInt k.bits (if k.signed then -1 else k.max)^^^BitVec.ofInt k.bits n).toNat),[])
 | .not,.bool b=>some (.bool (!b),[])
 |_,_=>none
theorem sUn_run {op:UnOp} {x:Value} {r:SV} (h:sUn op x=some r) (hp:AllP r.2) (w:World):(Op.unary op x).run P w=.ok r.1 w∧scal r.1=true:=by
 unfold sUn at h
 split at h
 ·have:=sI_spec (r:=r) (Option.some.inj h) hp;rw[this];exact⟨by simp[Op.unary,Op.intArith],rfl⟩
 ·cases h;exact⟨by simp[Op.unary,Op.intBits],rfl⟩
 ·cases h;exact⟨rfl,rfl⟩
 ·cases h
def fIv (b:Nat) (k:IntKind):Option Int:=match(FloatKind.f64.decode b).toInt .zero with
 |some n=>bif decide (k.min≤n∧n≤k.max) then some n else none
 |none=>none
theorem fIv_run {P:Program} {w:World} {b:Nat} {k:IntKind} (h:(fIv b k).isSome=true):(Conv.floatToInt .f64 b k).run P w=.ok (.int k ((fIv b k).getD 0)) w:=by
 unfold fIv at h⊢;unfold Conv.floatToInt
 split at h
 ·rename_i n hn;cases hd:decide (k.min≤n∧n≤k.max)
  ·rw[hd] at h;cases h
  ·simp only[hn,if_pos (of_decide_eq_true hd),cond_true,Option.getD_some,Sem.run_pure]
 ·cases h
def sConv (T:TE) (src dst:TypeId) (x:Value):Option SV:=
 match T.und src,T.und dst,x with
 |some _,some (.int k),.int k0 n=>bif k.signed||decide (k=k0) then some (.int k n,[decide (inK k n)]) else some (.int k (k.wrap n),[])
 |some _,some .string,.string s=>some (.string s,[])
 |some _,some (.float k),.int _ n=>some (.float k (k.nearest n),[])
 |some _,some (.int k),.float .f64 b=>some (.int k ((fIv b k).getD 0),[(fIv b k).isSome])
 |_,_,_=>none
include hT in
theorem sConv_run {src dst:TypeId} {x:Value} {r:SV} (h:sConv T src dst x=some r) (hp:AllP r.2) (w:World):(convert src dst x).run P w=.ok r.1 w∧scal r.1=true:=by
 unfold sConv at h
 split at h
 ·rename_i d k k0 n h1 h2;have e:(convert src dst (.int k0 n)).run P w=.ok (.int k (k.wrap n)) w:=by
   simp only[convert,Sem.run_bind,run_und hT h1,run_und hT h2,Result.andThen_ok,Conv.intToInt,Sem.run_pure]
  rw[e];cases hs:(k.signed||decide (k=k0))
  ·rw[hs] at h;cases h;exact⟨rfl,rfl⟩
  ·rw[hs] at h;cases h;have:inK k n:=of_decide_eq_true hp.1;exact⟨by rw[wrap_inK this],rfl⟩
 ·rename_i d s h1 h2;cases h;exact⟨by simp only[convert,Sem.run_bind,run_und hT h1,run_und hT h2,Result.andThen_ok,Sem.run_pure],rfl⟩
 ·rename_i d k k0 n h1 h2;cases h;exact⟨by simp only[convert,Sem.run_bind,run_und hT h1,run_und hT h2,Result.andThen_ok,Conv.intToFloat,Sem.run_pure],rfl⟩
 ·rename_i d k b h1 h2;cases h;exact⟨by simp only[convert,Sem.run_bind,run_und hT h1,run_und hT h2,Result.andThen_ok,fIv_run hp.1],rfl⟩
 ·cases h
def sIdx (T:TE) (t:TypeId) (x i:Value):Option SV:=
 match T.und t,x,i with
 |some .string,.string s,.int _ n=>some (.int .u8 ((toL s).getD n.toNat 0).toNat,[decide (0≤n),decide (n<(toL s).length)])
 |_,_,_=>none
include hT in
theorem sIdx_run {t:TypeId} {x i:Value} {r:SV} (h:sIdx T t x i=some r) (hp:AllP r.2) (w:World):(Instr.index t x i).run P w=.ok r.1 w∧scal r.1=true:=by
 unfold sIdx at h
 split at h
 ·rename_i s k n hu;cases h;have h0:(0:Int)≤n:=of_decide_eq_true hp.1;have h1:n<(toL s).length:=of_decide_eq_true hp.2.1;have hlt:n.toNat<(toL s).length:=by omega
  have hb:s[n.toNat]?=some ((toL s).getD n.toNat 0):=by
   rw[bytes_get];show(toL s)[n.toNat]?=_;rw[List.getElem?_eq_getElem hlt,List.getD_eq_getElem?_getD,List.getElem?_eq_getElem hlt];rfl
  exact⟨by simp only[Instr.index,asIntOf,Sem.run_bind,Sem.run_pure,Result.andThen_ok,run_und hT hu,h0,if_true,hb],rfl⟩
 ·cases h
def sCut (T:TE) (t:TypeId) (x:Value) (lo hi:Option Value):Option SV:=
 match T.und t,x,lo,hi with
 |some .string,.string s,none,none=>some (.string s,[])
 |some .string,.string s,some (.int _ n),none=>some (.string (bs ((toL s).drop n.toNat)),[decide (0≤n),decide (n≤(toL s).length)])
 |some .string,.string s,none,some (.int _ m)=>some (.string (bs ((toL s).take m.toNat)),[decide (0≤m),decide (m≤(toL s).length)])
 |some .string,.string s,some (.int _ n),some (.int _ m)=>some (.string (bs (((toL s).take m.toNat).drop n.toNat)),[decide (0≤n),decide (n≤m),decide (m≤(toL s).length)])
 |_,_,_,_=>none
theorem bound_run {k:IntKind} {n:Int} {y:Nat} {code:BoundsCode} (h0:0≤n) (h1:n≤y) (w:World):(Instr.sliceBound (.int k n) y code).run P w=.ok n.toNat w:=by
 simp only[Instr.sliceBound,asIntOf,Sem.run_bind,Sem.run_pure,Result.andThen_ok,h0,h1,and_self,if_true]
theorem extract_toL (s:ByteArray) (l h:Nat):s.extract l h=bs (((toL s).take h).drop l):=by
 rw[bsub_eq,bsub,List.drop_take];rfl
include hT in
theorem sCut_run {t:TypeId} {x:Value} {lo hi:Option Value} {r:SV} (h:sCut T t x lo hi=some r) (hp:AllP r.2) (w:World):(Instr.sliceAt t x lo hi none).run P w=.ok r.1 w∧scal r.1=true:=by
 unfold sCut at h
 split at h
 ·rename_i s hu;cases h;refine⟨?_,rfl⟩;simp only[Instr.sliceAt,Instr.slice,Sem.run_bind,run_und hT hu,Result.andThen_ok,Option.isSome_none,Bool.false_eq_true,if_false,Sem.run_pure,Instr.sliceBounds,extract_toL];rw[size_toL,List.take_length,List.drop_zero,bs_toL]
 ·rename_i s k n hu;cases h;have h0:(0:Int)≤n:=of_decide_eq_true hp.1;have h1:n≤(toL s).length:=of_decide_eq_true hp.2.1;refine⟨?_,rfl⟩;have hb:=fun c=>bound_run (P:=P) (k:=k) (code:=c) h0 (y:=s.size) (by rw[size_toL];exact h1) w
  simp only[Instr.sliceAt,Instr.slice,Sem.run_bind,run_und hT hu,Result.andThen_ok,Option.isSome_none,Bool.false_eq_true,if_false,Sem.run_pure,Instr.sliceBounds,hb,extract_toL];rw[size_toL,List.take_length]
 ·rename_i s k m hu;cases h;have h0:(0:Int)≤m:=of_decide_eq_true hp.1;have h1:m≤(toL s).length:=of_decide_eq_true hp.2.1;refine⟨?_,rfl⟩;have hb:=fun c=>bound_run (P:=P) (k:=k) (code:=c) h0 (y:=s.size) (by rw[size_toL];exact h1) w
  simp only[Instr.sliceAt,Instr.slice,Sem.run_bind,run_und hT hu,Result.andThen_ok,Option.isSome_none,Bool.false_eq_true,if_false,Sem.run_pure,Instr.sliceBounds,hb,extract_toL,List.drop_zero]
 ·rename_i s k n k2 m hu;cases h;have h0:(0:Int)≤n:=of_decide_eq_true hp.1;have h1:n≤m:=of_decide_eq_true hp.2.1;have h2:m≤(toL s).length:=of_decide_eq_true hp.2.2.1;refine⟨?_,rfl⟩;have hb:=fun c=>bound_run (P:=P) (k:=k2) (code:=c) (by omega:0≤m) (y:=s.size) (by rw[size_toL];exact h2) w
  have hc:=fun c=>bound_run (P:=P) (k:=k) (code:=c) h0 (y:=m.toNat) (by omega) w
  simp only[Instr.sliceAt,Instr.slice,Sem.run_bind,run_und hT hu,Result.andThen_ok,Option.isSome_none,Bool.false_eq_true,if_false,Sem.run_pure,Instr.sliceBounds,hb,hc,extract_toL]
 ·cases h
def sMM (b:Builtin) (x:Value):List Value→Option Value
 |[]=>some x
 |y::ys=>match b,x,y with
  | .min,.int k n,.int _ m=>sMM b (.int k (min n m)) ys
  | .max,.int k n,.int _ m=>sMM b (.int k (max n m)) ys
  |_,_,_=>none
def sBI (T:TE) (b:Builtin) (argTypes:List TypeId) (args:List Value):Option SV:=
 match b,args with
 | .len,[.string s]=>match argTypes with
   |t::_=>match T.und t with
    |some .string=>some (.int .i64 (toL s).length,[])
    |_=>none
   |_=>none
 | .min,.int k n::xs=>match sMM .min (.int k n) xs with
   |some v=>some (v,[])
   |none=>none
 | .max,.int k n::xs=>match sMM .max (.int k n) xs with
   |some v=>some (v,[])
   |none=>none
 | .complex,[.float k a,.float k' b]=>bif decide (k=k') then some (.complex k a b,[]) else none
 | .real,[.complex k a _]=>some (.float k a,[])
 | .imag,[.complex k _ b]=>some (.float k b,[])
 |_,_=>none
theorem sMM_min:∀(ys:List Value) (k:IntKind) (n:Int) (v:Value),sMM .min (.int k n) ys=some v→(∃m,v=.int k m)∧∀w,(ys.foldlM Builtin.min2 (.int k n)).run P w=.ok v w
 |[],k,n,v,h=>by simp only[sMM,Option.some.injEq] at h;subst h;exact⟨⟨_,rfl⟩,fun w=>rfl⟩
 |y::ys,k,n,v,h=>by
  cases y with
  |int k2 m=>
   simp only[sMM] at h;obtain⟨h1,h2⟩:=sMM_min ys k _ v h;refine⟨h1,fun w=> ?_⟩;have e:(Builtin.min2 (.int k n) (.int k2 m)).run P w=.ok (.int k (min n m)) w:=by
    simp only[Builtin.min2,Sem.run_pure];congr 2;rw[Int.min_def]
    split<;>split<;>omega
   simp only[List.foldlM_cons,Sem.run_bind,e,Result.andThen_ok,h2]
  |_=>simp[sMM] at h
theorem sMM_max:∀(ys:List Value) (k:IntKind) (n:Int) (v:Value),sMM .max (.int k n) ys=some v→(∃m,v=.int k m)∧∀w,(ys.foldlM Builtin.max2 (.int k n)).run P w=.ok v w
 |[],k,n,v,h=>by simp only[sMM,Option.some.injEq] at h;subst h;exact⟨⟨_,rfl⟩,fun w=>rfl⟩
 |y::ys,k,n,v,h=>by
  cases y with
  |int k2 m=>
   simp only[sMM] at h;obtain⟨h1,h2⟩:=sMM_max ys k _ v h;refine⟨h1,fun w=> ?_⟩;have e:(Builtin.max2 (.int k n) (.int k2 m)).run P w=.ok (.int k (max n m)) w:=by
    simp only[Builtin.max2,Sem.run_pure];congr 2;rw[Int.max_def]
    split<;>split<;>omega
   simp only[List.foldlM_cons,Sem.run_bind,e,Result.andThen_ok,h2]
  |_=>simp[sMM] at h
include hT in
theorem sBI_run {b:Builtin} {ty:TypeId} {argTypes:Array TypeId} {consts:Array Bool} {args:List Value} {r:SV} (h:sBI T b argTypes.toList args=some r) (w:World):
  (builtin b argTypes ty consts args.toArray).run P w=.ok (.value r.1) w∧scal r.1=true∧r.2=[]:=by
 have tl:∀t l,argTypes.toList=t::l→argTypes[0]?=some t:=fun t l e=>by rw[←Array.getElem?_toList,e];rfl
 unfold sBI at h
 split at h
 ·rename_i s
  split at h
  ·rename_i t l ht
   split at h
   ·rename_i hu;cases h;refine⟨?_,rfl,rfl⟩;have:(Builtin.len_ argTypes ty [Value.string s].toArray).run P w=.ok (.int .i64 (toL s).length) w:=by
     simp only[Builtin.len_,tl _ _ ht,List.getElem?_toArray,List.getElem?_cons_zero,Sem.run_bind,run_und hT hu,Result.andThen_ok,Sem.run_pure,goInt,size_toL]
    show(do Pure.pure (Next.value (←Builtin.len_ argTypes ty [Value.string s].toArray)):Sem Next).run P w=_;simp only[Sem.run_bind,this,Result.andThen_ok,Sem.run_pure]
   ·cases h
  ·cases h
 ·rename_i k n xs
  split at h
  ·rename_i v hv;cases h;obtain⟨⟨m,rfl⟩,h2⟩:=sMM_min (P:=P) xs k n v hv;refine⟨?_,rfl,rfl⟩;have:(Builtin.min_ argTypes ty (Value.int k n::xs).toArray).run P w=.ok (.int k m) w:=h2 w;show(do Pure.pure (Next.value (←Builtin.min_ argTypes ty (Value.int k n::xs).toArray)):Sem Next).run P w=_;simp only[Sem.run_bind,this,Result.andThen_ok,Sem.run_pure]
  ·cases h
 ·rename_i k n xs
  split at h
  ·rename_i v hv;cases h;obtain⟨⟨m,rfl⟩,h2⟩:=sMM_max (P:=P) xs k n v hv;refine⟨?_,rfl,rfl⟩;have:(Builtin.max_ argTypes ty (Value.int k n::xs).toArray).run P w=.ok (.int k m) w:=h2 w;show(do Pure.pure (Next.value (←Builtin.max_ argTypes ty (Value.int k n::xs).toArray)):Sem Next).run P w=_;simp only[Sem.run_bind,this,Result.andThen_ok,Sem.run_pure]
  ·cases h
 ·rename_i k a k' b;cases hk:decide (k=k')
  ·rw[hk] at h;cases h
  rw[hk,cond_true] at h;cases h;have hk:=of_decide_eq_true hk;subst hk;refine⟨?_,rfl,rfl⟩;show(do Pure.pure (Next.value (←Builtin.complex_ argTypes ty #[.float k a,.float k b])):Sem Next).run P w=_;have:(Builtin.complex_ argTypes ty #[.float k a,.float k b]).run P w=.ok (.complex k a b) w:=by
   have e:Builtin.complex_ argTypes ty #[.float k a,.float k b]=if k=k then Pure.pure (.complex k a b) else stuck "complex: parts of different kinds" :=rfl;rw[e,if_pos rfl];rfl
  simp only[Sem.run_bind,this,Result.andThen_ok,Sem.run_pure]
 ·rename_i k a b;cases h;refine⟨?_,rfl,rfl⟩;show(do Pure.pure (Next.value (←Builtin.real_ argTypes ty #[.complex k a b])):Sem Next).run P w=_;have:(Builtin.real_ argTypes ty #[.complex k a b]).run P w=.ok (.float k a) w:=rfl;simp only[Sem.run_bind,this,Result.andThen_ok,Sem.run_pure]
 ·rename_i k a b;cases h;refine⟨?_,rfl,rfl⟩;show(do Pure.pure (Next.value (←Builtin.imag_ argTypes ty #[.complex k a b])):Sem Next).run P w=_;have:(Builtin.imag_ argTypes ty #[.complex k a b]).run P w=.ok (.float k b) w:=rfl;simp only[Sem.run_bind,this,Result.andThen_ok,Sem.run_pure]
 ·cases h
end
end Go.Eng
end
end
end
