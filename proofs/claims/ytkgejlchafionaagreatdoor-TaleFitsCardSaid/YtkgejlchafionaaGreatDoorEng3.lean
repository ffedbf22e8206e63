/-
  The engine, part 3: an abstract evaluator over the model's code, proved sound. No condition.
-/
import Derived.Test.YtkgejlchafionaaGreatDoorEng2
import Derived.Lib.UnsafeStr
import Derived.Lib.Builder
section
noncomputable section
namespace Go.Eng
open Go
section
variable {P:Program} {T:TE} (hT:T.OK P) {D:Nat->Prop} {ι:Nat->Reg} {σ:St} {w:World}
def Cm (T:TE) (σ:St) (a:TypeId) (s:ByteArray):Option R:=
 match T.inf a with
 |some i=>bif Nat.beq i.size 1 then some ⟨.slice (some ⟨σ.next,0,none⟩) s.size Ew,σ.new (.row (CZ s.data.toList) a false),.nil⟩ else none
 |none=>none
theorem LM (h:Array Obj) (o:Obj) (f:Obj->Obj):(h.push o).modify h.size f=h.push (f o):=by
 apply Array.ext_getElem?;intro j;rw[Array.getElem?_modify,Array.getElem?_push,Array.getElem?_push];by_cases e:j=h.size
 ·subst e;simp
 ·simp[e,Ne.symm e]
include hT
theorem Hf {a:TypeId} {s:ByteArray} {r:R} (h:Cm T σ a s=some r):AF P D ι σ w (Conv.stringToBytes a s) r:=by
 unfold Cm at h
 split at h
 ·rename_i i x;cases f:Nat.beq i.size 1
  ·rw[f] at h;cases h
  ·rw[f,cond_true] at h;have q:=Nat.eq_of_beq_eq_true f;cases h;refine⟨by simp[St.new],λg=>⟨St.new_wf g _,AFr.new _ _ _⟩,λg y _=> ?_⟩;have l:¬D σ.next:=y _ (by simp[St.rng,St.new]);let cap:=(Question.appendCap s.size 0 a).cut (w.tape w.drawn (.appendCap s.size 0 a));have e:s.size<=cap:=Vi _ _ _ _
   let c:Array Value:=s.data.map (λb=>Value.int .u8 b.toNat)++Array.replicate (cap-s.size) (.int .u8 0);have z:c.size=cap:=by
    have A:s.data.size=s.size:=rfl;simp only[c,Array.size_append,Array.size_map,Array.size_replicate,A];omega
   have t:(CZ s.data.toList).length=s.size:=by rw[Ej];simp
   refine⟨.slice (some ⟨w.heap.size,0,none⟩) s.size cap,EG ι σ.next (rg w.heap.size 0 c.size 1),{ w with drawn:=w.drawn+1,heap:=w.heap.push (.cells c a (c.size,c.size+1))},?_,?_,?_⟩
   ·have B:(Question.appendCap s.size 0 a).forced=false:=rfl;have C:(w.heap.push (.cells c a (0,0)))[w.heap.size]?=some (.cells c a (0,0)):=Al w _;simp only[Conv.stringToBytes,Sem.run_bind,run_choose,B,Bool.false_eq_true,if_false,Result.andThen_ok,newRow,run_newObj,Sem.run_pure,markStringish,run_shape,World.shape?]
    show((match(match(w.heap.push (.cells c a (0,0)))[w.heap.size]? with|some (.cells c a _)=>some (a,c.size)|_=>none) with|some (_,n)=>freeze { block:=w.heap.size,off:=n} 1|_=>Pure.pure ()).run P _).andThen _=_;rw[C];simp only[run_freeze,Result.andThen_ok,World.freeze];rw[if_neg (by omega)];simp only[LM,beq_self_eq_true,if_true]
    rfl
   ·have:=VR.slU (D:=λi=>D i\/σ.rng (σ.new (.row (CZ s.data.toList) a false)) i) (ι:=EG ι σ.next (rg w.heap.size 0 c.size 1)) σ.next 0 s.size cap (.inr (St.rng_new.2 rfl)) e (by rw[AV,z];simp);rw[AV] at this;exact this
   ·refine Post.new g l ?_ ?_ ?_ ?_ rfl rfl rfl rfl rfl
    ·omega
    ·intro j u;rw[hT.inf _ _ x] at u;cases u;exact⟨q.symm,by rw[q];exact Nat.mod_one _⟩
    ·intro o E;omega
    ·intro k v m;rw[Ct] at m;simp only[List.getElem?_map,Option.map_eq_some_iff] at m;obtain⟨b,d,rfl⟩:=m;refine⟨.int .u8 b.toNat,?_,.int _ _⟩;have p:k<s.data.size:=by
      rcases Nat.lt_or_ge k s.data.size with h|h
      ·exact h
      ·rw[List.getElem?_eq_none (by simpa using h)] at d;cases d
     simp only[c];rw[Array.getElem?_append_left (by simpa using p),Array.getElem?_map];rw[Array.getElem?_toList] at d;rw[d];rfl
 ·cases h
omit hT
def E1:Nat->List Value->List Value
 |0,_=>[]
 |n+1,a=>a++E1 n a
theorem Ek (a:List Value):∀n,(E1 n a).length=n*a.length
 |0=>by simp[E1]
 |n+1=>by rw[E1,List.length_append,Ek a n,Nat.add_mul];omega
theorem Hg (a:List Value):∀(n k:Nat),k<n*a.length->(E1 n a)[k]?=a[k%a.length]?
 |0,k,h=>by omega
 |n+1,k,h=>by
  rw[E1];by_cases b:k<a.length
  ·rw[List.getElem?_append_left b,Nat.mod_eq_of_lt b]
  ·rw[List.getElem?_append_right (by omega),Hg a n _ (by rw[Nat.add_mul] at h;omega)];congr 1
   conv=>rhs;rw[show k=(k-a.length)+a.length by omega,Nat.add_mod_right]
theorem RU (z:Array Value) (n:Nat):((Array.range (n*z.size)).map (z[· %z.size]!))=(E1 n z.toList).toArray:=by
 apply Array.ext_getElem?;intro k;simp only[Array.getElem?_map,List.getElem?_toArray];by_cases a:k<n*z.size
 ·rw[Hg _ _ _ (by simpa using a)];have b:0<z.size:=by
   rcases Nat.eq_zero_or_pos z.size with h|h
   ·rw[h] at a;simp at a
   ·exact h
  have c:k%z.size<z.size:=Nat.mod_lt _ b;simp[a,c]
 ·rw[List.getElem?_eq_none (by rw[Ek];simpa using a)];simp[a]
def Dt (T:TE) (σ:St) (t:TypeId) (l c:Value):Option R:=
 match l,c with
 | .int _ (.ofNat l),.int _ (.ofNat c)=>match T.und t with
   |some (.slice a)=>match T.inf a with
    |some e=>match e.zero with
     |some z=>bif Nat.ble l c&&Nat.ble c 1099511627776&&Nat.ble (e.bytes*c) 281474976710656&&Nat.beq z.cells.size e.size&&AW 8 z then
      some ⟨.slice (some ⟨σ.next,0,none⟩) l c,σ.new (.row (E1 c z.cells.toList) a false),.nil⟩ else none
     |none=>none
    |none=>none
   |_=>none
 |_,_=>none
theorem GG {n:Nat} (h:n<=1099511627776):IntKind.i64.wrap (n:Int)=n:=by
 have a:(n:Int)%(2^IntKind.i64.bits:Int)=n:=Int.emod_eq_of_lt (by omega) (by show(n:Int)<2^64;omega);have b:¬((n:Int)>=(2^(IntKind.i64.bits-1):Int)):=by show ¬((n:Int)>=2^63);omega
 simp only[IntKind.wrap,a,b,decide_false,Bool.and_false,Bool.false_eq_true,if_false]
include hT
theorem Km {t:TypeId} {l H c I:Value} {r:R} (h:Dt T σ t l c=some r) (K:VR D ι l H) (L:VR D ι c I):AF P D ι σ w (Instr.makeSlice t H I) r:=by
 unfold Dt at h
 split at h
 ·rename_i U l V c;cases K;cases L
  split at h
  ·rename_i a M
   split at h
   ·rename_i e n
    split at h
    ·rename_i z N;cases p:(Nat.ble l c&&Nat.ble c 1099511627776&&Nat.ble (e.bytes*c) 281474976710656&&Nat.beq z.cells.size e.size&&AW 8 z)
     ·rw[p] at h;cases h
     ·rw[p,cond_true] at h;simp only[Bool.and_eq_true] at p;obtain⟨⟨⟨⟨y,q⟩,A⟩,s⟩,J⟩:=p;have y:=Nat.le_of_ble_eq_true y;have q:=Nat.le_of_ble_eq_true q;have A:=Nat.le_of_ble_eq_true A;have s:=Nat.eq_of_beq_eq_true s;cases h;refine⟨by simp[St.new],λB=>⟨St.new_wf B _,AFr.new _ _ _⟩,λB O _=> ?_⟩
      have C:¬D σ.next:=O _ (by simp[St.rng,St.new]);have b:(E1 c z.cells.toList).length=c*e.size:=by rw[Ek];simp[s]
      refine⟨.slice (some ⟨w.heap.size,0,none⟩) l c,EG ι σ.next (rg w.heap.size 0 (E1 c z.cells.toList).toArray.size e.size),{ w with heap:=w.heap.push (.cells (E1 c z.cells.toList).toArray a (0,0))},?_,?_,?_⟩
      ·have W:¬((e.bytes:Int)*(c:Int)>2^48):=by
        have:=Int.ofNat_le.2 A;rw[Int.natCast_mul] at this;omega
       have d:((((c:Int)<0||decide ((e.bytes:Int)*(c:Int)>2^48))||decide ((l:Int)<0)||decide ((l:Int)>(c:Int)))=true)=False:=by
        simp only[Bool.or_eq_true,decide_eq_true_eq,eq_iff_iff,iff_false];omega
       simp only[Instr.makeSlice,Sem.run_bind,AK hT M,Result.andThen_ok,asInt,asIntOf,Sem.run_pure,IF hT n,Int.ofNat_eq_natCast,GG q,GG (Nat.le_trans y q),d,if_false,run_askRoom,Ao hT n,Int.toNat_natCast];by_cases u:c*e.size=0
       ·rw[if_pos u];have Q:(E1 c z.cells.toList).toArray=#[]:=by
         have:(E1 c z.cells.toList).length=0:=by rw[b,u]
         rw[List.length_eq_zero_iff.1 this]
        rw[Q,u];have S:∀f:Nat->Value,Array.map f (Array.range 0)=#[]:=λf=>Array.eq_empty_of_size_eq_zero (by simp)
        simp only[Sem.run_bind,Sem.run_pure,Result.andThen_ok,newRow,run_newObj,S]
       ·rw[if_neg u];simp only[Sem.run_bind,Ei hT n N,Result.andThen_ok,Sem.run_pure,newRow,run_newObj];rw[<-s,RU]
      ·have:=VR.slK (D:=λi=>D i\/σ.rng (σ.new (.row (E1 c z.cells.toList) a false)) i) (ι:=EG ι σ.next (rg w.heap.size 0 (E1 c z.cells.toList).toArray.size e.size)) σ.next 0 l c (.inr (St.rng_new.2 rfl)) (by unfold Ew;omega);rw[AV] at this;exact this
      ·refine Post.new B C (by simp) ?_ (λo _ h=>by omega) ?_ rfl rfl rfl rfl rfl
       ·intro j x;rw[hT.inf _ _ n] at x;cases x;exact⟨rfl,by rw[List.size_toArray,b];exact Nat.mul_mod_left _ _⟩
       ·intro k v g;have E:v∈z.cells.toList:=by
         have F:k<c*z.cells.toList.length:=by
          rcases Nat.lt_or_ge k (c*z.cells.toList.length) with h|h
          ·exact h
          ·rw[List.getElem?_eq_none (by rw[Ek];exact h)] at g;cases g
         rw[Hg _ _ _ F] at g;exact List.mem_of_getElem? g
        obtain⟨j,x,G⟩:=List.mem_iff_getElem.1 E;have m:z.cells[j]?=some v:=by
         rw[<-Array.getElem?_toList,List.getElem?_eq_getElem x,G]
        exact⟨v,by simpa using g,((Ar 8 z J:VR D ι z z).cells (GA J)).2 j v v m m⟩
    ·cases h
   ·cases h
  ·cases h
 ·cases h
omit hT
def NK (a:Nat->Option (Nat×Nat)):List Value->List (Nat×Value)->Option (List Value)
 |cs,[]=>some cs
 |cs,(i,v)::b=>match a i with
  |some (off,size)=>bif Nat.beq v.cells.toList.length size&&Nat.ble (off+v.cells.toList.length) cs.length&&Lu v then
    match lput cs off v.cells.toList with
    |some c=>NK a c b
    |none=>none
   else none
  |none=>none
theorem Pq:∀(l:List Value) (n off:Nat) (c:Array Value),(l.zipIdx n).foldl (λa (x:Value×Nat)=>a.setIfInBounds (off+x.2) x.1) c=BQ c (off+n) l
 |[],_,_,_=>rfl
 |v::l,n,off,c=>by
  rw[List.zipIdx_cons,List.foldl_cons,Pq l (n+1) off,BQ];rfl
inductive PR (D:Nat->Prop) (ι:Nat->Reg):List (Nat×Value)->List (Nat×Value)->Prop where
 |nil:PR D ι [] []
 |cons (i:Nat) (a b:Value) (r s:List (Nat×Value)) (h:VR D ι a b) (hr:PR D ι r s):PR D ι ((i,a)::r) ((i,b)::s)
theorem Kn (d:Nat->Option (Nat×Nat)) {y z:List (Nat×Value)} (u:PR D ι y z):∀(g e:List Value) (c:Array Value),NK d g y=some e->AR D ι g.toArray c->
  ∃q,Instr.fill d c z=some q/\AR D ι e.toArray q:=by
 induction u with
 |nil=>
  intro g e c h t;simp only[NK,Option.some.injEq] at h;subst h;exact⟨c,rfl,t⟩
 |cons i a b r s n _ B=>
  intro g e c h t;simp only[NK] at h
  split at h
  ·rename_i off size C;cases j:(Nat.beq a.cells.toList.length size&&Nat.ble (off+a.cells.toList.length) g.length&&Lu a)
   ·rw[j] at h;cases h
   ·rw[j,cond_true] at h;rw[Bool.and_eq_true,Bool.and_eq_true] at j;have L:=Nat.eq_of_beq_eq_true j.1.1;have M:=Nat.le_of_ble_eq_true j.1.2;have N:a.cells.toList.length=b.cells.size:=by simpa using(n.cells j.2).1
    have E:g.length=c.size:=by simpa using t.1
    split at h
    ·rename_i o F;obtain⟨g1,O,g3⟩:=IG _ _ _ _ F;have p:=Bo b.cells.toList c off;have G:b.cells.toList.length=b.cells.size:=by simp
     have w:AR D ι o.toArray (BQ c off b.cells.toList):=by
      refine⟨by rw[AJ];simp;omega,λk v v' m f=> ?_⟩;rw[p k (by omega)] at f;simp only[List.getElem?_toArray] at m;rw[g3 k] at m;by_cases A:off<=k/\k<off+a.cells.toList.length
      ·rw[if_pos A] at m;rw[if_pos (by omega)] at f;exact(n.cells j.2).2 (k-off) v v' (by simpa using m) (by simpa using f)
      ·rw[if_neg A] at m;rw[if_neg (by omega)] at f;exact t.2 k v v' (by simpa using m) f
     obtain⟨q,H,I⟩:=B o e _ h w;refine⟨q,?_,I⟩;simp only[Instr.fill,C];have J:decide (b.cells.size≠size)=false:=decide_eq_false (by omega);have K:decide (off+b.cells.size>c.size)=false:=decide_eq_false (by omega);simp only[J,K,Bool.or_self,Bool.false_eq_true,if_false];have l:b.cells.zipIdx.foldl (λg (x:Value×Nat)=>g.setIfInBounds (off+x.2) x.1) c=BQ c off b.cells.toList:=by
      rw[<-Array.foldl_toList,Array.toList_zipIdx];exact Pq _ 0 off c
     rw[<-H,<-l]
    ·cases h
  ·cases h
def Jf (T:TE):List Field->Option (List (Nat×Nat))
 |[]=>some []
 |f::a=>match T.inf f.type with
  |some i=>match Jf T a with
   |some r=>some ((f.offset,i.size)::r)
   |none=>none
  |none=>none
include hT
theorem LN:∀(a:List Field) (l:List (Nat×Nat)) (w:World),Jf T a=some l->(a.mapM λf=>(do Pure.pure (f.offset,<-Go.sizeOf f.type):Sem (Nat×Nat))).run P w=.ok l w
 |[],l,w,h=>by
  simp only[Jf,Option.some.injEq] at h;subst h;rfl
 |f::a,l,w,h=>by
  simp only[Jf] at h
  split at h
  ·rename_i i c
   split at h
   ·rename_i r d;cases h;have b:=LN a r w d;simp only[List.mapM_cons,Sem.run_bind,Ao hT c,Result.andThen_ok,Sem.run_pure] at b⊢;rw[b];rfl
   ·cases h
  ·cases h
omit hT
def RV (T:TE) (t:TypeId) (c:List (Nat×Value)):Option Value:=
 match T.inf t with
 |some i=>match i.zero with
  |some z=>bif AW 8 z then match T.und t with
    |some (.struct d)=>match Jf T d.toList with
     |some f=>match NK (λk=>f[k]?) z.cells.toList c with
      |some b=>some (.agg b.toArray)
      |none=>none
     |none=>none
    |some (.array _ a)=>match T.inf a with
     |some e=>match NK (λk=>some (k*e.size,e.size)) z.cells.toList c with
      |some b=>some (.agg b.toArray)
      |none=>none
     |none=>none
    |_=>none
   else none
  |none=>none
 |none=>none
include hT
theorem RW {t:TypeId} {k:List (Nat×Value)} {l:Array (Nat×Value)} {v:Value} (h:RV T t k=some v) (m:PR D ι k l.toList):AF P D ι σ w (Instr.build t l) ⟨v,σ,.nil⟩:=by
 unfold RV at h
 split at h
 ·rename_i i o
  split at h
  ·rename_i z p;cases ga:AW 8 z
   ·rw[ga] at h;cases h
   ·rw[ga,cond_true] at h;have a:AR D ι z.cells.toList.toArray z.cells:=by simpa using(Ar 8 z ga:VR D ι z z).cells (GA ga)
    split at h
    ·rename_i r d
     split at h
     ·rename_i s ga
      split at h
      ·rename_i u g;cases h;obtain⟨c,j,b⟩:=Kn _ m _ _ _ g a;refine AF.pure (v':=.agg c) ?_ (.agg _ _ b.1 b.2);have x:(r.mapM λf=>(do Pure.pure (f.offset,<-Go.sizeOf f.type):Sem (Nat×Nat))).run P w=.ok s.toArray w:=by
        rw[Array.mapM_eq_mapM_toList,Sem.run_map,LN hT _ _ _ ga];rfl
       simp only[Instr.build,Sem.run_bind,Ei hT o p,Result.andThen_ok,AK hT d];rw[x];simp only[Result.andThen_ok,List.getElem?_toArray,j,Sem.run_pure]
      ·cases h
     ·cases h
    ·rename_i n q d
     split at h
     ·rename_i e y
      split at h
      ·rename_i u g;cases h;obtain⟨c,j,b⟩:=Kn _ m _ _ _ g a;refine AF.pure (v':=.agg c) ?_ (.agg _ _ b.1 b.2);simp only[Instr.build,Sem.run_bind,Ei hT o p,Result.andThen_ok,AK hT d,Ao hT y,j,Sem.run_pure]
      ·cases h
     ·cases h
    ·cases h
  ·cases h
 ·cases h
omit hT
def DL (T:TE) (σ:St) (t:TypeId) (len:Nat) (c:List (Nat×Value)):Option R:=
 match T.und t with
 |some (.slice a)=>match T.inf a with
  |some e=>match e.zero with
   |some z=>bif AW 8 z&&Nat.beq z.cells.size e.size&&Nat.ble (len*e.size) 16777216&&Nat.blt len Ew then
     match NK (λk=>some (k*e.size,e.size)) (E1 len z.cells.toList) c with
     |some b=>bif Nat.beq (Nat.mod b.length e.size) 0 then some ⟨.slice (some ⟨σ.next,0,none⟩) len len,σ.new (.row b a false),.nil⟩ else none
     |none=>none
    else none
   |none=>none
  |none=>none
 |_=>none
theorem iU {z:Array Value} (d:AR D ι z z) (n:Nat):AR D ι (E1 n z.toList).toArray (E1 n z.toList).toArray:=
 ⟨rfl,λk v v' h c=>by
  rw[h] at c;cases c;simp only[List.getElem?_toArray] at h;have a:k<n*z.toList.length:=by
   rcases Nat.lt_or_ge k (n*z.toList.length) with b|b
   ·exact b
   ·rw[List.getElem?_eq_none (by rw[Ek];exact b)] at h;cases h
  rw[Hg _ _ _ a] at h;have h:z[k%z.toList.length]?=some v:=by simpa using h
  exact d.2 _ v v h h⟩
include hT
theorem Jg {t:TypeId} {len:Nat} {C:List (Nat×Value)} {E:Array (Nat×Value)} {r:R} (h:DL T σ t len C=some r) (J:PR D ι C E.toList):AF P D ι σ w (Instr.buildSlice t len E) r:=by
 unfold DL at h
 split at h
 ·rename_i b K
  split at h
  ·rename_i e s
   split at h
   ·rename_i z L;cases m:(AW 8 z&&Nat.beq z.cells.size e.size&&Nat.ble (len*e.size) 16777216&&Nat.blt len Ew)
    ·rw[m] at h;cases h
    ·rw[m,cond_true] at h;simp only[Bool.and_eq_true] at m;obtain⟨⟨⟨F,d⟩,G⟩,H⟩:=m;have d:=Nat.eq_of_beq_eq_true d;have G:=Nat.le_of_ble_eq_true G;have H:len<Ew:=by simpa using H
     split at h
     ·rename_i g M;cases a:Nat.beq (Nat.mod g.length e.size) 0
      ·rw[a] at h;cases h
      rw[a,cond_true] at h;have a:g.length%e.size=0:=Nat.eq_of_beq_eq_true a;cases h;have u:AR D ι z.cells z.cells:=(Ar 8 z F:VR D ι z z).cells (GA F);obtain⟨c,n,p⟩:=Kn _ J _ _ _ M (iU u len);refine⟨by simp[St.new],λx=>⟨St.new_wf x _,AFr.new _ _ _⟩,λx N _=> ?_⟩
      have y:¬D σ.next:=N _ (by simp[St.rng,St.new]);refine⟨.slice (some ⟨w.heap.size,0,none⟩) len len,EG ι σ.next (rg w.heap.size 0 c.size e.size),{ w with heap:=w.heap.push (.cells c b (0,0))},?_,?_,?_⟩
      ·have A:¬(len*e.size>2^24):=by omega
       simp only[Instr.buildSlice,Sem.run_bind,AK hT K,Result.andThen_ok,Ao hT s];rw[if_neg A];by_cases q:len*e.size=0
       ·rw[if_pos q];have O:E1 len z.cells.toList=[]:=List.length_eq_zero_iff.1 (by rw[Ek];simp[d,q]);have Q:∀f:Nat->Value,Array.map f (Array.range 0)=#[]:=λf=>Array.eq_empty_of_size_eq_zero (by simp)
        rw[O] at n;simp only[Sem.run_bind,Sem.run_pure,Result.andThen_ok,q,Q,newRow,run_newObj,n]
       ·rw[if_neg q];rw[<-RU,d] at n;simp only[Sem.run_bind,Ei hT s L,Sem.run_pure,Result.andThen_ok,newRow,run_newObj,d,n]
      ·have:=VR.slK (D:=λi=>D i\/σ.rng (σ.new (.row g b false)) i) (ι:=EG ι σ.next (rg w.heap.size 0 c.size e.size)) σ.next 0 len len (.inr (St.rng_new.2 rfl)) (by omega);rw[AV] at this;exact this
      ·refine Post.new x y ?_ ?_ (λo _ h=>by omega) ?_ rfl rfl rfl rfl rfl
       ·have:=p.1;simp at this;omega
       ·intro j I;rw[hT.inf _ _ s] at I;cases I;have S:g.length=c.size:=by simpa using p.1
        exact⟨rfl,by rw[<-S];exact a⟩
       ·intro k v B;have l:k<c.size:=by
         have:=p.1;simp at this;rcases Nat.lt_or_ge k g.length with h|h
         ·omega
         ·rw[List.getElem?_eq_none h] at B;cases B
        exact⟨c[k],Array.getElem?_eq_getElem l,p.2 k v c[k] (by simpa using B) (Array.getElem?_eq_getElem l)⟩
     ·cases h
   ·cases h
  ·cases h
 ·cases h
end
end Go.Eng
end
end
section
noncomputable section
namespace Go.Eng
open Go
section
variable {P:Program} {T:TE} (hT:T.OK P) {D:Nat->Prop} {ι:Nat->Reg} {σ:St} {w:World}
def Ko (T:TE) (σ:St) (t:TypeId) (x:Value):Option R:=
 match x with
 | .string s=>match T.und t with
   |some .string=>some ⟨.pointer (some ⟨σ.next,0,none⟩),σ.new (.iter s 0),.nil⟩
   |_=>none
 |_=>none
include hT
theorem RX {t:TypeId} {x b:Value} {r:R} (h:Ko T σ t x=some r) (c:VR D ι x b):AF P D ι σ w (Instr.range t b) r:=by
 unfold Ko at h
 split at h
 ·rename_i s;cases c
  split at h
  ·rename_i d;cases h;refine⟨by simp[St.new],λa=>⟨St.new_wf a _,AFr.new _ _ _⟩,λa _ _=> ?_⟩;refine⟨.pointer (some ⟨w.heap.size,0,none⟩),EG ι σ.next (rg w.heap.size 0 0 0),{ w with heap:=w.heap.push (.stringIter s 0)},?_,?_,Post.newIter a⟩
   ·simp only[Instr.range,Sem.run_bind,AK hT d,Result.andThen_ok,Sem.run_pure,run_newObj]
   ·have:=VR.ptr (D:=λi=>D i\/σ.rng (σ.new (.iter s 0)) i) (ι:=EG ι σ.next (rg w.heap.size 0 0 0)) σ.next 0 (.inr (St.rng_new.2 rfl));rw[AV] at this;exact this
  ·cases h
 ·cases h
omit hT
def Pr (σ:St) (b:Value) (isString:Bool):Option R:=
 match b with
 | .pointer (some ⟨id,0,none⟩)=>match isString,σ.heap.get id with
   |true,some (.iter s a)=>bif Nat.blt a s.size then
    match Utf8.decode s a with
    |(c,d)=>some ⟨.tuple #[.bool true,goInt a,.int .i32 c],σ.put id (some (.iter s (a+d))),⟨[],[],[],[id]⟩⟩
    else some ⟨.tuple #[.bool false],σ,⟨[],[id],[],[]⟩⟩
   |_,_=>none
 |_=>none
theorem LO (P:Program) (w:World) {b:Nat} {s:ByteArray} {a:Nat} (h:w.heap[b]?=some (.stringIter s a)):(getObj b).run P w=.ok (.stringIter s a) w:=by
 simp only[getObj,Sem.run,h]
theorem TB (P:Program) (w:World) {b:Nat} {s:ByteArray} {a:Nat} (h:w.heap[b]?=some (.stringIter s a)) (o:Obj):(setObj b o).run P w=.ok () { w with heap:=w.heap.setIfInBounds b o}:=by
 simp only[setObj,Sem.run,h]
theorem TC {o d:Value} {isString:Bool} {ty:TypeId} {r:R} (h:Pr σ o isString=some r) (p:VR D ι o d):AF P D ι σ w (Instr.next d isString ty) r:=by
 unfold Pr at h
 split at h
 ·rename_i id;obtain⟨rfl,v⟩:=p.ptr_inv
  split at h
  ·rename_i s a l;have e:∀φ:Foot,φ.Fi id->HOn P D ι σ.H φ w->w.heap[(ι id).blk]?=some (.stringIter s a)/\(ι id).base=0/\(ι id).own=true/\∀b,¬(ι id).Fz b:=λφ q f=>f.hd id _ q (St.hdr_of l)
   cases g:Nat.blt a s.size
   ·rw[g,cond_false] at h;cases h;refine AF.same (w':=w) (v':=.tuple #[.bool false]) (λf=> ?_) rfl rfl;obtain⟨i,k, -⟩:=e _ (.inr (.inl (by simp))) f;refine⟨?_,Ar 3 _ rfl,rfl,rfl,rfl⟩;have t:¬a<s.size:=by
     intro h;have:Nat.blt a s.size=true:=by simpa using h
     rw[this] at g;cases g
    simp only[k,Nat.zero_add,Instr.next,Sem.run_bind,LO P w i,Result.andThen_ok,if_neg t,Sem.run_pure]
   ·rw[g,cond_true] at h;have m:a<s.size:=by simpa using g
    split at h
    rename_i c x j;cases h;refine⟨Nat.le_refl _,λn=>⟨St.put_wf n (St.lv_lt n (St.lv_of l)) _,AFr.whole (by simp)⟩,λn _ f=> ?_⟩;obtain⟨i,k,u⟩:=e _ (.inr (.inr (.inr (by simp)))) f;refine⟨.tuple #[.bool true,goInt a,.int .i32 c],ι,_,?_,Ar 3 _ rfl,Post.setIter l ⟨i,k,u⟩⟩
    simp only[k,Nat.zero_add,Instr.next,Sem.run_bind,LO P w i,Result.andThen_ok,if_pos m,j,TB P w i,Sem.run_pure]
  ·cases h
 ·cases h
def TD:L8->L8->Bool
 |[],[]=>true
 |a::x,b::y=>bif Nat.beq a.toNat b.toNat then TD x y else false
 |_,_=>false
theorem RY:∀(x y:L8),TD x y=(x==y)
 |[],[]=>rfl
 |[],_::_=>rfl
 |_::_,[]=>rfl
 |a::x,b::y=>by
  simp only[TD,List.cons_beq_cons,RY x y];by_cases h:a=b
  ·subst h;rw[Cc rfl];simp
  ·have:a.toNat≠b.toNat:=λe=>h (UInt8.toNat_inj.1 e)
   rw[UG this];simp[h]
def Vk:L8->L8->Bool
 |_,[]=>false
 |[],_::_=>true
 |a::x,b::y=>bif Nat.blt a.toNat b.toNat then true else bif Nat.beq a.toNat b.toNat then Vk x y else false
theorem Xo:∀(x y:L8),Vk x y=Op.bytesLess x y
 |[],[]=>rfl
 |[],_::_=>rfl
 |_::_,[]=>rfl
 |a::x,b::y=>by
  simp only[Vk,Op.bytesLess,Xo x y];by_cases c:a<b
  ·have:Nat.blt a.toNat b.toNat=true:=by
    have:=UInt8.lt_iff_toNat_lt.1 c;simpa using this
   simp[c,this]
  ·have d:Nat.blt a.toNat b.toNat=false:=by
    cases f:Nat.blt a.toNat b.toNat
    ·rfl
    ·have:a.toNat<b.toNat:=by simpa using f
     exact absurd (UInt8.lt_iff_toNat_lt.2 this) c
   by_cases h:a=b
   ·subst h;simp
   ·have:a.toNat≠b.toNat:=λe=>h (UInt8.toNat_inj.1 e)
    simp[c,d,UG this,h]
theorem Jh (s:ByteArray):s.toList=s.data.toList:=by
 have key:∀(n i:Nat) (r:L8),s.size-i=n->ByteArray.toList.loop s i r=r.reverse++s.data.toList.drop i:=by
  intro n
  induction n with
  |zero=>
   intro i r h;unfold ByteArray.toList.loop;rw[if_neg (by omega)];have:s.data.toList.length<=i:=by simp;omega
   rw[List.drop_eq_nil_of_le this];simp
  |succ n c=>
   intro i r h;unfold ByteArray.toList.loop;rw[if_pos (by omega),c (i+1) _ (by omega)];have b:i<s.data.toList.length:=by simp;omega
   rw[List.drop_eq_getElem_cons b];have a:i<s.data.size:=by simpa using b
   have:s.get! i=s.data.toList[i]:=by
    simp only[ByteArray.get!,getElem!_def,Array.getElem?_eq_getElem a,Array.getElem_toList]
   simp[this]
 unfold ByteArray.toList;rw[key _ 0 [] rfl];simp
def RZ (op:BinOp) (x y:ByteArray):Option Value:=
 match op with
 | .add=>bif Nat.ble (x.size+y.size) 1099511627776 then some (.string ⟨(x.data.toList++y.data.toList).toArray⟩) else none
 | .eql=>some (.bool (TD x.data.toList y.data.toList))
 | .neq=>some (.bool (!TD x.data.toList y.data.toList))
 | .lss=>some (.bool (Vk x.data.toList y.data.toList))
 | .leq=>some (.bool (Vk x.data.toList y.data.toList||TD x.data.toList y.data.toList))
 | .gtr=>some (.bool (!(Vk x.data.toList y.data.toList||TD x.data.toList y.data.toList)))
 | .geq=>some (.bool (!Vk x.data.toList y.data.toList))
 |_=>none
theorem Vl {op:BinOp} {x y:ByteArray} {v:Value} (h:RZ op x y=some v) (w:World):(Op.stringOp op x y).run P w=.ok v w:=by
 cases op<;>simp only[RZ] at h<;>try cases h
 case add=>
  cases a:Nat.ble (x.size+y.size) 1099511627776
  ·rw[a] at h;cases h
  ·rw[a] at h;have a:=Nat.le_of_ble_eq_true a;cases h;have b:¬(((x.size+y.size:Nat):Int)>IntKind.i64.max):=by
    show ¬(((x.size+y.size:Nat):Int)>2^63-1);omega
   simp only[Op.stringOp,if_neg b,Sem.run_pure];congr 2
 all_goals simp only[Op.stringOp,Jh,RY,Xo,Sem.run_pure]
def NL (op:BinOp) (k:IntKind) (a b:Int):Option Value:=
 match op with
 | .add=>some (.int k (k.wrap (a+b)))
 | .sub=>some (.int k (k.wrap (a-b)))
 | .mul=>some (.int k (k.wrap (a*b)))
 | .quo=>if b=0 then none else some (.int k (k.wrap (a.tdiv b)))
 | .rem=>if b=0 then none else some (.int k (a.tmod b))
 | .and=>some (.int k (k.wrap (BitVec.ofInt k.bits a&&&BitVec.ofInt k.bits b).toNat))
 | .or=>some (.int k (k.wrap (BitVec.ofInt k.bits a|||BitVec.ofInt k.bits b).toNat))
 | .xor=>some (.int k (k.wrap (BitVec.ofInt k.bits a^^^BitVec.ofInt k.bits b).toNat))
 | .andNot=>some (.int k (k.wrap (BitVec.ofInt k.bits a&&& ~~~BitVec.ofInt k.bits b).toNat))
 | .eql=>some (.bool (a==b))
 | .neq=>some (.bool (a !=b))
 | .lss=>some (.bool (decide (a<b)))
 | .leq=>some (.bool (decide (a<=b)))
 | .gtr=>some (.bool (decide (a>b)))
 | .geq=>some (.bool (decide (a>=b)))
 |_=>none
theorem Vm {op:BinOp} {t:TypeId} {k:IntKind} {a b:Int} {v:Value} (h:NL op k a b=some v) (w:World):(binOp op t (.int k a) (.int k b)).run P w=.ok v w:=by
 cases op<;>simp only[NL] at h<;>try cases h
 case quo=>
  split at h
  ·cases h
  ·rename_i c;cases h;simp[binOp,Op.intDiv,c]
 case rem=>
  split at h
  ·cases h
  ·rename_i c;cases h;simp[binOp,Op.intDiv,c]
 all_goals simp[binOp,Op.intArith,Op.intBits,Op.intCmp]
def Ps (op:BinOp) (k:IntKind) (a b:Int):Option Value:=
 if b<0 then none else
 match op with
 | .shl=>some (.int k (k.wrap (a*2^(min b.toNat k.bits))))
 | .shr=>some (.int k (a.fdiv (2^(min b.toNat k.bits))))
 |_=>none
theorem Pt {op:BinOp} {t:TypeId} {k c:IntKind} {a b:Int} {v:Value} (h:Ps op k a b=some v) (w:World):(binOp op t (.int k a) (.int c b)).run P w=.ok v w:=by
 unfold Ps at h
 split at h
 ·cases h
 ·rename_i d;cases op<;>simp only at h<;>cases h<;>simp[binOp,Op.shift,d]
def cI (T:TE) (t:TypeId) (x y:Value):Option Bool:=
 match x,y with
 | .bool a,.bool b=>match T.und t with
   |some .bool=>some (a==b)
   |_=>none
 | .pointer none,.pointer b=>match T.und t with
   |some (.pointer _)=>some b.isNone
   |_=>none
 | .pointer (some _),.pointer none=>match T.und t with
   |some (.pointer _)=>some false
   |_=>none
 | .pointer (some ⟨i,o,none⟩),.pointer (some ⟨j,p,none⟩)=>match T.und t with
   |some (.pointer e)=>match T.inf e with
    |some c=>bif Nat.beq i j&& !Nat.beq c.size 0 then some (Nat.beq o p) else none
    |none=>none
   |_=>none
 | .slice none _ _,.slice b _ _=>match T.und t with
   |some (.slice _)=>some b.isNone
   |_=>none
 | .slice (some _) _ _,.slice none _ _=>match T.und t with
   |some (.slice _)=>some false
   |_=>none
 | .nilIface,.iface _ _=>match T.und t with
   |some (.interface _)=>some false
   |_=>none
 | .iface _ _,.nilIface=>match T.und t with
   |some (.interface _)=>some false
   |_=>none
 | .func ..,.nilFunc=>match T.und t with
   |some (.func ..)=>some false
   |_=>none
 | .nilFunc,.func .. =>match T.und t with
   |some (.func ..)=>some false
   |_=>none
 |_,_=>none
theorem VR.ptr_shape {a:Addr} {v':Value} (h:VR D ι (.pointer (some a)) v'):∃d,v'=.pointer (some d):=by
 cases h with
 |ptr id off h=>exact⟨_,rfl⟩
 |pel id i j b o l c h e=>exact⟨_,rfl⟩
theorem VR.sl_shape {a:Addr} {l c:Nat} {v':Value} (h:VR D ι (.slice (some a) l c) v'):∃b d,v'=.slice (some b) l d:=by
 cases h with
 |slK id off l c h g=>exact⟨_,_,rfl⟩
 |slU id off l c h e f=>exact⟨_,_,rfl⟩
 |slE id off i c h e f=>exact⟨_,_,rfl⟩
include hT
theorem TF {t:TypeId} {x k y n:Value} {b:Bool} (h:cI T t x y=some b) (g:VR D ι x k) (f:VR D ι y n) (w:World):
  (Op.equal t k n).run P w=.ok b w/\(k=.nilIface->n≠ .nilIface)/\(∀c,k≠ .agg c):=by
 have q:Op.equal t k n=Op.equalIn (9999+1) t k n:=rfl;rw[q,Op.equalIn];simp only[Sem.run_bind];unfold cI at h
 split at h
 ·split at h
  ·rename_i d;cases h;cases g;cases f;exact⟨by simp only[AK hT d,Result.andThen_ok,Sem.run_pure]<;>rfl,by simp,by simp⟩
  ·cases h
 ·rename_i r
  split at h
  ·rename_i e d;cases h;cases g;cases r with
   |none=>cases f;exact⟨by simp only[AK hT d,Result.andThen_ok,Sem.run_pure]<;>rfl,by simp,by simp⟩
   |some a=>obtain⟨s,rfl⟩:=f.ptr_shape;exact⟨by simp only[AK hT d,Result.andThen_ok,Sem.run_pure]<;>rfl,by simp,by simp⟩
  ·cases h
 ·split at h
  ·rename_i d;cases h;cases f;obtain⟨s,rfl⟩:=g.ptr_shape;exact⟨by simp only[AK hT d,Result.andThen_ok,Sem.run_pure]<;>rfl,by simp,by simp⟩
  ·cases h
 ·rename_i i o j p
  split at h
  ·rename_i e d
   split at h
   ·rename_i v z;cases m:(Nat.beq i j&& !Nat.beq v.size 0)
    ·rw[m] at h;cases h
    ·rw[m,cond_true] at h;rw[Bool.and_eq_true] at m;have u:=Nat.eq_of_beq_eq_true m.1;subst u;have A:v.size≠0:=λe=>by rw[e] at m;cases m.2
     cases h;obtain⟨rfl,_⟩:=g.ptr_inv;obtain⟨rfl,_⟩:=f.ptr_inv;refine⟨?_,by simp,by simp⟩;have:((⟨(ι i).blk,(ι i).base+o,none⟩:Addr)==⟨(ι i).blk,(ι i).base+p,none⟩)=Nat.beq o p:=by
      by_cases e:o=p
      ·subst e;rw[Cc rfl];simp
      ·rw[UG e];simp only[beq_eq_false_iff_ne,ne_eq,Addr.mk.injEq,true_and,and_true];omega
     have B:(sameAddr ⟨(ι i).blk,(ι i).base+o,none⟩ ⟨(ι i).blk,(ι i).base+p,none⟩).run P w=.ok (Nat.beq o p) w:=by
      simp only[sameAddr,beq_self_eq_true,if_true,Sem.run_pure,this]
     simp only[AK hT d,Result.andThen_ok,Sem.run_bind,Ao hT z,ne_eq,A,not_false_eq_true,if_true,B]
   ·cases h
  ·cases h
 ·rename_i r l c
  split at h
  ·rename_i d;cases h;cases g;cases r with
   |none=>cases f;exact⟨by simp only[AK hT d,Result.andThen_ok,Sem.run_pure]<;>rfl,by simp,by simp⟩
   |some a=>obtain⟨s,C,rfl⟩:=f.sl_shape;exact⟨by simp only[AK hT d,Result.andThen_ok,Sem.run_pure]<;>rfl,by simp,by simp⟩
  ·cases h
 ·split at h
  ·rename_i d;cases h;cases f;obtain⟨s,C,rfl⟩:=g.sl_shape;exact⟨by simp only[AK hT d,Result.andThen_ok,Sem.run_pure]<;>rfl,by simp,by simp⟩
  ·cases h
 ·split at h
  ·rename_i d;cases h;cases g;cases f;exact⟨by simp only[AK hT d,Result.andThen_ok,Sem.run_pure]<;>rfl,by simp,by simp⟩
  ·cases h
 ·split at h
  ·rename_i d;cases h;cases g;cases f;exact⟨by simp only[AK hT d,Result.andThen_ok,Sem.run_pure]<;>rfl,by simp,by simp⟩
  ·cases h
 ·split at h
  ·rename_i d;cases h;cases g;cases f;exact⟨by simp only[AK hT d,Result.andThen_ok,Sem.run_pure]<;>rfl,by simp,by simp⟩
  ·cases h
 ·split at h
  ·rename_i d;cases h;cases g;cases f;exact⟨by simp only[AK hT d,Result.andThen_ok,Sem.run_pure]<;>rfl,by simp,by simp⟩
  ·cases h
 ·cases h
end
end Go.Eng
end
end
section
noncomputable section
namespace Go.Eng
open Go
section
variable {P:Program} {T:TE} (hT:T.OK P) {D:Nat->Prop} {ι:Nat->Reg} {σ:St} {w:World}
def NM (T:TE) (σ:St) (t:TypeId) (x:Value):Option R:=
 match x with
 | .pointer none=>some ⟨.pointer none,σ,.nil⟩
 | .pointer (some ⟨id,off,none⟩)=>match σ.heap.get id,T.inf t with
   |some (.row a _ _),some j=>bif Nat.ble (off+1) a.length&& !Nat.beq j.size 0 then some ⟨.pointer (some ⟨id,off,none⟩),σ,⟨[(id,off)],[],[],[]⟩⟩ else none
   |_,_=>none
 |_=>none
def Hh (T:TE) (σ:St) (t:TypeId) (x:Value):Option R:=
 match x with
 | .pointer none=>some ⟨.pointer none,σ,.nil⟩
 | .pointer (some ⟨id,off,none⟩)=>match σ.heap.get id,T.inf t with
   |some (.row a e false),some j=>bif Nat.beq e t&&Nat.beq (Nat.mod off j.size) 0&&Nat.ble (off+j.size) a.length&& !Nat.beq j.size 0 then some ⟨.pointer (some ⟨id,off,none⟩),σ,⟨[(id,off)],[],[],[]⟩⟩ else none
   |_,_=>none
 |_=>none
def Ix (x:Value):Option Value:=
 match x with
 | .slice none _ _=>some (.pointer none)
 | .slice (some ⟨id,off,none⟩) l c=>bif Nat.beq c Ew then bif Nat.beq l 0 then none else some (.pointer (some ⟨id,off,none⟩)) else bif Nat.beq c 0 then none else some (.pointer (some ⟨id,off,none⟩))
 |_=>none
def Hi (T:TE) (σ:St) (d:TypeId) (x:Value) (n:Int):Option R:=
 match n with
 | .ofNat 0=>match x with
   | .pointer _=>some ⟨.string .empty,σ,.nil⟩
   |_=>none
 | .ofNat n=>match x,T.und d with
   | .pointer (some ⟨id,off,none⟩),some (.pointer e)=>match σ.heap.get id,T.inf e with
     |some (.row c a false),some j=>bif Nat.beq e a&&Nat.beq j.size 1&&Nat.ble n 9223372036854775807 then
      match DB c off n with
      |some l=>match CC l with
       |some b=>some ⟨.string ⟨b.toArray⟩,σ.put id (some (.row c a true)),⟨[],[],[],[id]⟩⟩
       |none=>none
      |none=>none
      else none
     |_,_=>none
   |_,_=>none
 |_=>none
theorem Pu {p:Program} {u count off s n:Nat} (a:p.cellsOf u=s) (b:s≠0) (c:off%s=0) (d:off/s+n<=count):liesAt p p.depth u count off u n=true:=by
 have hd:p.depth=(2*(p.types.size+Made.depth)+1)+1:=rfl;rw[hd];unfold liesAt;rw[Bool.or_eq_true];refine .inl ?_;rw[hd];unfold rowAt;simp only[a,if_neg b];rw[Bool.or_eq_true];refine .inl ?_;have:sameLayout p (2*(p.types.size+Made.depth)+1+1) u u=true:=by
  unfold sameLayout;rw[Bool.or_eq_true];exact .inl (by simp)
 simp only[c,this,BEq.rfl,Bool.true_and,Bool.and_true,decide_eq_true_eq];exact d
theorem TG {w:World} {a:Addr} {v:Value} (h:w.cell? a=some v):(load a).run P w=.ok v w:=by
 simp[load,Sem.run,h]
theorem Ji:∀{l:List Value} {b:L8},CC l=some b->∀{j:Nat} {v:Value},l[j]?=some v->∃m,v=.int .u8 m
 |[],_,_,_,_,h=>by simp at h
 |v::l,b,a,j,u,h=>by
  simp only[CC] at a
  split at a
  ·rename_i e c
   split at a
   ·rename_i f d;obtain⟨n,rfl,_⟩:=GF c;rcases j with _|j
    ·simp at h;exact⟨n,h.symm⟩
    ·exact Ji d (by simpa using h)
   ·cases a
  ·cases a
theorem NN {w:World} {b:Nat} {c:Array Value} {e:TypeId} {fr:Nat×Nat} (h:w.heap[b]?=some (.cells c e fr)):w.shape? b=some (e,c.size):=by
 simp[World.shape?,h]
include hT
theorem Ra {src dst t:TypeId} {x d:Value} {r:R} (f:P.underlying src=some (.pointer t)) (hd:P.underlying dst=some .unsafePointer) (h:NM T σ t x=some r) (g:VR D ι x d):
  AF P D ι σ w (convert src dst d) r:=by
 unfold NM at h
 split at h
 ·cases h;cases g;refine AF.pure (v':=.pointer none) ?_ .ptrN;simp only[convert,Sem.run_bind,run_underlying f,run_underlying hd,Result.andThen_ok,Conv.unsafePointer,Sem.run_pure]
 ·rename_i id off;obtain⟨rfl,k⟩:=g.ptr_inv
  split at h
  ·rename_i l e q j m n;cases a:(Nat.ble (off+1) l.length&& !Nat.beq j.size 0)
   ·rw[a] at h;cases h
   ·rw[a,cond_true] at h;cases h;rw[Bool.and_eq_true] at a;obtain⟨i,b⟩:=a;have i:=Nat.le_of_ble_eq_true i;have b:j.size≠0:=λe=>by rw[Cc e] at b;cases b
    refine AF.same (w':=w) (v':=.pointer (some ⟨(ι id).blk,(ι id).base+off,none⟩)) (λo=> ?_) rfl rfl;obtain⟨c,s,fr,p,u,v,_⟩:=o.hd id _ (.inl ⟨off,by simp⟩) (St.hdr_of m);exact⟨Lib.run_to_unsafe w _ f hd (hT.inf _ _ n) b (NN p) (by simp only;omega),.ptr id off k,rfl,rfl,rfl⟩
  ·cases h
 ·cases h
theorem NO {src dst t:TypeId} {x l:Value} {r:R} (m:P.underlying src=some .unsafePointer) (hd:P.underlying dst=some (.pointer t)) (h:Hh T σ t x=some r) (n:VR D ι x l):
  AF P D ι σ w (convert src dst l) r:=by
 unfold Hh at h
 split at h
 ·cases h;cases n;refine AF.pure (v':=.pointer none) ?_ .ptrN;simp only[convert,Sem.run_bind,run_underlying m,run_underlying hd,Result.andThen_ok,Conv.unsafePointer,Sem.run_pure]
 ·rename_i id off;obtain⟨rfl,s⟩:=n.ptr_inv
  split at h
  ·rename_i u e j v d;cases b:(Nat.beq e t&&Nat.beq (Nat.mod off j.size) 0&&Nat.ble (off+j.size) u.length&& !Nat.beq j.size 0)
   ·rw[b] at h;cases h
   ·rw[b,cond_true] at h;cases h;rw[Bool.and_eq_true,Bool.and_eq_true,Bool.and_eq_true] at b;obtain⟨⟨⟨f,g⟩,o⟩,a⟩:=b;have f:=Nat.eq_of_beq_eq_true f;have g:off%j.size=0:=Nat.eq_of_beq_eq_true g;have o:=Nat.le_of_ble_eq_true o;have a:j.size≠0:=λe=>by rw[Cc e] at a;cases a
    subst f;refine AF.same (w':=w) (v':=.pointer (some ⟨(ι id).blk,(ι id).base+off,none⟩)) (λy=> ?_) rfl rfl;obtain⟨c,C,fr,p,E,F,G,i⟩:=y.hd id _ (.inl ⟨off,by simp⟩) (St.hdr_of v);obtain⟨z,A,H⟩:=i rfl;obtain⟨g1,B,g3⟩:=A _ (hT.inf _ _ d);rw[z] at p;have q:P.cellsOf e=j.size:=by simp[Program.cellsOf,hT.inf _ _ d]
    refine⟨Lib.run_from_unsafe w _ m hd (hT.inf _ _ d) (NN p) (Pu q a ?_ ?_),.ptr id off s,rfl,rfl,rfl⟩
    ·simp only;rw[Nat.add_mod,B,g];simp
    ·simp only;rw[q];have k:(ι id).base+off+j.size<=c.size:=by omega
     have:((ι id).base+off+j.size)/j.size<=c.size/j.size:=Nat.div_le_div_right k;rwa[Nat.add_div_right _ (Nat.pos_of_ne_zero a)] at this
  ·cases h
 ·cases h
omit hT
theorem Kp {ts:Array TypeId} {ty:TypeId} {x k v:Value} (h:Ix x=some v) (i:VR D ι x k):AF P D ι σ w (Builtin.unsafeSliceData_ ts ty #[k]) ⟨v,σ,.nil⟩:=by
 unfold Ix at h
 split at h
 ·cases h;cases i;exact AF.pure rfl .ptrN
 ·rename_i id off l c;have key:∀(a:Addr) (l c:Nat),c≠0->(Builtin.unsafeSliceData_ ts ty #[.slice (some a) l c]).run P w=.ok (.pointer (some a)) w:=λa l c b=>Lib.run_unsafeSliceData_row _ _ _ _ _ _ b
  cases d:Nat.beq c Ew
  ·rw[d,cond_false] at h;cases b:Nat.beq c 0
   ·rw[b] at h;cases h;have f:c≠0:=λe=>by rw[Cc e] at b;cases b
    have j:c≠Ew:=λe=>by rw[Cc e] at d;cases d
    cases i with
    |slK _ _ _ _ g _=>exact AF.pure (key _ _ _ f) (.ptr id off g)
    |slU _ _ _ _ g _ _=>exact absurd rfl j
   ·rw[b] at h;cases h
  ·rw[d,cond_true] at h;cases b:Nat.beq l 0
   ·rw[b] at h;cases h;have f:l≠0:=λe=>by rw[Cc e] at b;cases b
    have m:=Nat.eq_of_beq_eq_true d;cases i with
    |slK _ _ _ _ g b=>exact absurd m b
    |slU _ _ _ n g o _=>exact AF.pure (key _ _ _ (by omega)) (.ptr id off g)
   ·rw[b] at h;cases h
 ·cases h
theorem Post.freeze {w w':World} {id:Nat} {l:List Value} {a:TypeId} (f:σ.heap.get id=some (.row l a false)) {φ:Foot} (hφ:φ.Fi id) (hall:∀k,φ.Fc id k) (m:HOn P D ι σ.H φ w)
  {c:Array Value} {e:TypeId} {fr fr':Nat×Nat} (n:w.heap[(ι id).blk]?=some (.cells c e fr)) (o:w'.heap[(ι id).blk]?=some (.cells c e fr')) (r:∀b,b≠(ι id).blk->w'.heap[b]?=w.heap[b]?)
  (C:w'.heap.size=w.heap.size) (s:w'.os=w.os) (t:w'.output=w.output):
  Post P D (σ.rng (σ.put id (some (.row l a true)))) ι σ.H w ⟨[],[],[],[id]⟩ ι (σ.put id (some (.row l a true))).H w' where
 io:=λ_ _=>rfl
 size:=by omega
 os:=s
 out:=t
 hdr:=by
  rintro j x (hx|hx) e
  ·have:j=id:=by simpa[Foot.Wi] using hx
   subst this;rw[St.put_hdr,if_pos rfl] at e;cases e;obtain⟨c0,E,u,g1,z,g3,g4,_⟩:=m.hd j _ hφ (St.hdr_of f);rw[n] at g1;cases g1;exact⟨c,_,fr',o,z,g3,g4,λh=>by cases h⟩
  ·simp only[St.rng,St.put] at hx;omega
 cel:=by
  rintro j k v (hx|hx) lv e
  ·have:j=id:=by simpa[Foot.Wc] using hx
   subst this;rw[St.put_cell,if_pos rfl] at e;obtain⟨g,v',p,A⟩:=m.ce j k v (hall k) (St.lv_of f) (by rw[St.cell_of f];exact e);refine⟨g,v',?_,A.mono (λ_=>.inl) λ_ _=>rfl⟩;simp only[World.cell?,n,o] at p⊢;exact p
  ·simp only[St.rng,St.put] at hx;omega
 ahdr:=λj _ hx=>by rw[St.put_hdr,if_neg λe=>hx (by simp[Foot.Wi,e])]
 acel:=λj k _ hx=>by rw[St.put_cell,if_neg λe=>hx (by simp[Foot.Wc,e])]
 cfr:=λb F hx=>by
  have:(ι id).blk≠b:=λe=>hx id (by simp[Foot.Wi]) ⟨_,St.hdr_of f,rfl⟩ ⟨(m.hd id _ hφ (St.hdr_of f)).own_row.1,e⟩
  rw[r b (Ne.symm this)];exact BC.refl _ _
 fresh:=λj d=>by simp only[St.rng,St.put] at d;omega
 freshF:=λj d=>by simp only[St.rng,St.put] at d;omega
 dist:=λi j d=>by simp only[St.rng,St.put] at d;omega
 nl:=λj d=>by simp only[St.rng,St.put] at d;omega
 wl:=λj k hx _=>by
  have:j=id:=by simpa[Foot.Wc] using hx
  subst this;exact St.lv_of f
 wrm:=λj _ hx=>by
  by_cases e:j=id
  ·subst e;exact⟨_,St.hdr_of f,rfl⟩
  ·obtain⟨y,q,B⟩:=hx;rw[St.put_hdr,if_neg e] at q;exact⟨y,q,B⟩
 wrow:=λj k hx d=>absurd (by rcases hx with hx|hx;cases hx;exact hx) d
theorem Ib (g:Nat):∀(l:List Value) (b:L8) (o:Nat) (a:ByteArray),CC l=some b->(∀(j:Nat) v,l[j]?=some v->w.cell? ⟨g,o+j,none⟩=some v)->(loadBytes ⟨g,o,none⟩ a l.length).run P w=.ok ⟨a.data++b.toArray⟩ w
 |[],b,o,a,c,_=>by
  simp only[CC,Option.some.injEq] at c;subst c;simp[loadBytes]
 |v::l,b,o,a,c,h=>by
  simp only[CC] at c
  split at c
  ·rename_i q d
   split at c
   ·rename_i i f;cases c;obtain⟨n,rfl,rfl⟩:=GF d;have k:=h 0 _ rfl;have m:=Ib g l i (o+1) (a.push n.toNat.toUInt8) f λj u p=>by
     have:=h (j+1) u (by simpa using p);rw[<-this];congr 2;omega
    have e:(load ⟨g,o,none⟩).run P w=.ok (.int .u8 n) w:=TG k;simp only[List.length_cons,loadBytes,Sem.run_bind,e,Result.andThen_ok,BF,m];congr 1;apply ByteArray.ext;simp
   ·cases c
  ·cases c
theorem LP (ts:Array TypeId) (ty:TypeId) (a:Addr) (x:Value):Builtin.unsafeString_ ts ty #[.pointer (some a),x]=
 (do
  let n<-asInt x
  let some pt:=ts[0]?|stuck "unsafe.String: no argument types"
  if n<0 then runtimePanic (.error "unsafe.String: len out of range")
  if n>IntKind.i64.max then unsupported (.unsafePointer "String: a length above the largest int")
  if n=0 then Pure.pure (.string .empty)
  else if <-variablesAt a (<-elemOf pt) n.toNat then do
   let s<-loadBytes a .empty n.toNat
   freeze a n.toNat
   Pure.pure (.string s)
  else unsupported (.unsafePointer "String: not so many bytes at ptr")):=rfl
theorem TH (ts:Array TypeId) (ty:TypeId) (x:Value):Builtin.unsafeString_ ts ty #[.pointer none,x]=
 (do
  let n<-asInt x;let some _:=ts[0]?|stuck "unsafe.String: no argument types"
  if n<0 then runtimePanic (.error "unsafe.String: len out of range")
  if n>IntKind.i64.max then unsupported (.unsafePointer "String: a length above the largest int")
  if n=0 then Pure.pure (.string .empty)
  else runtimePanic (.error "unsafe.String: ptr is nil and len is not zero")):=rfl
include hT
theorem NP {ts : Array TypeId} {E ty : TypeId} {Q : List TypeId} {x F : Value} {k : IntKind} {n : Int} {r : R} (B : ts.toList = E :: Q) (h : Hi T σ E x n = some r) (N : VR D ι x F) :
    AF P D ι σ w (Builtin.unsafeString_ ts ty #[F, .int k n]) r := by
  have B : ts[0]? = some E := by rw [← Array.getElem?_toList, B]; rfl
  unfold Hi at h
  have f : IntKind.i64.max = 9223372036854775807 := rfl
  split at h
  · split at h
    · cases h
      have S : ∃ a, F = .pointer a := by cases N <;> exact ⟨_, rfl⟩
      obtain ⟨a, rfl⟩ := S
      refine AF.pure (v' := .string .empty) ?_ (.string _)
      cases a <;> simp [LP, TH, asInt, asIntOf, f, B]
    · cases h
  · rename_i n d
    have d : n ≠ 0 := fun e => d (by rw [e])
    split at h
    · rename_i id off e U
      obtain ⟨rfl, hD⟩ := N.ptr_inv
      split at h
      · rename_i cs s j t G
        cases q : (Nat.beq e s && Nat.beq j.size 1 && Nat.ble n 9223372036854775807)
        · rw [q] at h; cases h
        · rw [q, cond_true] at h
          rw [Bool.and_eq_true, Bool.and_eq_true] at q
          obtain ⟨⟨H, I⟩, O⟩ := q
          have H := Nat.eq_of_beq_eq_true H
          have I := Nat.eq_of_beq_eq_true I
          have O := Nat.le_of_ble_eq_true O
          split at h
          · rename_i l V
            split at h
            · rename_i b u
              cases h
              refine ⟨Nat.le_refl _, fun J => ⟨St.put_wf J (St.lv_lt J (St.lv_of t)) _, AFr.whole (by simp)⟩, fun J _ K => ?_⟩
              have hall : ∀ k, (⟨[], [], [], [id]⟩ : Foot).Fc id k := fun k => .inr (.inr (.inr (by simp)))
              obtain ⟨c, e', fr, g, e2, e3, eo, L⟩ := K.hd id _ (hall 0).fi (St.hdr_of t)
              obtain ⟨W, e4, e5⟩ := L rfl
              rw [W] at g
              obtain ⟨X, q2, Y⟩ := Ck _ _ _ _ V
              have i : ∀ (j : Nat) v, l[j]? = some v → w.cell? ⟨(ι id).blk, (ι id).base + off + j, none⟩ = some v := by
                intro j v C
                have G : j < n := by
                  rcases Nat.lt_or_ge j l.length with h | h
                  · omega
                  · rw [List.getElem?_eq_none h] at C; cases C
                obtain ⟨-, v', y, Z⟩ := K.ce id (off + j) v (hall _) (St.lv_of t) (by rw [St.cell_of t, ← Y j G]; exact C)
                have : v' = v := by
                  obtain ⟨m, rfl⟩ := Ji u C
                  cases Z; rfl
                rw [this] at y
                rw [← y, Nat.add_assoc]
              have o := Ib (P := P) (w := w) _ l b _ .empty u i
              rw [X] at o
              have z : P.cellsOf e = 1 := by simp [Program.cellsOf, hT.inf _ _ G, I]
              have p : liesAt P P.depth e (c.size / P.cellsOf e) ((ι id).base + off) e n = true := Pu z (by decide) (Nat.mod_one _) (by simp only [z, Nat.div_one]; omega)
              refine ⟨.string ⟨b.toArray⟩, ι, w.freeze ⟨(ι id).blk, (ι id).base + off, none⟩ n, ?_, .string _, ?_⟩
              · have M : ¬ (9223372036854775807 : Int) < (n : Int) := by omega
                have A : ¬ (n : Int) < 0 := by omega
                have he : ((⟨(ByteArray.empty).data ++ b.toArray⟩ : ByteArray)) = ⟨b.toArray⟩ := by apply ByteArray.ext; simp
                rw [he] at o
                rw [← H] at g
                simp [LP, asInt, asIntOf, f, B, M, A, d, variablesAt, NN g, elemOf, AK hT U, p, o]
              · have hlt : (ι id).blk < w.heap.size := by
                  rcases Nat.lt_or_ge (ι id).blk w.heap.size with h | h
                  · exact h
                  · rw [Array.getElem?_eq_none h] at g; cases g
                refine Post.freeze t (hall 0).fi hall K g (w' := w.freeze ⟨(ι id).blk, (ι id).base + off, none⟩ n) (fr' := if fr.1 == fr.2 then ((ι id).base + off, (ι id).base + off + n) else (min fr.1 ((ι id).base + off), max fr.2 ((ι id).base + off + n))) ?_ ?_ ?_ ?_ ?_
                · simp [World.freeze, d, Array.getElem?_modify, g]
                · intro b q
                  simp [World.freeze, d, Array.getElem?_modify, Ne.symm q]
                · simp [World.freeze, d]
                · simp [World.freeze, d]
                · simp [World.freeze, d]
            · cases h
          · cases h
      · cases h
    · cases h
  · cases h
end
end Go.Eng
end
end
section
noncomputable section
noncomputable section
namespace Go.Eng
open Go
section
variable {P:Program} {T:TE} (hT:T.OK P) {D:Nat->Prop} {ι:Nat->Reg} {σ:St} {w:World}
def AAw:Value->Bool
 | .tuple a=>match a.toList with
   |[.chan (some 1),_]=>true
   |_=>false
 |_=>false
def Bm (v:Value):Option Value:=
 match v with
 | .tuple a=>match a.toList with
   |[.chan (some 1),v]=>some v
   |_=>none
 | .bool b=>some (.bool b)
 | .int k n=>some (.int k n)
 | .string s=>some (.string s)
 | .float k n=>some (.float k n)
 | .complex k a b=>some (.complex k a b)
 |_=>none
theorem cJ {v a:Value} (h:VR D ι (sy v) a):a=v/\IX v=true:=by
 cases h with
 |sym _ h=>exact⟨rfl,h⟩
 |tuple as bs b h=>
  have c:bs[0]?=some (bs[0]'(by rw[<-b];exact Nat.succ_pos _)):=Array.getElem?_eq_getElem _;exact(h 0 _ _ rfl c).no_chan.elim
theorem BG {a:Array Value} {l:List Value} (h:a.toList=l):a=⟨l⟩:=by cases a;simp only at h;rw[h]
theorem AZ {x c v:Value} (h:Bm x=some v) (b:VR D ι x c):c=v/\IX v=true:=by
 unfold Bm at h
 split at h
 ·rename_i a
  split at h
  ·rename_i u d;cases h;rw[BG d] at b;exact cJ b
  ·cases h
 ·cases h;cases b;exact⟨rfl,rfl⟩
 ·cases h;cases b;exact⟨rfl,rfl⟩
 ·cases h;cases b;exact⟨rfl,rfl⟩
 ·cases h;cases b;exact⟨rfl,rfl⟩
 ·cases h;cases b;exact⟨rfl,rfl⟩
 ·cases h
def Ad (k:IntKind) (n:Int):Prop:=k.min<=n/\n<=k.max
instance (k:IntKind) (n:Int):Decidable (Ad k n):=Classical.propDecidable _
theorem Hj {k:IntKind} {n:Int} (h:Ad k n):k.wrap n=n:=by
 obtain⟨a,b⟩:=h;have key:∀(s:Bool) (m q:Int),(if(s&&decide (m>=q))=true then m-2*q else m)=if s=true/\m>=q then m-2*q else m:=by
  intro s m q;cases s<;>simp
 cases k
 ·show(if(true&&decide (n%2^8>=(2^7:Int)))=true then n%2^8-2*(2^7:Int) else n%2^8)=n;have a: -(2^7:Int)<=n:=a;have b:n<=2^7-1:=b;rw[key];simp only[true_and];split<;>omega
 ·show(if(true&&decide (n%2^16>=(2^15:Int)))=true then n%2^16-2*(2^15:Int) else n%2^16)=n;have a: -(2^15:Int)<=n:=a;have b:n<=2^15-1:=b;rw[key];simp only[true_and];split<;>omega
 ·show(if(true&&decide (n%2^32>=(2^31:Int)))=true then n%2^32-2*(2^31:Int) else n%2^32)=n;have a: -(2^31:Int)<=n:=a;have b:n<=2^31-1:=b;rw[key];simp only[true_and];split<;>omega
 ·show(if(true&&decide (n%2^64>=(2^63:Int)))=true then n%2^64-2*(2^63:Int) else n%2^64)=n;have a: -(2^63:Int)<=n:=a;have b:n<=2^63-1:=b;rw[key];simp only[true_and];split<;>omega
 ·have a:0<=n:=a;have b:n<=2^8-1:=b;show n%2^8=n;omega
 ·have a:0<=n:=a;have b:n<=2^16-1:=b;show n%2^16=n;omega
 ·have a:0<=n:=a;have b:n<=2^32-1:=b;show n%2^32=n;omega
 ·have a:0<=n:=a;have b:n<=2^64-1:=b;show n%2^64=n;omega
def C8 (s:ByteArray):L8:=s.data.toList
theorem Iy (s:ByteArray):bs (C8 s)=s:=by cases s;rfl
theorem cK (l:L8):C8 (bs l)=l:=rfl
theorem Da (s:ByteArray):s.size=(C8 s).length:=by show s.data.size=s.data.toList.length;exact Array.length_toList.symm
theorem iV (a b:ByteArray):a++b=bs (C8 a++C8 b):=by
 apply ByteArray.ext;simp[bs,C8]
theorem El (s:ByteArray):s.toList=C8 s:=Jh s
def SV:Type:=Value×List Bool
def sI (k:IntKind) (n:Int):SV:=bif k.signed then(.int k n,[decide (Ad k n)]) else(.int k (k.wrap n),[])
theorem Jj {k:IntKind} {n:Int} {r:SV} (h:sI k n=r) (b:C5 r.2):r.1=.int k (k.wrap n):=by
 unfold sI at h;cases a:k.signed
 ·rw[a] at h;subst h;rfl
 ·rw[a] at h;subst h;have:Ad k n:=of_decide_eq_true b.1;show Value.int k n=_;rw[Hj this]
def Kq (op:BinOp) (k:FloatKind) (a b:Nat):Bool:=
 match op with
 | .eql=>k.format.order a b==some .eq
 | .neq=>k.format.order a b !=some .eq
 | .lss=>k.format.order a b==some .lt
 | .leq=>k.format.order a b==some .lt||k.format.order a b==some .eq
 | .gtr=>k.format.order a b==some .gt
 | .geq=>k.format.order a b==some .gt||k.format.order a b==some .eq
 |_=>false
def lW:BinOp->Bool
 | .eql| .neq| .lss| .leq| .gtr| .geq=>true
 |_=>false
def lX (op:BinOp) (x y:Nat):Option Nat:=
 match op with
 | .add=>FloatKind.f64.format.add x y
 | .sub=>FloatKind.f64.format.sub x y
 | .mul=>FloatKind.f64.format.mul x y
 |_=>none
def fA (op:BinOp) (x y:Nat):Nat:=(lX op x y).getD 0
def JO (op:BinOp) (x y:Nat):Bool:=(lX op x y).isSome
theorem cL {op:BinOp} {x y:Nat} (h:JO op x y=true):lX op x y=some (fA op x y):=by
 unfold JO at h;unfold fA;cases e:lX op x y
 ·rw[e] at h;cases h
 ·rfl
theorem Xp {P:Program} {w:World} {op:BinOp} {x y:Nat} (h:JO op x y=true):(Op.floatArith op .f64 x y).run P w=.ok (.float .f64 (fA op x y)) w:=by
 have h:=cL h;unfold lX at h;cases op<;>simp only at h<;>first|(cases h;done)|skip
 all_goals simp[Op.floatArith,h]
theorem E7 {P:Program} {w:World} {op:BinOp} {x y:Nat} (h:JO op x y=true):(Op.Complex.arith op .f64 x y).run P w=.ok (fA op x y) w:=by
 simp only[Op.Complex.arith,Sem.run_bind,Xp h,Result.andThen_ok,Sem.run_pure]
theorem ZH {P:Program} {w:World} {x:Nat}:(Op.Complex.conv .f64 x .f64).run P w=.ok x w:=rfl
def cM (op:BinOp) (x y:Value):Option SV:=
 match x,y with
 | .int k a,.int e b=>match op with
   | .shl=>some (.int k (k.wrap (a*2^(min b.toNat k.bits))),[decide (0<=b)])
   | .shr=>some (.int k (a.fdiv (2^(min b.toNat k.bits))),[decide (0<=b)])
   |_=>bif decide (k=e) then match op with
    | .add=>some (sI k (a+b))
    | .sub=>some (sI k (a-b))
    | .mul=>some (sI k (a*b))
    | .quo=>bif k.signed then some (.int k (a.tdiv b),[decide (b≠0),decide (Ad k (a.tdiv b))]) else some (.int k (k.wrap (a.tdiv b)),[decide (b≠0)])
    | .rem=>some (.int k (a.tmod b),[decide (b≠0)])
    | .and=>some (.int k (k.wrap (BitVec.ofInt k.bits a&&&BitVec.ofInt k.bits b).toNat),[])
    | .or=>some (.int k (k.wrap (BitVec.ofInt k.bits a|||BitVec.ofInt k.bits b).toNat),[])
    | .xor=>some (.int k (k.wrap (BitVec.ofInt k.bits a^^^BitVec.ofInt k.bits b).toNat),[])
    | .andNot=>some (.int k (k.wrap (BitVec.ofInt k.bits a&&& ~~~BitVec.ofInt k.bits b).toNat),[])
    | .eql=>some (.bool (a==b),[])
    | .neq=>some (.bool (a !=b),[])
    | .lss=>some (.bool (decide (a<b)),[])
    | .leq=>some (.bool (decide (a<=b)),[])
    | .gtr=>some (.bool (decide (a>b)),[])
    | .geq=>some (.bool (decide (a>=b)),[])
    |_=>none
   else none
 | .string a,.string b=>match op with
   | .add=>some (.string (bs (C8 a++C8 b)),[decide ((C8 a).length+(C8 b).length<=1099511627776)])
   | .eql=>some (.bool (C8 a==C8 b),[])
   | .neq=>some (.bool (!(C8 a==C8 b)),[])
   | .lss=>some (.bool (Op.bytesLess (C8 a) (C8 b)),[])
   | .leq=>some (.bool (Op.bytesLess (C8 a) (C8 b)||C8 a==C8 b),[])
   | .gtr=>some (.bool (!(Op.bytesLess (C8 a) (C8 b)||C8 a==C8 b)),[])
   | .geq=>some (.bool (!Op.bytesLess (C8 a) (C8 b)),[])
   |_=>none
 | .bool a,.bool b=>match op with
   | .eql=>some (.bool (a==b),[])
   | .neq=>some (.bool (!(a==b)),[])
   |_=>none
 | .float k a,.float e b=>bif decide (k=e)&&lW op then some (.bool (Kq op k a b),[]) else bif decide (k=.f64/\e=.f64) then(match op with
   | .add=>some (.float .f64 (fA .add a b),[JO .add a b])
   | .sub=>some (.float .f64 (fA .sub a b),[JO .sub a b])
   | .mul=>some (.float .f64 (fA .mul a b),[JO .mul a b])
   |_=>none) else none
 | .complex k a b,.complex e c d=>bif decide (k=.f64/\e=.f64) then(match op with
   | .add=>some (.complex .f64 (fA .add a c) (fA .add b d),[JO .add a c,JO .add b d])
   | .mul=>some (.complex .f64 (fA .sub (fA .mul a c) (fA .mul b d)) (fA .add (fA .mul a d) (fA .mul b c)),[JO .mul a c,JO .mul b d,JO .sub (fA .mul a c) (fA .mul b d),JO .mul a d,JO .mul b c,JO .add (fA .mul a d) (fA .mul b c)])
   |_=>none) else none
 |_,_=>none
include hT in
theorem TI {op:BinOp} {x y:Value} {r:SV} {t:TypeId} (q:∀b,x=.bool b->T.und t=some .bool) (h:cM op x y=some r) (f:C5 r.2) (w:World):(binOp op t x y).run P w=.ok r.1 w/\IX r.1=true:=by
 unfold cM at h
 split at h
 ·rename_i k a l b
  split at h
  ·cases h
   have i:¬b<0:=by have:0<=b:=of_decide_eq_true f.1;omega
   exact⟨by simp[binOp,Op.shift,i],rfl⟩
  ·cases h
   have i:¬b<0:=by have:0<=b:=of_decide_eq_true f.1;omega
   exact⟨by simp[binOp,Op.shift,i],rfl⟩
  ·cases g:decide (k=l)
   ·rw[g] at h;cases h
   rw[g,cond_true] at h
   have g:=of_decide_eq_true g
   subst g
   have arith:∀n,(sI k n).1=r.1->some (sI k n)=some r->r.1=.int k (k.wrap n):=λn _ e=>Jj (r:=r) (Option.some.inj e) f
   split at h
   ·have:=Jj (r:=r) (Option.some.inj h) f
    rw[this];exact⟨by simp[binOp,Op.intArith],rfl⟩
   ·have:=Jj (r:=r) (Option.some.inj h) f
    rw[this];exact⟨by simp[binOp,Op.intArith],rfl⟩
   ·have:=Jj (r:=r) (Option.some.inj h) f
    rw[this];exact⟨by simp[binOp,Op.intArith],rfl⟩
   ·cases o:k.signed
    ·rw[o] at h;cases h
     have i:b≠0:=of_decide_eq_true f.1
     exact⟨by simp[binOp,Op.intDiv,i],rfl⟩
    ·rw[o] at h;cases h
     have i:b≠0:=of_decide_eq_true f.1
     have s:Ad k (a.tdiv b):=of_decide_eq_true f.2.1
     exact⟨by simp[binOp,Op.intDiv,i,Hj s],rfl⟩
   ·cases h
    have i:b≠0:=of_decide_eq_true f.1
    exact⟨by simp[binOp,Op.intDiv,i],rfl⟩
   all_goals first
    |(cases h;exact⟨by simp[binOp,Op.intBits,Op.intCmp],rfl⟩)
    |cases h
 ·rename_i a b
  have u:∀op,binOp op t (.string a) (.string b)=Op.stringOp op a b:=λop=>by cases op<;>rfl
  rw[u]
  split at h
  ·cases h
   have i:(C8 a).length+(C8 b).length<=1099511627776:=of_decide_eq_true f.1
   have v:¬(((a.size+b.size:Nat):Int)>IntKind.i64.max):=by
    rw[Da,Da]
    show ¬((((C8 a).length+(C8 b).length:Nat):Int)>2^63-1)
    omega
   exact⟨by simp only[Op.stringOp,if_neg v,Sem.run_pure,iV],rfl⟩
  all_goals first
   |(cases h;exact⟨by simp only[Op.stringOp,El,Sem.run_pure],rfl⟩)
   |cases h
 ·rename_i a b
  have z:=q a rfl
  have m:Op.equal t (.bool a) (.bool b)=Op.equalIn (9999+1) t (.bool a) (.bool b):=rfl
  have p:(Op.equal t (.bool a) (.bool b)).run P w=.ok (a==b) w:=by
   rw[m,Op.equalIn]
   simp only[Sem.run_bind,AK hT z,Result.andThen_ok]
   rfl
  split at h
  ·cases h
   exact⟨by simp only[binOp,Sem.run_bind,p,Result.andThen_ok,Sem.run_pure],rfl⟩
  ·cases h
   exact⟨by simp only[binOp,Sem.run_bind,p,Result.andThen_ok,Sem.run_pure],rfl⟩
  ·cases h
 ·rename_i k a l b
  cases g:decide (k=l)&&lW op
  ·rw[g,cond_false] at h
   cases j:decide (k=.f64/\l=.f64)
   ·rw[j] at h;cases h
   rw[j,cond_true] at h
   obtain⟨rfl,rfl⟩:=of_decide_eq_true j
   split at h
   all_goals first
    |(cases h;exact⟨by simp only[binOp,ne_eq,not_true_eq_false,if_false];exact Xp f.1,rfl⟩)
    |cases h
  rw[g,cond_true] at h
  cases h
  rw[Bool.and_eq_true,decide_eq_true_eq] at g
  obtain⟨rfl,g⟩:=g
  refine⟨?_,rfl⟩
  cases op<;>first
   |(cases g;done)
   |simp only[binOp,ne_eq,not_true_eq_false,if_false,Op.floatCmp,Sem.run_pure,Kq]
 ·rename_i k a b l c d
  cases j:decide (k=.f64/\l=.f64)
  ·rw[j] at h;cases h
  rw[j,cond_true] at h
  obtain⟨rfl,rfl⟩:=of_decide_eq_true j
  split at h
  ·cases h
   refine⟨?_,rfl⟩
   simp only[binOp,ne_eq,not_true_eq_false,if_false,Op.complexOp,Sem.run_bind,E7 f.1,E7 f.2.1,Result.andThen_ok,Sem.run_pure]
  ·cases h
   obtain⟨A,B,C,D,E,F,_⟩:=f
   refine⟨?_,rfl⟩
   have G:(Op.Complex.product a b c d).run P w=.ok (fA .sub (fA .mul a c) (fA .mul b d),fA .add (fA .mul a d) (fA .mul b c)) w:=by
    simp only[Op.Complex.product,Op.Complex.sub,Op.Complex.mul,Op.Complex.add,Sem.run_bind,E7 A,E7 B,E7 C,E7 D,E7 E,E7 F,Result.andThen_ok,Sem.run_pure]
   have e:(BinOp.mul==BinOp.mul)=true:=rfl
   simp only[binOp,ne_eq,not_true_eq_false,if_false,Op.complexOp,Sem.run_bind,ZH,Result.andThen_ok,e,if_true,G,Sem.run_pure]
  ·cases h
 ·cases h
omit hT
def sUn (op:UnOp) (x:Value):Option SV:=
 match op,x with
 | .neg,.int k n=>some (sI k (0-n))
 | .xor,.int k n=>some (.int k (k.wrap (BitVec.ofInt k.bits (if k.signed then -1 else k.max)^^^BitVec.ofInt k.bits n).toNat),[])
 | .not,.bool b=>some (.bool (!b),[])
 |_,_=>none
theorem iW {op:UnOp} {x:Value} {r:SV} (h:sUn op x=some r) (a:C5 r.2) (w:World):(Op.unary op x).run P w=.ok r.1 w/\IX r.1=true:=by
 unfold sUn at h
 split at h
 ·have:=Jj (r:=r) (Option.some.inj h) a;rw[this];exact⟨by simp[Op.unary,Op.intArith],rfl⟩
 ·cases h;exact⟨by simp[Op.unary,Op.intBits],rfl⟩
 ·cases h;exact⟨rfl,rfl⟩
 ·cases h
def Rb (b:Nat) (k:IntKind):Option Int:=match(FloatKind.f64.decode b).toInt .zero with
 |some n=>bif decide (k.min<=n/\n<=k.max) then some n else none
 |none=>none
theorem iX {P:Program} {w:World} {b:Nat} {k:IntKind} (h:(Rb b k).isSome=true):(Conv.floatToInt .f64 b k).run P w=.ok (.int k ((Rb b k).getD 0)) w:=by
 unfold Rb at h⊢;unfold Conv.floatToInt
 split at h
 ·rename_i n a;cases hd:decide (k.min<=n/\n<=k.max)
  ·rw[hd] at h;cases h
  ·simp only[a,if_pos (of_decide_eq_true hd),cond_true,Option.getD_some,Sem.run_pure]
 ·cases h
def cN (T:TE) (src dst:TypeId) (x:Value):Option SV:=
 match T.und src,T.und dst,x with
 |some _,some (.int k),.int a n=>bif k.signed||decide (k=a) then some (.int k n,[decide (Ad k n)]) else some (.int k (k.wrap n),[])
 |some _,some .string,.string s=>some (.string s,[])
 |some _,some (.float k),.int _ n=>some (.float k (k.nearest n),[])
 |some _,some (.int k),.float .f64 b=>some (.int k ((Rb b k).getD 0),[(Rb b k).isSome])
 |_,_,_=>none
include hT in
theorem ZI {src dst:TypeId} {x:Value} {r:SV} (h:cN T src dst x=some r) (g:C5 r.2) (w:World):(convert src dst x).run P w=.ok r.1 w/\IX r.1=true:=by
 unfold cN at h
 split at h
 ·rename_i d k f n a c;have e:(convert src dst (.int f n)).run P w=.ok (.int k (k.wrap n)) w:=by
   simp only[convert,Sem.run_bind,AK hT a,AK hT c,Result.andThen_ok,Conv.intToInt,Sem.run_pure]
  rw[e];cases i:(k.signed||decide (k=f))
  ·rw[i] at h;cases h;exact⟨rfl,rfl⟩
  ·rw[i] at h;cases h;have:Ad k n:=of_decide_eq_true g.1;exact⟨by rw[Hj this],rfl⟩
 ·rename_i d s a c;cases h;exact⟨by simp only[convert,Sem.run_bind,AK hT a,AK hT c,Result.andThen_ok,Sem.run_pure],rfl⟩
 ·rename_i d k f n a c;cases h;exact⟨by simp only[convert,Sem.run_bind,AK hT a,AK hT c,Result.andThen_ok,Conv.intToFloat,Sem.run_pure],rfl⟩
 ·rename_i d k b a c;cases h;exact⟨by simp only[convert,Sem.run_bind,AK hT a,AK hT c,Result.andThen_ok,iX g.1],rfl⟩
 ·cases h
def nq (T:TE) (t:TypeId) (x i:Value):Option SV:=
 match T.und t,x,i with
 |some .string,.string s,.int _ n=>some (.int .u8 ((C8 s).getD n.toNat 0).toNat,[decide (0<=n),decide (n<(C8 s).length)])
 |_,_,_=>none
include hT in
theorem cO {t:TypeId} {x i:Value} {r:SV} (h:nq T t x i=some r) (b:C5 r.2) (w:World):(Instr.index t x i).run P w=.ok r.1 w/\IX r.1=true:=by
 unfold nq at h
 split at h
 ·rename_i s k n c;cases h;have d:(0:Int)<=n:=of_decide_eq_true b.1;have f:n<(C8 s).length:=of_decide_eq_true b.2.1;have a:n.toNat<(C8 s).length:=by omega
  have e:s[n.toNat]?=some ((C8 s).getD n.toNat 0):=by
   rw[Pn];show(C8 s)[n.toNat]?=_;rw[List.getElem?_eq_getElem a,List.getD_eq_getElem?_getD,List.getElem?_eq_getElem a];rfl
  exact⟨by simp only[Instr.index,asIntOf,Sem.run_bind,Sem.run_pure,Result.andThen_ok,AK hT c,d,if_true,e],rfl⟩
 ·cases h
def nr (T:TE) (t:TypeId) (x:Value) (lo a:Option Value):Option SV:=
 match T.und t,x,lo,a with
 |some .string,.string s,none,none=>some (.string s,[])
 |some .string,.string s,some (.int _ n),none=>some (.string (bs ((C8 s).drop n.toNat)),[decide (0<=n),decide (n<=(C8 s).length)])
 |some .string,.string s,none,some (.int _ m)=>some (.string (bs ((C8 s).take m.toNat)),[decide (0<=m),decide (m<=(C8 s).length)])
 |some .string,.string s,some (.int _ n),some (.int _ m)=>some (.string (bs (((C8 s).take m.toNat).drop n.toNat)),[decide (0<=n),decide (n<=m),decide (m<=(C8 s).length)])
 |_,_,_,_=>none
theorem CX {k:IntKind} {n:Int} {y:Nat} {code:BoundsCode} (a:0<=n) (b:n<=y) (w:World):(Instr.sliceBound (.int k n) y code).run P w=.ok n.toNat w:=by
 simp only[Instr.sliceBound,asIntOf,Sem.run_bind,Sem.run_pure,Result.andThen_ok,a,b,and_self,if_true]
theorem E8 (s:ByteArray) (l h:Nat):s.extract l h=bs (((C8 s).take h).drop l):=by
 rw[MJ,ZF,List.drop_take];rfl
include hT in
theorem cP {t:TypeId} {x:Value} {lo g:Option Value} {r:SV} (h:nr T t x lo g=some r) (a:C5 r.2) (w:World):(Instr.sliceAt t x lo g none).run P w=.ok r.1 w/\IX r.1=true:=by
 unfold nr at h
 split at h
 ·rename_i s b;cases h;refine⟨?_,rfl⟩;simp only[Instr.sliceAt,Instr.slice,Sem.run_bind,AK hT b,Result.andThen_ok,Option.isSome_none,Bool.false_eq_true,if_false,Sem.run_pure,Instr.sliceBounds,E8];rw[Da,List.take_length,List.drop_zero,Iy]
 ·rename_i s k n b;cases h;have d:(0:Int)<=n:=of_decide_eq_true a.1;have f:n<=(C8 s).length:=of_decide_eq_true a.2.1;refine⟨?_,rfl⟩;have e:=λc=>CX (P:=P) (k:=k) (code:=c) d (y:=s.size) (by rw[Da];exact f) w
  simp only[Instr.sliceAt,Instr.slice,Sem.run_bind,AK hT b,Result.andThen_ok,Option.isSome_none,Bool.false_eq_true,if_false,Sem.run_pure,Instr.sliceBounds,e,E8];rw[Da,List.take_length]
 ·rename_i s k m b;cases h;have d:(0:Int)<=m:=of_decide_eq_true a.1;have f:m<=(C8 s).length:=of_decide_eq_true a.2.1;refine⟨?_,rfl⟩;have e:=λc=>CX (P:=P) (k:=k) (code:=c) d (y:=s.size) (by rw[Da];exact f) w
  simp only[Instr.sliceAt,Instr.slice,Sem.run_bind,AK hT b,Result.andThen_ok,Option.isSome_none,Bool.false_eq_true,if_false,Sem.run_pure,Instr.sliceBounds,e,E8,List.drop_zero]
 ·rename_i s k n i m b;cases h;have d:(0:Int)<=n:=of_decide_eq_true a.1;have f:n<=m:=of_decide_eq_true a.2.1;have j:m<=(C8 s).length:=of_decide_eq_true a.2.2.1;refine⟨?_,rfl⟩;have e:=λc=>CX (P:=P) (k:=i) (code:=c) (by omega:0<=m) (y:=s.size) (by rw[Da];exact j) w
  have l:=λc=>CX (P:=P) (k:=k) (code:=c) d (y:=m.toNat) (by omega) w
  simp only[Instr.sliceAt,Instr.slice,Sem.run_bind,AK hT b,Result.andThen_ok,Option.isSome_none,Bool.false_eq_true,if_false,Sem.run_pure,Instr.sliceBounds,e,l,E8]
 ·cases h
def bB (b:Builtin) (x:Value):List Value->Option Value
 |[]=>some x
 |y::a=>match b,x,y with
  | .min,.int k n,.int _ m=>bB b (.int k (min n m)) a
  | .max,.int k n,.int _ m=>bB b (.int k (max n m)) a
  |_,_,_=>none
def tK (T:TE) (b:Builtin) (argTypes:List TypeId) (args:List Value):Option SV:=
 match b,args with
 | .len,[.string s]=>match argTypes with
   |t::_=>match T.und t with
    |some .string=>some (.int .i64 (C8 s).length,[])
    |_=>none
   |_=>none
 | .min,.int k n::c=>match bB .min (.int k n) c with
   |some v=>some (v,[])
   |none=>none
 | .max,.int k n::c=>match bB .max (.int k n) c with
   |some v=>some (v,[])
   |none=>none
 | .complex,[.float k a,.float d b]=>bif decide (k=d) then some (.complex k a b,[]) else none
 | .real,[.complex k a _]=>some (.float k a,[])
 | .imag,[.complex k _ b]=>some (.float k b,[])
 |_,_=>none
theorem Xq:∀(a:List Value) (k:IntKind) (n:Int) (v:Value),bB .min (.int k n) a=some v->(∃m,v=.int k m)/\∀w,(a.foldlM Builtin.min2 (.int k n)).run P w=.ok v w
 |[],k,n,v,h=>by simp only[bB,Option.some.injEq] at h;subst h;exact⟨⟨_,rfl⟩,λw=>rfl⟩
 |y::a,k,n,v,h=>by
  cases y with
  |int b m=>
   simp only[bB] at h;obtain⟨c,d⟩:=Xq a k _ v h;refine⟨c,λw=> ?_⟩;have e:(Builtin.min2 (.int k n) (.int b m)).run P w=.ok (.int k (min n m)) w:=by
    simp only[Builtin.min2,Sem.run_pure];congr 2;rw[Int.min_def]
    split<;>split<;>omega
   simp only[List.foldlM_cons,Sem.run_bind,e,Result.andThen_ok,d]
  |_=>simp[bB] at h
theorem Xr:∀(a:List Value) (k:IntKind) (n:Int) (v:Value),bB .max (.int k n) a=some v->(∃m,v=.int k m)/\∀w,(a.foldlM Builtin.max2 (.int k n)).run P w=.ok v w
 |[],k,n,v,h=>by simp only[bB,Option.some.injEq] at h;subst h;exact⟨⟨_,rfl⟩,λw=>rfl⟩
 |y::a,k,n,v,h=>by
  cases y with
  |int b m=>
   simp only[bB] at h;obtain⟨c,d⟩:=Xr a k _ v h;refine⟨c,λw=> ?_⟩;have e:(Builtin.max2 (.int k n) (.int b m)).run P w=.ok (.int k (max n m)) w:=by
    simp only[Builtin.max2,Sem.run_pure];congr 2;rw[Int.max_def]
    split<;>split<;>omega
   simp only[List.foldlM_cons,Sem.run_bind,e,Result.andThen_ok,d]
  |_=>simp[bB] at h
include hT in
theorem iY {b:Builtin} {ty:TypeId} {argTypes:Array TypeId} {consts:Array Bool} {args:List Value} {r:SV} (h:tK T b argTypes.toList args=some r) (w:World):
  (builtin b argTypes ty consts args.toArray).run P w=.ok (.value r.1) w/\IX r.1=true/\r.2=[]:=by
 have i:∀t l,argTypes.toList=t::l->argTypes[0]?=some t:=λt l e=>by rw[<-Array.getElem?_toList,e];rfl
 unfold tK at h
 split at h
 ·rename_i s
  split at h
  ·rename_i t l j
   split at h
   ·rename_i o;cases h;refine⟨?_,rfl,rfl⟩;have:(Builtin.len_ argTypes ty [Value.string s].toArray).run P w=.ok (.int .i64 (C8 s).length) w:=by
     simp only[Builtin.len_,i _ _ j,List.getElem?_toArray,List.getElem?_cons_zero,Sem.run_bind,AK hT o,Result.andThen_ok,Sem.run_pure,goInt,Da]
    show(do Pure.pure (Next.value (<-Builtin.len_ argTypes ty [Value.string s].toArray)):Sem Next).run P w=_;simp only[Sem.run_bind,this,Result.andThen_ok,Sem.run_pure]
   ·cases h
  ·cases h
 ·rename_i k n c
  split at h
  ·rename_i v f;cases h;obtain⟨⟨m,rfl⟩,g⟩:=Xq (P:=P) c k n v f;refine⟨?_,rfl,rfl⟩;have:(Builtin.min_ argTypes ty (Value.int k n::c).toArray).run P w=.ok (.int k m) w:=g w;show(do Pure.pure (Next.value (<-Builtin.min_ argTypes ty (Value.int k n::c).toArray)):Sem Next).run P w=_;simp only[Sem.run_bind,this,Result.andThen_ok,Sem.run_pure]
  ·cases h
 ·rename_i k n c
  split at h
  ·rename_i v f;cases h;obtain⟨⟨m,rfl⟩,g⟩:=Xr (P:=P) c k n v f;refine⟨?_,rfl,rfl⟩;have:(Builtin.max_ argTypes ty (Value.int k n::c).toArray).run P w=.ok (.int k m) w:=g w;show(do Pure.pure (Next.value (<-Builtin.max_ argTypes ty (Value.int k n::c).toArray)):Sem Next).run P w=_;simp only[Sem.run_bind,this,Result.andThen_ok,Sem.run_pure]
  ·cases h
 ·rename_i k a p b;cases d:decide (k=p)
  ·rw[d] at h;cases h
  rw[d,cond_true] at h;cases h;have d:=of_decide_eq_true d;subst d;refine⟨?_,rfl,rfl⟩;show(do Pure.pure (Next.value (<-Builtin.complex_ argTypes ty #[.float k a,.float k b])):Sem Next).run P w=_;have:(Builtin.complex_ argTypes ty #[.float k a,.float k b]).run P w=.ok (.complex k a b) w:=by
   have e:Builtin.complex_ argTypes ty #[.float k a,.float k b]=if k=k then Pure.pure (.complex k a b) else stuck "complex: parts of different kinds" :=rfl;rw[e,if_pos rfl];rfl
  simp only[Sem.run_bind,this,Result.andThen_ok,Sem.run_pure]
 ·rename_i k a b;cases h;refine⟨?_,rfl,rfl⟩;show(do Pure.pure (Next.value (<-Builtin.real_ argTypes ty #[.complex k a b])):Sem Next).run P w=_;have:(Builtin.real_ argTypes ty #[.complex k a b]).run P w=.ok (.float k a) w:=rfl;simp only[Sem.run_bind,this,Result.andThen_ok,Sem.run_pure]
 ·rename_i k a b;cases h;refine⟨?_,rfl,rfl⟩;show(do Pure.pure (Next.value (<-Builtin.imag_ argTypes ty #[.complex k a b])):Sem Next).run P w=_;have:(Builtin.imag_ argTypes ty #[.complex k a b]).run P w=.ok (.float k b) w:=rfl;simp only[Sem.run_bind,this,Result.andThen_ok,Sem.run_pure]
 ·cases h
