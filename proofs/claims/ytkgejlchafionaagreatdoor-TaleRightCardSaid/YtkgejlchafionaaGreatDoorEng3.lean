/-
  The engine, part 3: an abstract evaluator over the model's code, proved sound. No condition.
-/
import Derived.Test.YtkgejlchafionaaGreatDoorEng2
import Derived.Lib.UnsafeStr
import Derived.Lib.Builder
open Array renaming eq_empty_of_size_eq_zero->PG,ext_getElem?->PH,getElem?_eq_getElem->CX,getElem?_map->yq,getElem?_modify->rW,getElem?_push->RM,getElem?_toList->Bf,map->bZ,range->rX
open BitVec renaming ofInt->Hw
open Bool renaming and_eq_true->A0,false->AK,false_eq_true->CI,or_eq_true->ED,true->AD
open ByteArray renaming empty->RI,ext->Kp,get!->AJF,toList->AJG
open ByteArray.toList renaming loop->rY
open Classical renaming propDecidable->PI
open Decidable renaming decide->AG
open Go renaming BinOp->DO,Builtin->Uj,IntKind->Ie,Program->Ao,TypeId->AQ,Value->AJ,World->AN,asInt->ba,asIntOf->MB,binOp->Dd,convert->FB,loadBytes->iO,newRow->Mz,run_newObj->MD,run_underlying->PJ,runtimePanic->rZ,sizeOf->Wj,unsupported->ra,variablesAt->yr
open Go.BinOp renaming mul->yt
open Go.Builtin renaming complex_->rj,imag_->yu,len_->M0,max2->rk,max_->yv,min2->rl,min_->yw,real_->yx,unsafeSliceData_->yy,unsafeString_->rm
open Go.Conv renaming floatToInt->yz,stringToBytes->bb,unsafePointer->y1
open Go.FloatKind renaming f64->BV
open Go.Instr renaming build->rn,buildSlice->bc,fill->y2,index->Wg,makeSlice->ANY,next->rp,range->y3,slice->FN,sliceAt->FA,sliceBound->bW,sliceBounds->Ga
open Go.IntKind renaming i64->E7
open Go.Made renaming depth->y4
open Go.Next renaming value->Wk
open Go.Op renaming bytesLess->CG,complexOp->y5,equal->Ks,equalIn->Ku,floatArith->y6,intArith->bf,intBits->rq,intCmp->y7,intDiv->bg,shift->rr,stringOp->Wl,unary->AOU
open Go.Op.Complex renaming add->AJH,arith->y8,conv->AJI,mul->AJJ,product->y9,sub->AJK
open Go.Program renaming cellsOf->zA
open Go.Question renaming appendCap->Mx
open Go.Result renaming andThen_ok->Ax
open Go.Sem renaming run->My,run_bind->A7,run_pure->A9
open Go.Value renaming int->Ht,string->E9
open Go.World renaming freeze->Wm,shape?->Uk
open List renaming drop_zero->Do,foldlM_cons->zC,getElem?_eq_getElem->B4,getElem?_eq_none->DA,getElem?_toArray->ANI,length_eq_zero_iff->Gu,take_length->bh
open Nat renaming add_mul->DB,beq->Af,ble->B8,blt->Cq,eq_of_beq_eq_true->Br,le_of_ble_eq_true->GJ,le_refl->Ak,lt_or_ge->Cf,mod->EH,mod_one->PK,zero_add->CJ
open Ne renaming symm->ES
open Option renaming isSome_none->Df,none->AF,some->AC
open Option.some renaming inj->Dw,injEq->BJ
open Pure renaming pure->Ck
open UInt8 renaming lt_iff_toNat_lt->Ul,toNat_inj->zD
open _root_ renaming Array->Aa,Bool->AH,ByteArray->Cg,Int->AA,List->AE,Nat->AB,Option->AP,absurd->Aq,beq_self_eq_true->GD,cond_false->BZ,cond_true->Ag,decide_eq_false->BP,decide_eq_true_eq->A6,if_false->BR,if_neg->AY,if_pos->Ae,if_true->ANH,ne_eq->Wn,not_true_eq_false->iP,of_decide_eq_true->BL,true_and->ANZ
section
noncomputable section
namespace Go.Eng
open Go
section
variable {P:Ao} {T:TE} (hT:T.OK P) {D:AB->Prop} {ι:AB->Reg} {σ:St} {w:AN}
def Ex(T:TE)(σ:St)(a:AQ)(s:Cg):AP R:=
 match T.inf a with
 |some i=>bif Af i.size 1 then AC ⟨.slice (AC ⟨σ.next,0,AF⟩) s.size IX,σ.new (.row (Ee s.data.toList) a AK),.nil⟩else AF
 |none=>AF
theorem QV(h:Aa Obj)(o:Obj)(f:Obj->Obj):(h.push o).modify h.size f=h.push (f o):=by
 apply PH;intro j;rw[rW,RM,RM];by_cases e:j=h.size
 ·subst e;simp
 ·simp[e,ES e]
include hT
theorem LY{a:AQ}{s:Cg}{r:R}(h:Ex T σ a s=AC r):Ab P D ι σ w (bb a s) r:=by
 unfold Ex at h
 split at h
 ·rename_i i x;cases f:Af i.size 1
  ·rw[f]at h;cases h
  ·rw[f,Ag]at h;have q:=Br f;cases h;refine⟨by simp[St.new],λg=>⟨St.new_wf g _,AFr.new _ _ _⟩,λg y _=> ?_⟩;have l:¬D σ.next:=y _ (by simp[St.rng,St.new]);let cap:=(Mx s.size 0 a).cut (w.tape w.drawn (.appendCap s.size 0 a));have e:s.size<=cap:=cq _ _ _ _
   let c:Aa AJ:=s.data.map (λb=>Ht .u8 b.toNat)++Array.replicate (cap-s.size) (.int .u8 0);have z:c.size=cap:=by
    have A:s.data.size=s.size:=rfl;simp only[c,Array.size_append,Array.size_map,Array.size_replicate,A];omega
   have t:(Ee s.data.toList).length=s.size:=by rw[IE];simp
   refine⟨.slice (AC ⟨w.heap.size,0,AF⟩) s.size cap,FR ι σ.next (rg w.heap.size 0 c.size 1),{ w with drawn:=w.drawn+1,heap:=w.heap.push (.cells c a (c.size,c.size+1))},?_,?_,?_⟩
   ·have B:(Mx s.size 0 a).forced=false:=rfl;have C:(w.heap.push (.cells c a (0,0)))[w.heap.size]?=AC (.cells c a (0,0)):=BN w _;simp only[bb,A7,run_choose,B,CI,BR,Ax,Mz,MD,A9,markStringish,run_shape,Uk]
    show((match(match(w.heap.push (.cells c a (0,0)))[w.heap.size]? with|some (.cells c a _)=>AC (a,c.size)|_=>AF)with|some (_,n)=>freeze { block:=w.heap.size,off:=n} 1|_=>Ck ()).run P _).andThen _=_;rw[C];simp only[run_freeze,Ax,Wm];rw[AY (by omega)];simp only[QV,GD,ANH]
    rfl
   ·have:=VR.slU (D:=λi=>D i\/σ.rng (σ.new (.row (Ee s.data.toList) a AK)) i) (ι:=FR ι σ.next (rg w.heap.size 0 c.size 1)) σ.next 0 s.size cap (.inr (St.rng_new.2 rfl)) e (by rw[Am,z];simp);rw[Am]at this;exact this
   ·refine Post.new g l ?_ ?_ ?_ ?_ rfl rfl rfl rfl rfl
    ·omega
    ·intro j u;rw[hT.inf _ _ x]at u;cases u;exact⟨q.symm,by rw[q];exact PK _⟩
    ·intro o E;omega
    ·intro k v m;rw[FD]at m;simp only[List.getElem?_map,Option.map_eq_some_iff]at m;obtain⟨b,d,rfl⟩:=m;refine⟨.int .u8 b.toNat,?_,.int _ _⟩;have p:k<s.data.size:=by
      rcases Cf k s.data.size with h|h
      ·exact h
      ·rw[DA (by simpa using h)]at d;cases d
     simp only[c];rw[Array.getElem?_append_left (by simpa using p),yq];rw[Bf]at d;rw[d];rfl
 ·cases h
omit hT
def IF:AB->AE AJ->AE AJ
 |0,_=>[]
 |n+1,a=>a++IF n a
theorem IG(a:AE AJ):∀n,(IF n a).length=n*a.length
 |0=>by simp[IF]
 |n+1=>by rw[IF,List.length_append,IG a n,DB];omega
theorem LZ(a:AE AJ):∀(n k:AB),k<n*a.length->(IF n a)[k]?=a[k%a.length]?
 |0,k,h=>by omega
 |n+1,k,h=>by
  rw[IF];by_cases b:k<a.length
  ·rw[List.getElem?_append_left b,Nat.mod_eq_of_lt b]
  ·rw[List.getElem?_append_right (by omega),LZ a n _ (by rw[DB]at h;omega)];congr 1
   conv=>rhs;rw[show k=(k-a.length)+a.length by omega,Nat.add_mod_right]
theorem Rt(z:Aa AJ)(n:AB):((rX (n*z.size)).map (z[· %z.size]!))=(IF n z.toList).toArray:=by
 apply PH;intro k;simp only[yq,ANI];by_cases a:k<n*z.size
 ·rw[LZ _ _ _ (by simpa using a)];have b:0<z.size:=by
   rcases Nat.eq_zero_or_pos z.size with h|h
   ·rw[h]at a;simp at a
   ·exact h
  have c:k%z.size<z.size:=Nat.mod_lt _ b;simp[a,c]
 ·rw[DA (by rw[IG];simpa using a)];simp[a]
def Gz(T:TE)(σ:St)(t:AQ)(l c:AJ):AP R:=
 match l,c with
 | .int _ (.ofNat l),.int _ (.ofNat c)=>match T.und t with
   |some (.slice a)=>match T.inf a with
    |some e=>match e.zero with
     |some z=>bif B8 l c&&B8 c 1099511627776&&B8 (e.bytes*c) 281474976710656&&Af z.cells.size e.size&&Au 8 z then
      AC ⟨.slice (AC ⟨σ.next,0,AF⟩) l c,σ.new (.row (IF c z.cells.toList) a AK),.nil⟩else AF
     |none=>AF
    |none=>AF
   |_=>AF
 |_,_=>AF
theorem J8{n:AB}(h:n<=1099511627776):E7.wrap (n:AA)=n:=by
 have a:(n:AA)%(2^E7.bits:AA)=n:=Int.emod_eq_of_lt (by omega) (by show(n:AA)<2^64;omega);have b:¬((n:AA)>=(2^(E7.bits-1):AA)):=by show ¬((n:AA)>=2^63);omega
 simp only[IntKind.wrap,a,b,decide_false,Bool.and_false,CI,BR]
include hT
theorem Pm{t:AQ}{l H c I:AJ}{r:R}(h:Gz T σ t l c=AC r)(K:VR D ι l H)(L:VR D ι c I):Ab P D ι σ w (ANY t H I) r:=by
 unfold Gz at h
 split at h
 ·rename_i U l V c;cases K;cases L
  split at h
  ·rename_i a M
   split at h
   ·rename_i e n
    split at h
    ·rename_i z N;cases p:(B8 l c&&B8 c 1099511627776&&B8 (e.bytes*c) 281474976710656&&Af z.cells.size e.size&&Au 8 z)
     ·rw[p]at h;cases h
     ·rw[p,Ag]at h;simp only[A0]at p;obtain⟨⟨⟨⟨y,q⟩,A⟩,s⟩,J⟩:=p;have y:=GJ y;have q:=GJ q;have A:=GJ A;have s:=Br s;cases h;refine⟨by simp[St.new],λB=>⟨St.new_wf B _,AFr.new _ _ _⟩,λB O _=> ?_⟩
      have C:¬D σ.next:=O _ (by simp[St.rng,St.new]);have b:(IF c z.cells.toList).length=c*e.size:=by rw[IG];simp[s]
      refine⟨.slice (AC ⟨w.heap.size,0,AF⟩) l c,FR ι σ.next (rg w.heap.size 0 (IF c z.cells.toList).toArray.size e.size),{ w with heap:=w.heap.push (.cells (IF c z.cells.toList).toArray a (0,0))},?_,?_,?_⟩
      ·have W:¬((e.bytes:AA)*(c:AA)>2^48):=by
        have:=Int.ofNat_le.2 A;rw[Int.natCast_mul]at this;omega
       have d:((((c:AA)<0||AG ((e.bytes:AA)*(c:AA)>2^48))||AG ((l:AA)<0)||AG ((l:AA)>(c:AA)))=AD)=False:=by
        simp only[ED,A6,eq_iff_iff,iff_false];omega
       simp only[ANY,A7,Ah hT M,Ax,ba,MB,A9,MR hT n,Int.ofNat_eq_natCast,J8 q,J8 (Nat.le_trans y q),d,BR,run_askRoom,Bb hT n,Int.toNat_natCast];by_cases u:c*e.size=0
       ·rw[Ae u];have Q:(IF c z.cells.toList).toArray=#[]:=by
         have:(IF c z.cells.toList).length=0:=by rw[b,u]
         rw[Gu.1 this]
        rw[Q,u];have S:∀f:AB->AJ,bZ f (rX 0)=#[]:=λf=>PG (by simp)
        simp only[A7,A9,Ax,Mz,MD,S]
       ·rw[AY u];simp only[A7,HT hT n N,Ax,A9,Mz,MD];rw[<-s,Rt]
      ·have:=VR.slK (D:=λi=>D i\/σ.rng (σ.new (.row (IF c z.cells.toList) a AK)) i) (ι:=FR ι σ.next (rg w.heap.size 0 (IF c z.cells.toList).toArray.size e.size)) σ.next 0 l c (.inr (St.rng_new.2 rfl)) (by unfold IX;omega);rw[Am]at this;exact this
      ·refine Post.new B C (by simp) ?_ (λo _ h=>by omega) ?_ rfl rfl rfl rfl rfl
       ·intro j x;rw[hT.inf _ _ n]at x;cases x;exact⟨rfl,by rw[List.size_toArray,b];exact Nat.mul_mod_left _ _⟩
       ·intro k v g;have E:v∈z.cells.toList:=by
         have F:k<c*z.cells.toList.length:=by
          rcases Cf k (c*z.cells.toList.length)with h|h
          ·exact h
          ·rw[DA (by rw[IG];exact h)]at g;cases g
         rw[LZ _ _ _ F]at g;exact List.mem_of_getElem? g
        obtain⟨j,x,G⟩:=List.mem_iff_getElem.1 E;have m:z.cells[j]?=AC v:=by
         rw[<-Bf,B4 x,G]
        exact⟨v,by simpa using g,((Bk 8 z J:VR D ι z z).cells (ID J)).2 j v v m m⟩
    ·cases h
   ·cases h
  ·cases h
 ·cases h
omit hT
def QX(a:AB->AP (AB×AB)):AE AJ->AE (AB×AJ)->AP (AE AJ)
 |cs,[]=>AC cs
 |cs,(i,v)::b=>match a i with
  |some (off,size)=>bif Af v.cells.toList.length size&&B8 (off+v.cells.toList.length) cs.length&&RX v then
    match lput cs off v.cells.toList with
    |some c=>QX a c b
    |none=>AF
   else AF
  |none=>AF
theorem Vk:∀(l:AE AJ) (n off:AB) (c:Aa AJ),(l.zipIdx n).foldl (λa (x:AJ×AB)=>a.setIfInBounds (off+x.2) x.1) c=Cp c (off+n) l
 |[],_,_,_=>rfl
 |v::l,n,off,c=>by
  rw[List.zipIdx_cons,List.foldl_cons,Vk l (n+1) off,Cp];rfl
inductive PR(D:AB->Prop)(ι:AB->Reg):AE (AB×AJ)->AE (AB×AJ)->Prop where
 |nil:PR D ι [] []
 |cons (i:AB) (a b:AJ) (r s:AE (AB×AJ)) (h:VR D ι a b) (hr:PR D ι r s):PR D ι ((i,a)::r) ((i,b)::s)
theorem MT(d:AB->AP (AB×AB)){y z:AE (AB×AJ)}(u:PR D ι y z):∀(g e:AE AJ) (c:Aa AJ),QX d g y=AC e->AR D ι g.toArray c->
  ∃q,y2 d c z=AC q/\AR D ι e.toArray q:=by
 induction u with
 |nil=>
  intro g e c h t;simp only[QX,BJ]at h;subst h;exact⟨c,rfl,t⟩
 |cons i a b r s n _ B=>
  intro g e c h t;simp only[QX]at h
  split at h
  ·rename_i off size C;cases j:(Af a.cells.toList.length size&&B8 (off+a.cells.toList.length) g.length&&RX a)
   ·rw[j]at h;cases h
   ·rw[j,Ag]at h;rw[A0,A0]at j;have L:=Br j.1.1;have M:=GJ j.1.2;have N:a.cells.toList.length=b.cells.size:=by simpa using(n.cells j.2).1
    have E:g.length=c.size:=by simpa using t.1
    split at h
    ·rename_i o F;obtain⟨g1,O,g3⟩:=MS _ _ _ _ F;have p:=DL b.cells.toList c off;have G:b.cells.toList.length=b.cells.size:=by simp
     have w:AR D ι o.toArray (Cp c off b.cells.toList):=by
      refine⟨by rw[Ad];simp;omega,λk v v' m f=> ?_⟩;rw[p k (by omega)]at f;simp only[ANI]at m;rw[g3 k]at m;by_cases A:off<=k/\k<off+a.cells.toList.length
      ·rw[Ae A]at m;rw[Ae (by omega)]at f;exact(n.cells j.2).2 (k-off) v v' (by simpa using m) (by simpa using f)
      ·rw[AY A]at m;rw[AY (by omega)]at f;exact t.2 k v v' (by simpa using m) f
     obtain⟨q,H,I⟩:=B o e _ h w;refine⟨q,?_,I⟩;simp only[y2,C];have J:AG (b.cells.size≠size)=false:=BP (by omega);have K:AG (off+b.cells.size>c.size)=false:=BP (by omega);simp only[J,K,Bool.or_self,CI,BR];have l:b.cells.zipIdx.foldl (λg (x:AJ×AB)=>g.setIfInBounds (off+x.2) x.1) c=Cp c off b.cells.toList:=by
      rw[<-Array.foldl_toList,Array.toList_zipIdx];exact Vk _ 0 off c
     rw[<-H,<-l]
    ·cases h
  ·cases h
def N4(T:TE):AE Field->AP (AE (AB×AB))
 |[]=>AC []
 |f::a=>match T.inf f.type with
  |some i=>match N4 T a with
   |some r=>AC ((f.offset,i.size)::r)
   |none=>AF
  |none=>AF
include hT
theorem QY:∀(a:AE Field) (l:AE (AB×AB)) (w:AN),N4 T a=AC l->(a.mapM λf=>(do Ck (f.offset,<-Wj f.type):Sem (AB×AB))).run P w=.ok l w
 |[],l,w,h=>by
  simp only[N4,BJ]at h;subst h;rfl
 |f::a,l,w,h=>by
  simp only[N4]at h
  split at h
  ·rename_i i c
   split at h
   ·rename_i r d;cases h;have b:=QY a r w d;simp only[List.mapM_cons,A7,Bb hT c,Ax,A9]at b⊢;rw[b];rfl
   ·cases h
  ·cases h
omit hT
def XX(T:TE)(t:AQ)(c:AE (AB×AJ)):AP AJ:=
 match T.inf t with
 |some i=>match i.zero with
  |some z=>bif Au 8 z then match T.und t with
    |some (.struct d)=>match N4 T d.toList with
     |some f=>match QX (λk=>f[k]?) z.cells.toList c with
      |some b=>AC (.agg b.toArray)
      |none=>AF
     |none=>AF
    |some (.array _ a)=>match T.inf a with
     |some e=>match QX (λk=>AC (k*e.size,e.size)) z.cells.toList c with
      |some b=>AC (.agg b.toArray)
      |none=>AF
     |none=>AF
    |_=>AF
   else AF
  |none=>AF
 |none=>AF
include hT
theorem XY{t:AQ}{k:AE (AB×AJ)}{l:Aa (AB×AJ)}{v:AJ}(h:XX T t k=AC v)(m:PR D ι k l.toList):Ab P D ι σ w (rn t l) ⟨v,σ,.nil⟩:=by
 unfold XX at h
 split at h
 ·rename_i i o
  split at h
  ·rename_i z p;cases lb:Au 8 z
   ·rw[lb]at h;cases h
   ·rw[lb,Ag]at h;have a:AR D ι z.cells.toList.toArray z.cells:=by simpa using(Bk 8 z lb:VR D ι z z).cells (ID lb)
    split at h
    ·rename_i r d
     split at h
     ·rename_i s lb
      split at h
      ·rename_i u g;cases h;obtain⟨c,j,b⟩:=MT _ m _ _ _ g a;refine Ab.pure (v':=.agg c) ?_ (.agg _ _ b.1 b.2);have x:(r.mapM λf=>(do Ck (f.offset,<-Wj f.type):Sem (AB×AB))).run P w=.ok s.toArray w:=by
        rw[Array.mapM_eq_mapM_toList,Sem.run_map,QY hT _ _ _ lb];rfl
       simp only[rn,A7,HT hT o p,Ax,Ah hT d];rw[x];simp only[Ax,ANI,j,A9]
      ·cases h
     ·cases h
    ·rename_i n q d
     split at h
     ·rename_i e y
      split at h
      ·rename_i u g;cases h;obtain⟨c,j,b⟩:=MT _ m _ _ _ g a;refine Ab.pure (v':=.agg c) ?_ (.agg _ _ b.1 b.2);simp only[rn,A7,HT hT o p,Ax,Ah hT d,Bb hT y,j,A9]
      ·cases h
     ·cases h
    ·cases h
  ·cases h
 ·cases h
omit hT
def F2(T:TE)(σ:St)(t:AQ)(len:AB)(c:AE (AB×AJ)):AP R:=
 match T.und t with
 |some (.slice a)=>match T.inf a with
  |some e=>match e.zero with
   |some z=>bif Au 8 z&&Af z.cells.size e.size&&B8 (len*e.size) 16777216&&Cq len IX then
     match QX (λk=>AC (k*e.size,e.size)) (IF len z.cells.toList) c with
     |some b=>bif Af (EH b.length e.size) 0 then AC ⟨.slice (AC ⟨σ.next,0,AF⟩) len len,σ.new (.row b a AK),.nil⟩else AF
     |none=>AF
    else AF
   |none=>AF
  |none=>AF
 |_=>AF
theorem fh{z:Aa AJ}(d:AR D ι z z)(n:AB):AR D ι (IF n z.toList).toArray (IF n z.toList).toArray:=
 ⟨rfl,λk v v' h c=>by
  rw[h]at c;cases c;simp only[ANI]at h;have a:k<n*z.toList.length:=by
   rcases Cf k (n*z.toList.length)with b|b
   ·exact b
   ·rw[DA (by rw[IG];exact b)]at h;cases h
  rw[LZ _ _ _ a]at h;have h:z[k%z.toList.length]?=AC v:=by simpa using h
  exact d.2 _ v v h h⟩
include hT
theorem N5{t:AQ}{len:AB}{C:AE (AB×AJ)}{E:Aa (AB×AJ)}{r:R}(h:F2 T σ t len C=AC r)(J:PR D ι C E.toList):Ab P D ι σ w (bc t len E) r:=by
 unfold F2 at h
 split at h
 ·rename_i b K
  split at h
  ·rename_i e s
   split at h
   ·rename_i z L;cases m:(Au 8 z&&Af z.cells.size e.size&&B8 (len*e.size) 16777216&&Cq len IX)
    ·rw[m]at h;cases h
    ·rw[m,Ag]at h;simp only[A0]at m;obtain⟨⟨⟨F,d⟩,G⟩,H⟩:=m;have d:=Br d;have G:=GJ G;have H:len<IX:=by simpa using H
     split at h
     ·rename_i g M;cases a:Af (EH g.length e.size) 0
      ·rw[a]at h;cases h
      rw[a,Ag]at h;have a:g.length%e.size=0:=Br a;cases h;have u:AR D ι z.cells z.cells:=(Bk 8 z F:VR D ι z z).cells (ID F);obtain⟨c,n,p⟩:=MT _ J _ _ _ M (fh u len);refine⟨by simp[St.new],λx=>⟨St.new_wf x _,AFr.new _ _ _⟩,λx N _=> ?_⟩
      have y:¬D σ.next:=N _ (by simp[St.rng,St.new]);refine⟨.slice (AC ⟨w.heap.size,0,AF⟩) len len,FR ι σ.next (rg w.heap.size 0 c.size e.size),{ w with heap:=w.heap.push (.cells c b (0,0))},?_,?_,?_⟩
      ·have A:¬(len*e.size>2^24):=by omega
       simp only[bc,A7,Ah hT K,Ax,Bb hT s];rw[AY A];by_cases q:len*e.size=0
       ·rw[Ae q];have O:IF len z.cells.toList=[]:=Gu.1 (by rw[IG];simp[d,q]);have Q:∀f:AB->AJ,bZ f (rX 0)=#[]:=λf=>PG (by simp)
        rw[O]at n;simp only[A7,A9,Ax,q,Q,Mz,MD,n]
       ·rw[AY q];rw[<-Rt,d]at n;simp only[A7,HT hT s L,A9,Ax,Mz,MD,d,n]
      ·have:=VR.slK (D:=λi=>D i\/σ.rng (σ.new (.row g b AK)) i) (ι:=FR ι σ.next (rg w.heap.size 0 c.size e.size)) σ.next 0 len len (.inr (St.rng_new.2 rfl)) (by omega);rw[Am]at this;exact this
      ·refine Post.new x y ?_ ?_ (λo _ h=>by omega) ?_ rfl rfl rfl rfl rfl
       ·have:=p.1;simp at this;omega
       ·intro j I;rw[hT.inf _ _ s]at I;cases I;have S:g.length=c.size:=by simpa using p.1
        exact⟨rfl,by rw[<-S];exact a⟩
       ·intro k v B;have l:k<c.size:=by
         have:=p.1;simp at this;rcases Cf k g.length with h|h
         ·omega
         ·rw[DA h]at B;cases B
        exact⟨c[k],CX l,p.2 k v c[k] (by simpa using B) (CX l)⟩
     ·cases h
   ·cases h
  ·cases h
 ·cases h
end
end Go.Eng
end
end
section
noncomputable section
namespace Go.Eng
open Go
section
variable {P:Ao} {T:TE} (hT:T.OK P) {D:AB->Prop} {ι:AB->Reg} {σ:St} {w:AN}
def Pn(T:TE)(σ:St)(t:AQ)(x:AJ):AP R:=
 match x with
 | .string s=>match T.und t with
   |some .string=>AC ⟨.pointer (AC ⟨σ.next,0,AF⟩),σ.new (.iter s 0),.nil⟩
   |_=>AF
 |_=>AF
include hT
theorem XZ{t:AQ}{x b:AJ}{r:R}(h:Pn T σ t x=AC r)(c:VR D ι x b):Ab P D ι σ w (y3 t b) r:=by
 unfold Pn at h
 split at h
 ·rename_i s;cases c
  split at h
  ·rename_i d;cases h;refine⟨by simp[St.new],λa=>⟨St.new_wf a _,AFr.new _ _ _⟩,λa _ _=> ?_⟩;refine⟨.pointer (AC ⟨w.heap.size,0,AF⟩),FR ι σ.next (rg w.heap.size 0 0 0),{ w with heap:=w.heap.push (.stringIter s 0)},?_,?_,Post.newIter a⟩
   ·simp only[y3,A7,Ah hT d,Ax,A9,MD]
   ·have:=VR.ptr (D:=λi=>D i\/σ.rng (σ.new (.iter s 0)) i) (ι:=FR ι σ.next (rg w.heap.size 0 0 0)) σ.next 0 (.inr (St.rng_new.2 rfl));rw[Am]at this;exact this
  ·cases h
 ·cases h
omit hT
def Vl(σ:St)(b:AJ)(isString:AH):AP R:=
 match b with
 | .pointer (AC ⟨id,0,AF⟩)=>match isString,σ.heap.get id with
   |true,AC (.iter s a)=>bif Cq a s.size then
    match Utf8.decode s a with
    |(c,d)=>AC ⟨.tuple #[.bool AD,goInt a,.int .i32 c],σ.put id (AC (.iter s (a+d))),⟨[],[],[],[id]⟩⟩
    else AC ⟨.tuple #[.bool AK],σ,⟨[],[id],[],[]⟩⟩
   |_,_=>AF
 |_=>AF
theorem QZ(P:Ao)(w:AN){b:AB}{s:Cg}{a:AB}(h:w.heap[b]?=AC (.stringIter s a)):(getObj b).run P w=.ok (.stringIter s a) w:=by
 simp only[getObj,My,h]
theorem ZH(P:Ao)(w:AN){b:AB}{s:Cg}{a:AB}(h:w.heap[b]?=AC (.stringIter s a))(o:Obj):(setObj b o).run P w=.ok () { w with heap:=w.heap.setIfInBounds b o}:=by
 simp only[setObj,My,h]
theorem ZI{o d:AJ}{isString:AH}{ty:AQ}{r:R}(h:Vl σ o isString=AC r)(p:VR D ι o d):Ab P D ι σ w (rp d isString ty) r:=by
 unfold Vl at h
 split at h
 ·rename_i id;obtain⟨rfl,v⟩:=p.ptr_inv
  split at h
  ·rename_i s a l;have e:∀φ:Foot,φ.Fi id->HOn P D ι σ.H φ w->w.heap[(ι id).blk]?=AC (.stringIter s a)/\(ι id).base=0/\(ι id).own=AD/\∀b,¬(ι id).Fz b:=λφ q f=>f.hd id _ q (St.hdr_of l)
   cases g:Cq a s.size
   ·rw[g,BZ]at h;cases h;refine Ab.same (w':=w) (v':=.tuple #[.bool AK]) (λf=> ?_) rfl rfl;obtain⟨i,k, -⟩:=e _ (.inr (.inl (by simp))) f;refine⟨?_,Bk 3 _ rfl,rfl,rfl,rfl⟩;have t:¬a<s.size:=by
     intro h;have:Cq a s.size=true:=by simpa using h
     rw[this]at g;cases g
    simp only[k,CJ,rp,A7,QZ P w i,Ax,AY t,A9]
   ·rw[g,Ag]at h;have m:a<s.size:=by simpa using g
    split at h
    rename_i c x j;cases h;refine⟨Ak _,λn=>⟨St.put_wf n (St.lv_lt n (St.lv_of l)) _,AFr.whole (by simp)⟩,λn _ f=> ?_⟩;obtain⟨i,k,u⟩:=e _ (.inr (.inr (.inr (by simp)))) f;refine⟨.tuple #[.bool AD,goInt a,.int .i32 c],ι,_,?_,Bk 3 _ rfl,Post.setIter l ⟨i,k,u⟩⟩
    simp only[k,CJ,rp,A7,QZ P w i,Ax,Ae m,j,ZH P w i,A9]
  ·cases h
 ·cases h
def ZJ:L8->L8->AH
 |[],[]=>AD
 |a::x,b::y=>bif Af a.toNat b.toNat then ZJ x y else AK
 |_,_=>AK
theorem Xa:∀(x y:L8),ZJ x y=(x==y)
 |[],[]=>rfl
 |[],_::_=>rfl
 |_::_,[]=>rfl
 |a::x,b::y=>by
  simp only[ZJ,List.cons_beq_cons,Xa x y];by_cases h:a=b
  ·subst h;rw[Ei rfl];simp
  ·have:a.toNat≠b.toNat:=λe=>h (zD.1 e)
   rw[aP this];simp[h]
def ct:L8->L8->AH
 |_,[]=>AK
 |[],_::_=>AD
 |a::x,b::y=>bif Cq a.toNat b.toNat then AD else bif Af a.toNat b.toNat then ct x y else AK
theorem fj:∀(x y:L8),ct x y=CG x y
 |[],[]=>rfl
 |[],_::_=>rfl
 |_::_,[]=>rfl
 |a::x,b::y=>by
  simp only[ct,CG,fj x y];by_cases c:a<b
  ·have:Cq a.toNat b.toNat=true:=by
    have:=Ul.1 c;simpa using this
   simp[c,this]
  ·have d:Cq a.toNat b.toNat=false:=by
    cases f:Cq a.toNat b.toNat
    ·rfl
    ·have:a.toNat<b.toNat:=by simpa using f
     exact Aq (Ul.2 this) c
   by_cases h:a=b
   ·subst h;simp
   ·have:a.toNat≠b.toNat:=λe=>h (zD.1 e)
    simp[c,d,aP this,h]
theorem N6(s:Cg):s.toList=s.data.toList:=by
 have key:∀(n i:AB) (r:L8),s.size-i=n->rY s i r=r.reverse++s.data.toList.drop i:=by
  intro n
  induction n with
  |zero=>
   intro i r h;unfold rY;rw[AY (by omega)];have:s.data.toList.length<=i:=by simp;omega
   rw[List.drop_eq_nil_of_le this];simp
  |succ n c=>
   intro i r h;unfold rY;rw[Ae (by omega),c (i+1) _ (by omega)];have b:i<s.data.toList.length:=by simp;omega
   rw[List.drop_eq_getElem_cons b];have a:i<s.data.size:=by simpa using b
   have:s.get! i=s.data.toList[i]:=by
    simp only[AJF,getElem!_def,CX a,Array.getElem_toList]
   simp[this]
 unfold AJG;rw[key _ 0 [] rfl];simp
def Xb(op:DO)(x y:Cg):AP AJ:=
 match op with
 | .add=>bif B8 (x.size+y.size) 1099511627776 then AC (.string ⟨(x.data.toList++y.data.toList).toArray⟩)else AF
 | .eql=>AC (.bool (ZJ x.data.toList y.data.toList))
 | .neq=>AC (.bool (!ZJ x.data.toList y.data.toList))
 | .lss=>AC (.bool (ct x.data.toList y.data.toList))
 | .leq=>AC (.bool (ct x.data.toList y.data.toList||ZJ x.data.toList y.data.toList))
 | .gtr=>AC (.bool (!(ct x.data.toList y.data.toList||ZJ x.data.toList y.data.toList)))
 | .geq=>AC (.bool (!ct x.data.toList y.data.toList))
 |_=>AF
theorem cu{op:DO}{x y:Cg}{v:AJ}(h:Xb op x y=AC v)(w:AN):(Wl op x y).run P w=.ok v w:=by
 cases op<;>simp only[Xb]at h<;>try cases h
 case add=>
  cases a:B8 (x.size+y.size) 1099511627776
  ·rw[a]at h;cases h
  ·rw[a]at h;have a:=GJ a;cases h;have b:¬(((x.size+y.size:AB):AA)>E7.max):=by
    show ¬(((x.size+y.size:AB):AA)>2^63-1);omega
   simp only[Wl,AY b,A9];congr 2
 all_goals simp only[Wl,N6,Xa,fj,A9]
def TA(op:DO)(k:Ie)(a b:AA):AP AJ:=
 match op with
 | .add=>AC (.int k (k.wrap (a+b)))
 | .sub=>AC (.int k (k.wrap (a-b)))
 | .mul=>AC (.int k (k.wrap (a*b)))
 | .quo=>if b=0 then AF else AC (.int k (k.wrap (a.tdiv b)))
 | .rem=>if b=0 then AF else AC (.int k (a.tmod b))
 | .and=>AC (.int k (k.wrap (Hw k.bits a&&&Hw k.bits b).toNat))
 | .or=>AC (.int k (k.wrap (Hw k.bits a|||BitVec.ofInt k.bits b).toNat))
 | .xor=>AC (.int k (k.wrap (Hw k.bits a^^^Hw k.bits b).toNat))
 | .andNot=>AC (.int k (k.wrap (Hw k.bits a&&& ~~~Hw k.bits b).toNat))
 | .eql=>AC (.bool (a==b))
 | .neq=>AC (.bool (a !=b))
 | .lss=>AC (.bool (AG (a<b)))
 | .leq=>AC (.bool (AG (a<=b)))
 | .gtr=>AC (.bool (AG (a>b)))
 | .geq=>AC (.bool (AG (a>=b)))
 |_=>AF
theorem cw{op:DO}{t:AQ}{k:Ie}{a b:AA}{v:AJ}(h:TA op k a b=AC v)(w:AN):(Dd op t (.int k a) (.int k b)).run P w=.ok v w:=by
 cases op<;>simp only[TA]at h<;>try cases h
 case quo=>
  split at h
  ·cases h
  ·rename_i c;cases h;simp[Dd,bg,c]
 case rem=>
  split at h
  ·cases h
  ·rename_i c;cases h;simp[Dd,bg,c]
 all_goals simp[Dd,bf,rq,y7]
def Vm(op:DO)(k:Ie)(a b:AA):AP AJ:=
 if b<0 then AF else
 match op with
 | .shl=>AC (.int k (k.wrap (a*2^(min b.toNat k.bits))))
 | .shr=>AC (.int k (a.fdiv (2^(min b.toNat k.bits))))
 |_=>AF
theorem Vn{op:DO}{t:AQ}{k c:Ie}{a b:AA}{v:AJ}(h:Vm op k a b=AC v)(w:AN):(Dd op t (.int k a) (.int c b)).run P w=.ok v w:=by
 unfold Vm at h
 split at h
 ·cases h
 ·rename_i d;cases op<;>simp only at h<;>cases h<;>simp[Dd,rr,d]
def mf(T:TE)(t:AQ)(x y:AJ):AP AH:=
 match x,y with
 | .bool a,.bool b=>match T.und t with
   |some .bool=>AC (a==b)
   |_=>AF
 | .pointer AF,.pointer b=>match T.und t with
   |some (.pointer _)=>AC b.isNone
   |_=>AF
 | .pointer (AC _),.pointer AF=>match T.und t with
   |some (.pointer _)=>AC AK
   |_=>AF
 | .pointer (AC ⟨i,o,AF⟩),.pointer (AC ⟨j,p,AF⟩)=>match T.und t with
   |some (.pointer e)=>match T.inf e with
    |some c=>bif Af i j&& !Nat.beq c.size 0 then AC (Af o p)else AF
    |none=>AF
   |_=>AF
 | .slice AF _ _,.slice b _ _=>match T.und t with
   |some (.slice _)=>AC b.isNone
   |_=>AF
 | .slice (AC _) _ _,.slice AF _ _=>match T.und t with
   |some (.slice _)=>AC AK
   |_=>AF
 | .nilIface,.iface _ _=>match T.und t with
   |some (.interface _)=>AC AK
   |_=>AF
 | .iface _ _,.nilIface=>match T.und t with
   |some (.interface _)=>AC AK
   |_=>AF
 | .func ..,.nilFunc=>match T.und t with
   |some (.func ..)=>AC AK
   |_=>AF
 | .nilFunc,.func .. =>match T.und t with
   |some (.func ..)=>AC AK
   |_=>AF
 |_,_=>AF
theorem VR.ptr_shape{a:Addr}{v':AJ}(h:VR D ι (.pointer (AC a)) v'):∃d,v'=.pointer (AC d):=by
 cases h with
 |ptr id off h=>exact⟨_,rfl⟩
 |pel id i j b o l c h e=>exact⟨_,rfl⟩
theorem VR.sl_shape{a:Addr}{l c:AB}{v':AJ}(h:VR D ι (.slice (AC a) l c) v'):∃b d,v'=.slice (AC b) l d:=by
 cases h with
 |slK id off l c h g=>exact⟨_,_,rfl⟩
 |slU id off l c h e f=>exact⟨_,_,rfl⟩
 |slE id off i c h e f=>exact⟨_,_,rfl⟩
include hT
theorem ZK{t:AQ}{x k y n:AJ}{b:AH}(h:mf T t x y=AC b)(g:VR D ι x k)(f:VR D ι y n)(w:AN):
  (Ks t k n).run P w=.ok b w/\(k=.nilIface->n≠ .nilIface)/\(∀c,k≠ .agg c):=by
 have q:Ks t k n=Ku (9999+1) t k n:=rfl;rw[q,Ku];simp only[A7];unfold mf at h
 split at h
 ·split at h
  ·rename_i d;cases h;cases g;cases f;exact⟨by simp only[Ah hT d,Ax,A9]<;>rfl,by simp,by simp⟩
  ·cases h
 ·rename_i r
  split at h
  ·rename_i e d;cases h;cases g;cases r with
   |none=>cases f;exact⟨by simp only[Ah hT d,Ax,A9]<;>rfl,by simp,by simp⟩
   |some a=>obtain⟨s,rfl⟩:=f.ptr_shape;exact⟨by simp only[Ah hT d,Ax,A9]<;>rfl,by simp,by simp⟩
  ·cases h
 ·split at h
  ·rename_i d;cases h;cases f;obtain⟨s,rfl⟩:=g.ptr_shape;exact⟨by simp only[Ah hT d,Ax,A9]<;>rfl,by simp,by simp⟩
  ·cases h
 ·rename_i i o j p
  split at h
  ·rename_i e d
   split at h
   ·rename_i v z;cases m:(Af i j&& !Nat.beq v.size 0)
    ·rw[m]at h;cases h
    ·rw[m,Ag]at h;rw[A0]at m;have u:=Br m.1;subst u;have A:v.size≠0:=λe=>by rw[e]at m;cases m.2
     cases h;obtain⟨rfl,_⟩:=g.ptr_inv;obtain⟨rfl,_⟩:=f.ptr_inv;refine⟨?_,by simp,by simp⟩;have:((⟨(ι i).blk,(ι i).base+o,AF⟩:Addr)==⟨(ι i).blk,(ι i).base+p,AF⟩)=Af o p:=by
      by_cases e:o=p
      ·subst e;rw[Ei rfl];simp
      ·rw[aP e];simp only[beq_eq_false_iff_ne,Wn,Addr.mk.injEq,ANZ,and_true];omega
     have B:(sameAddr ⟨(ι i).blk,(ι i).base+o,AF⟩ ⟨(ι i).blk,(ι i).base+p,AF⟩).run P w=.ok (Af o p) w:=by
      simp only[sameAddr,GD,ANH,A9,this]
     simp only[Ah hT d,Ax,A7,Bb hT z,Wn,A,not_false_eq_true,ANH,B]
   ·cases h
  ·cases h
 ·rename_i r l c
  split at h
  ·rename_i d;cases h;cases g;cases r with
   |none=>cases f;exact⟨by simp only[Ah hT d,Ax,A9]<;>rfl,by simp,by simp⟩
   |some a=>obtain⟨s,C,rfl⟩:=f.sl_shape;exact⟨by simp only[Ah hT d,Ax,A9]<;>rfl,by simp,by simp⟩
  ·cases h
 ·split at h
  ·rename_i d;cases h;cases f;obtain⟨s,C,rfl⟩:=g.sl_shape;exact⟨by simp only[Ah hT d,Ax,A9]<;>rfl,by simp,by simp⟩
  ·cases h
 ·split at h
  ·rename_i d;cases h;cases g;cases f;exact⟨by simp only[Ah hT d,Ax,A9]<;>rfl,by simp,by simp⟩
  ·cases h
 ·split at h
  ·rename_i d;cases h;cases g;cases f;exact⟨by simp only[Ah hT d,Ax,A9]<;>rfl,by simp,by simp⟩
  ·cases h
 ·split at h
  ·rename_i d;cases h;cases g;cases f;exact⟨by simp only[Ah hT d,Ax,A9]<;>rfl,by simp,by simp⟩
  ·cases h
 ·split at h
  ·rename_i d;cases h;cases g;cases f;exact⟨by simp only[Ah hT d,Ax,A9]<;>rfl,by simp,by simp⟩
  ·cases h
 ·cases h
end
end Go.Eng
end
end
section
noncomputable section
namespace Go.Eng
open Go
section
variable {P:Ao} {T:TE} (hT:T.OK P) {D:AB->Prop} {ι:AB->Reg} {σ:St} {w:AN}
def TB(T:TE)(σ:St)(t:AQ)(x:AJ):AP R:=
 match x with
 | .pointer AF=>AC ⟨.pointer AF,σ,.nil⟩
 | .pointer (AC ⟨id,off,AF⟩)=>match σ.heap.get id,T.inf t with
   |some (.row a _ _),AC j=>bif B8 (off+1) a.length&& !Nat.beq j.size 0 then AC ⟨.pointer (AC ⟨id,off,AF⟩),σ,⟨[(id,off)],[],[],[]⟩⟩else AF
   |_,_=>AF
 |_=>AF
def La(T:TE)(σ:St)(t:AQ)(x:AJ):AP R:=
 match x with
 | .pointer AF=>AC ⟨.pointer AF,σ,.nil⟩
 | .pointer (AC ⟨id,off,AF⟩)=>match σ.heap.get id,T.inf t with
   |some (.row a e AK),AC j=>bif Af e t&&Af (EH off j.size) 0&&B8 (off+j.size) a.length&& !Nat.beq j.size 0 then AC ⟨.pointer (AC ⟨id,off,AF⟩),σ,⟨[(id,off)],[],[],[]⟩⟩else AF
   |_,_=>AF
 |_=>AF
def NI(x:AJ):AP AJ:=
 match x with
 | .slice AF _ _=>AC (.pointer AF)
 | .slice (AC ⟨id,off,AF⟩) l c=>bif Af c IX then bif Af l 0 then AF else AC (.pointer (AC ⟨id,off,AF⟩))else bif Af c 0 then AF else AC (.pointer (AC ⟨id,off,AF⟩))
 |_=>AF
def Lb(T:TE)(σ:St)(d:AQ)(x:AJ)(n:AA):AP R:=
 match n with
 | .ofNat 0=>match x with
   | .pointer _=>AC ⟨.string .empty,σ,.nil⟩
   |_=>AF
 | .ofNat n=>match x,T.und d with
   | .pointer (AC ⟨id,off,AF⟩),AC (.pointer e)=>match σ.heap.get id,T.inf e with
     |some (.row c a AK),AC j=>bif Af e a&&Af j.size 1&&B8 n 9223372036854775807 then
      match Fm c off n with
      |some l=>match Dk l with
       |some b=>AC ⟨.string ⟨b.toArray⟩,σ.put id (AC (.row c a AD)),⟨[],[],[],[id]⟩⟩
       |none=>AF
      |none=>AF
      else AF
     |_,_=>AF
   |_,_=>AF
 |_=>AF
theorem Vo{p:Ao}{u count off s n:AB}(a:p.cellsOf u=s)(b:s≠0)(c:off%s=0)(d:off/s+n<=count):liesAt p p.depth u count off u n=true:=by
 have hd:p.depth=(2*(p.types.size+y4)+1)+1:=rfl;rw[hd];unfold liesAt;rw[ED];refine .inl ?_;rw[hd];unfold rowAt;simp only[a,AY b];rw[ED];refine .inl ?_;have:sameLayout p (2*(p.types.size+y4)+1+1) u u=true:=by
  unfold sameLayout;rw[ED];exact .inl (by simp)
 simp only[c,this,BEq.rfl,Bool.true_and,Bool.and_true,A6];exact d
theorem ZL{w:AN}{a:Addr}{v:AJ}(h:w.cell? a=AC v):(load a).run P w=.ok v w:=by
 simp[load,My,h]
theorem N7:∀{l:AE AJ} {b:L8},Dk l=AC b->∀{j:AB} {v:AJ},l[j]?=AC v->∃m,v=.int .u8 m
 |[],_,_,_,_,h=>by simp at h
 |v::l,b,a,j,u,h=>by
  simp only[Dk]at a
  split at a
  ·rename_i e c
   split at a
   ·rename_i f d;obtain⟨n,rfl,_⟩:=J7 c;rcases j with _|j
    ·simp at h;exact⟨n,h.symm⟩
    ·exact N7 d (by simpa using h)
   ·cases a
  ·cases a
theorem TC{w:AN}{b:AB}{c:Aa AJ}{e:AQ}{fr:AB×AB}(h:w.heap[b]?=AC (.cells c e fr)):w.shape? b=AC (e,c.size):=by
 simp[Uk,h]
include hT
theorem Xc{src dst t:AQ}{x d:AJ}{r:R}(f:P.underlying src=AC (.pointer t))(hd:P.underlying dst=AC .unsafePointer)(h:TB T σ t x=AC r)(g:VR D ι x d):
  Ab P D ι σ w (FB src dst d) r:=by
 unfold TB at h
 split at h
 ·cases h;cases g;refine Ab.pure (v':=.pointer AF) ?_ .ptrN;simp only[FB,A7,PJ f,PJ hd,Ax,y1,A9]
 ·rename_i id off;obtain⟨rfl,k⟩:=g.ptr_inv
  split at h
  ·rename_i l e q j m n;cases a:(B8 (off+1) l.length&& !Nat.beq j.size 0)
   ·rw[a]at h;cases h
   ·rw[a,Ag]at h;cases h;rw[A0]at a;obtain⟨i,b⟩:=a;have i:=GJ i;have b:j.size≠0:=λe=>by rw[Ei e]at b;cases b
    refine Ab.same (w':=w) (v':=.pointer (AC ⟨(ι id).blk,(ι id).base+off,AF⟩)) (λo=> ?_) rfl rfl;obtain⟨c,s,fr,p,u,v,_⟩:=o.hd id _ (.inl ⟨off,by simp⟩) (St.hdr_of m);exact⟨Lib.run_to_unsafe w _ f hd (hT.inf _ _ n) b (TC p) (by simp only;omega),.ptr id off k,rfl,rfl,rfl⟩
  ·cases h
 ·cases h
theorem TD{src dst t:AQ}{x l:AJ}{r:R}(m:P.underlying src=AC .unsafePointer)(hd:P.underlying dst=AC (.pointer t))(h:La T σ t x=AC r)(n:VR D ι x l):
  Ab P D ι σ w (FB src dst l) r:=by
 unfold La at h
 split at h
 ·cases h;cases n;refine Ab.pure (v':=.pointer AF) ?_ .ptrN;simp only[FB,A7,PJ m,PJ hd,Ax,y1,A9]
 ·rename_i id off;obtain⟨rfl,s⟩:=n.ptr_inv
  split at h
  ·rename_i u e j v d;cases b:(Af e t&&Af (EH off j.size) 0&&B8 (off+j.size) u.length&& !Nat.beq j.size 0)
   ·rw[b]at h;cases h
   ·rw[b,Ag]at h;cases h;rw[A0,A0,A0]at b;obtain⟨⟨⟨f,g⟩,o⟩,a⟩:=b;have f:=Br f;have g:off%j.size=0:=Br g;have o:=GJ o;have a:j.size≠0:=λe=>by rw[Ei e]at a;cases a
    subst f;refine Ab.same (w':=w) (v':=.pointer (AC ⟨(ι id).blk,(ι id).base+off,AF⟩)) (λy=> ?_) rfl rfl;obtain⟨c,C,fr,p,E,F,G,i⟩:=y.hd id _ (.inl ⟨off,by simp⟩) (St.hdr_of v);obtain⟨z,A,H⟩:=i rfl;obtain⟨g1,B,g3⟩:=A _ (hT.inf _ _ d);rw[z]at p;have q:P.cellsOf e=j.size:=by simp[zA,hT.inf _ _ d]
    refine⟨Lib.run_from_unsafe w _ m hd (hT.inf _ _ d) (TC p) (Vo q a ?_ ?_),.ptr id off s,rfl,rfl,rfl⟩
    ·simp only;rw[Nat.add_mod,B,g];simp
    ·simp only;rw[q];have k:(ι id).base+off+j.size<=c.size:=by omega
     have:((ι id).base+off+j.size)/j.size<=c.size/j.size:=Nat.div_le_div_right k;rwa[Nat.add_div_right _ (Nat.pos_of_ne_zero a)]at this
  ·cases h
 ·cases h
omit hT
theorem Po{ts:Aa AQ}{ty:AQ}{x k v:AJ}(h:NI x=AC v)(i:VR D ι x k):Ab P D ι σ w (yy ts ty #[k]) ⟨v,σ,.nil⟩:=by
 unfold NI at h
 split at h
 ·cases h;cases i;exact Ab.pure rfl .ptrN
 ·rename_i id off l c;have key:∀(a:Addr) (l c:AB),c≠0->(yy ts ty #[.slice (AC a) l c]).run P w=.ok (.pointer (AC a)) w:=λa l c b=>Lib.run_unsafeSliceData_row _ _ _ _ _ _ b
  cases d:Af c IX
  ·rw[d,BZ]at h;cases b:Af c 0
   ·rw[b]at h;cases h;have f:c≠0:=λe=>by rw[Ei e]at b;cases b
    have j:c≠IX:=λe=>by rw[Ei e]at d;cases d
    cases i with
    |slK _ _ _ _ g _=>exact Ab.pure (key _ _ _ f) (.ptr id off g)
    |slU _ _ _ _ g _ _=>exact Aq rfl j
   ·rw[b]at h;cases h
  ·rw[d,Ag]at h;cases b:Af l 0
   ·rw[b]at h;cases h;have f:l≠0:=λe=>by rw[Ei e]at b;cases b
    have m:=Br d;cases i with
    |slK _ _ _ _ g b=>exact Aq m b
    |slU _ _ _ n g o _=>exact Ab.pure (key _ _ _ (by omega)) (.ptr id off g)
   ·rw[b]at h;cases h
 ·cases h
theorem Post.freeze{w w':AN}{id:AB}{l:AE AJ}{a:AQ}(f:σ.heap.get id=AC (.row l a AK)){φ:Foot}(hφ:φ.Fi id)(hall:∀k,φ.Fc id k)(m:HOn P D ι σ.H φ w){c:Aa AJ}{e:AQ}{fr fr':AB×AB}(n:w.heap[(ι id).blk]?=AC (.cells c e fr))(o:w'.heap[(ι id).blk]?=AC (.cells c e fr'))(r:∀b,b≠(ι id).blk->w'.heap[b]?=w.heap[b]?)(B:w'.heap.size=w.heap.size)(s:w'.os=w.os)(t:w'.output=w.output):
  Post P D (σ.rng (σ.put id (AC (.row l a AD)))) ι σ.H w ⟨[],[],[],[id]⟩ ι (σ.put id (AC (.row l a AD))).H w' where
 io:=λ_ _=>rfl
 size:=by omega
 os:=s
 out:=t
 hdr:=by
  rintro j x (hx|hx) e
  ·have:j=id:=by simpa[Foot.Wi]using hx
   subst this;rw[St.put_hdr,Ae rfl]at e;cases e;obtain⟨c0,C,fr0,g1,u,g3,g4,_⟩:=m.hd j _ hφ (St.hdr_of f);rw[n]at g1;cases g1;exact⟨c,_,fr',o,u,g3,g4,λh=>by cases h⟩
  ·simp only[St.rng,St.put]at hx;omega
 cel:=by
  rintro j k v (hx|hx) lv e
  ·have:j=id:=by simpa[Foot.Wc]using hx
   subst this;rw[St.put_cell,Ae rfl]at e;obtain⟨g,v',p,z⟩:=m.ce j k v (hall k) (St.lv_of f) (by rw[St.cell_of f];exact e);refine⟨g,v',?_,z.mono (λ_=>.inl) λ_ _=>rfl⟩;simp only[World.cell?,n,o]at p⊢;exact p
  ·simp only[St.rng,St.put]at hx;omega
 ahdr:=λj _ hx=>by rw[St.put_hdr,AY λe=>hx (by simp[Foot.Wi,e])]
 acel:=λj k _ hx=>by rw[St.put_cell,AY λe=>hx (by simp[Foot.Wc,e])]
 cfr:=λb E hx=>by
  have:(ι id).blk≠b:=λe=>hx id (by simp[Foot.Wi]) ⟨_,St.hdr_of f,rfl⟩ ⟨(m.hd id _ hφ (St.hdr_of f)).own_row.1,e⟩
  rw[r b (ES this)];exact CR.refl _ _
 fresh:=λj d=>by simp only[St.rng,St.put]at d;omega
 freshF:=λj d=>by simp only[St.rng,St.put]at d;omega
 dist:=λi j d=>by simp only[St.rng,St.put]at d;omega
 nl:=λj d=>by simp only[St.rng,St.put]at d;omega
 wl:=λj k hx _=>by
  have:j=id:=by simpa[Foot.Wc]using hx
  subst this;exact St.lv_of f
 wrm:=λj _ hx=>by
  by_cases e:j=id
  ·subst e;exact⟨_,St.hdr_of f,rfl⟩
  ·obtain⟨y,q,A⟩:=hx;rw[St.put_hdr,AY e]at q;exact⟨y,q,A⟩
 wrow:=λj k hx d=>Aq (by rcases hx with hx|hx;cases hx;exact hx) d
theorem Mn(g:AB):∀(l:AE AJ) (b:L8) (o:AB) (a:Cg),Dk l=AC b->(∀(j:AB) v,l[j]?=AC v->w.cell? ⟨g,o+j,AF⟩=AC v)->(iO ⟨g,o,AF⟩ a l.length).run P w=.ok ⟨a.data++b.toArray⟩ w
 |[],b,o,a,c,_=>by
  simp only[Dk,BJ]at c;subst c;simp[iO]
 |v::l,b,o,a,c,h=>by
  simp only[Dk]at c
  split at c
  ·rename_i q d
   split at c
   ·rename_i i f;cases c;obtain⟨n,rfl,rfl⟩:=J7 d;have k:=h 0 _ rfl;have m:=Mn g l i (o+1) (a.push n.toNat.toUInt8) f λj u p=>by
     have:=h (j+1) u (by simpa using p);rw[<-this];congr 2;omega
    have e:(load ⟨g,o,AF⟩).run P w=.ok (.int .u8 n) w:=ZL k;simp only[List.length_cons,iO,A7,e,Ax,CU,m];congr 1;apply Kp;simp
   ·cases c
  ·cases c
theorem Qn(ts:Aa AQ)(ty:AQ)(a:Addr)(x:AJ):rm ts ty #[.pointer (AC a),x]=
 (do
  let n<-ba x
  let AC pt:=ts[0]?|stuck "unsafe.String: no argument types"
  if n<0 then rZ (.error "unsafe.String: len out of range")
  if n>E7.max then ra (.unsafePointer "String: a length above the largest int")
  if n=0 then Ck (.string .empty)
  else if <-yr a (<-elemOf pt) n.toNat then do
   let s<-iO a .empty n.toNat
   freeze a n.toNat
   Ck (.string s)
  else ra (.unsafePointer "String: not so many bytes at ptr")):=rfl
theorem ZM(ts:Aa AQ)(ty:AQ)(x:AJ):rm ts ty #[.pointer AF,x]=
 (do
  let n<-ba x;let AC _:=ts[0]?|stuck "unsafe.String: no argument types"
  if n<0 then rZ (.error "unsafe.String: len out of range")
  if n>E7.max then ra (.unsafePointer "String: a length above the largest int")
  if n=0 then Ck (.string .empty)
  else rZ (.error "unsafe.String: ptr is nil and len is not zero")):=rfl
include hT
theorem TF{ts : Aa AQ}{E ty : AQ}{tl : AE AQ}{x F : AJ}{k : Ie}{n : AA}{r : R}(B : ts.toList = E :: tl)(h : Lb T σ E x n = AC r)(N : VR D ι x F) :
    Ab P D ι σ w (rm ts ty #[F, .int k n]) r := by
  have B : ts[0]? = AC E := by rw [← Bf, B]; rfl
  unfold Lb at h
  have f : E7.max = 9223372036854775807 := rfl
  split at h
  · split at h
    · cases h
      have Q : ∃ a, F = .pointer a := by cases N <;> exact⟨_, rfl⟩
      obtain⟨a, rfl⟩ := Q
      refine Ab.pure (v' := .string .empty) ?_ (.string _)
      cases a <;> simp [Qn, ZM, ba, MB, f, B]
    · cases h
  · rename_i n d
    have d : n ≠ 0 := fun e => d (by rw [e])
    split at h
    · rename_i id off e S
      obtain⟨rfl, hD⟩ := N.ptr_inv
      split at h
      · rename_i cs s j t G
        cases q : (Af e s && Af j.size 1 && B8 n 9223372036854775807)
        · rw [q]at h; cases h
        · rw [q, Ag]at h
          rw [A0, A0]at q
          obtain⟨⟨H, I⟩, O⟩ := q
          have H := Br H
          have I := Br I
          have O := GJ O
          split at h
          · rename_i l U
            split at h
            · rename_i b u
              cases h
              refine⟨Ak _, fun J => ⟨St.put_wf J (St.lv_lt J (St.lv_of t)) _, AFr.whole (by simp)⟩, fun J _ K => ?_⟩
              have hall : ∀k, (⟨[], [], [], [id]⟩ : Foot).Fc id k := fun k => .inr (.inr (.inr (by simp)))
              obtain⟨c, e', fr, g, e2, e3, eo, L⟩ := K.hd id _ (hall 0).fi (St.hdr_of t)
              obtain⟨V, e4, e5⟩ := L rfl
              rw [V]at g
              obtain⟨q1, q2, W⟩ := Ev _ _ _ _ U
              have i : ∀(j : AB) v, l[j]? = AC v → w.cell? ⟨(ι id).blk, (ι id).base + off + j, AF⟩ = AC v := by
                intro j v C
                have G : j < n := by
                  rcases Cf j l.length with h | h
                  · omega
                  · rw [DA h]at C; cases C
                obtain⟨-, v', y, X⟩ := K.ce id (off + j) v (hall _) (St.lv_of t) (by rw [St.cell_of t, ← W j G]; exact C)
                have : v' = v := by
                  obtain⟨m, rfl⟩ := N7 u C
                  cases X; rfl
                rw [this]at y
                rw [← y, Nat.add_assoc]
              have o := Mn (P := P) (w := w) _ l b _ .empty u i
              rw [q1]at o
              have z : P.cellsOf e = 1 := by simp [zA, hT.inf _ _ G, I]
              have p : liesAt P P.depth e (c.size / P.cellsOf e) ((ι id).base + off) e n = AD := Vo z (by decide) (PK _) (by simp only [z, Nat.div_one]; omega)
              refine⟨.string ⟨b.toArray⟩, ι, w.freeze ⟨(ι id).blk, (ι id).base + off, AF⟩ n, ?_, .string _, ?_⟩
              · have M : ¬ (9223372036854775807 : AA) < (n : AA) := by omega
                have A : ¬ (n : AA) < 0 := by omega
                have Y : ((⟨(RI).data ++ b.toArray⟩ : Cg)) = ⟨b.toArray⟩ := by apply Kp; simp
                rw [Y]at o
                rw [← H]at g
                simp [Qn, ba, MB, f, B, M, A, d, yr, TC g, elemOf, Ah hT S, p, o]
              · have Z : (ι id).blk < w.heap.size := by
                  rcases Cf (ι id).blk w.heap.size with h | h
                  · exact h
                  · rw [Array.getElem?_eq_none h]at g; cases g
                refine Post.freeze t (hall 0).fi hall K g (w' := w.freeze ⟨(ι id).blk, (ι id).base + off, AF⟩ n) (fr' := if fr.1 == fr.2 then((ι id).base + off, (ι id).base + off + n)else(min fr.1 ((ι id).base + off), max fr.2 ((ι id).base + off + n))) ?_ ?_ ?_ ?_ ?_
                · simp [Wm, d, rW, g]
                · intro b q
                  simp [Wm, d, rW, ES q]
                · simp [Wm, d]
                · simp [Wm, d]
                · simp [Wm, d]
            · cases h
          · cases h
      · cases h
    · cases h
  · cases h
end
end Go.Eng
end
end
section
noncomputable section
noncomputable section
namespace Go.Eng
open Go
section
variable {P:Ao} {T:TE} (hT:T.OK P) {D:AB->Prop} {ι:AB->Reg} {σ:St} {w:AN}
def ABL:AJ->AH
 | .tuple a=>match a.toList with
   |[.chan (AC 1),_]=>AD
   |_=>AK
 |_=>AK
def DH(v:AJ):AP AJ:=
 match v with
 | .tuple a=>match a.toList with
   |[.chan (AC 1),v]=>AC v
   |_=>AF
 | .bool b=>AC (.bool b)
 | .int k n=>AC (.int k n)
 | .string s=>AC (.string s)
 | .float k n=>AC (.float k n)
 | .complex k a b=>AC (.complex k a b)
 |_=>AF
theorem mg{v a:AJ}(h:VR D ι (sy v) a):a=v/\Mi v=true:=by
 cases h with
 |sym _ h=>exact⟨rfl,h⟩
 |tuple as bs b h=>
  have c:bs[0]?=AC (bs[0]'(by rw[<-b];exact Nat.succ_pos _)):=CX _;exact(h 0 _ _ rfl c).no_chan.elim
theorem CV{a:Aa AJ}{l:AE AJ}(h:a.toList=l):a=⟨l⟩:=by cases a;simp only at h;rw[h]
theorem Ay{x c v:AJ}(h:DH x=AC v)(b:VR D ι x c):c=v/\Mi v=true:=by
 unfold DH at h
 split at h
 ·rename_i a
  split at h
  ·rename_i u d;cases h;rw[CV d]at b;exact mg b
  ·cases h
 ·cases h;cases b;exact⟨rfl,rfl⟩
 ·cases h;cases b;exact⟨rfl,rfl⟩
 ·cases h;cases b;exact⟨rfl,rfl⟩
 ·cases h;cases b;exact⟨rfl,rfl⟩
 ·cases h;cases b;exact⟨rfl,rfl⟩
 ·cases h
def A4(k:Ie)(n:AA):Prop:=k.min<=n/\n<=k.max
instance(k:Ie)(n:AA):Decidable (A4 k n):=PI _
theorem Lc{k:Ie}{n:AA}(h:A4 k n):k.wrap n=n:=by
 obtain⟨a,b⟩:=h;have key:∀(s:AH) (m q:AA),(if(s&&AG (m>=q))=AD then m-2*q else m)=if s=AD/\m>=q then m-2*q else m:=by
  intro s m q;cases s<;>simp
 cases k
 ·show(if(AD&&AG (n%2^8>=(2^7:AA)))=AD then n%2^8-2*(2^7:AA)else n%2^8)=n;have a: -(2^7:AA)<=n:=a;have b:n<=2^7-1:=b;rw[key];simp only[ANZ];split<;>omega
 ·show(if(AD&&AG (n%2^16>=(2^15:AA)))=AD then n%2^16-2*(2^15:AA)else n%2^16)=n;have a: -(2^15:AA)<=n:=a;have b:n<=2^15-1:=b;rw[key];simp only[ANZ];split<;>omega
 ·show(if(AD&&AG (n%2^32>=(2^31:AA)))=AD then n%2^32-2*(2^31:AA)else n%2^32)=n;have a: -(2^31:AA)<=n:=a;have b:n<=2^31-1:=b;rw[key];simp only[ANZ];split<;>omega
 ·show(if(AD&&AG (n%2^64>=(2^63:AA)))=AD then n%2^64-2*(2^63:AA)else n%2^64)=n;have a: -(2^63:AA)<=n:=a;have b:n<=2^63-1:=b;rw[key];simp only[ANZ];split<;>omega
 ·have a:0<=n:=a;have b:n<=2^8-1:=b;show n%2^8=n;omega
 ·have a:0<=n:=a;have b:n<=2^16-1:=b;show n%2^16=n;omega
 ·have a:0<=n:=a;have b:n<=2^32-1:=b;show n%2^32=n;omega
 ·have a:0<=n:=a;have b:n<=2^64-1:=b;show n%2^64=n;omega
def Fg(s:Cg):L8:=s.data.toList
theorem NJ(s:Cg):bs (Fg s)=s:=by cases s;rfl
theorem mh(l:L8):Fg (bs l)=l:=rfl
theorem GN(s:Cg):s.size=(Fg s).length:=by show s.data.size=s.data.toList.length;exact Array.length_toList.symm
theorem tW(a b:Cg):a++b=bs (Fg a++Fg b):=by
 apply Kp;simp[bs,Fg]
theorem II(s:Cg):s.toList=Fg s:=N6 s
def SV:Type:=AJ×AE AH
def sI(k:Ie)(n:AA):SV:=bif k.signed then(.int k n,[AG (A4 k n)])else(.int k (k.wrap n),[])
theorem N8{k:Ie}{n:AA}{r:SV}(h:sI k n=r)(b:FZ r.2):r.1=.int k (k.wrap n):=by
 unfold sI at h;cases a:k.signed
 ·rw[a]at h;subst h;rfl
 ·rw[a]at h;subst h;have:A4 k n:=BL b.1;show Ht k n=_;rw[Lc this]
def Pp(op:DO)(k:FloatKind)(a b:AB):AH:=
 match op with
 | .eql=>k.format.order a b==AC .eq
 | .neq=>k.format.order a b !=AC .eq
 | .lss=>k.format.order a b==AC .lt
 | .leq=>k.format.order a b==AC .lt||k.format.order a b==AC .eq
 | .gtr=>k.format.order a b==AC .gt
 | .geq=>k.format.order a b==AC .gt||k.format.order a b==AC .eq
 |_=>AK
def w4:DO->AH
 | .eql| .neq| .lss| .leq| .gtr| .geq=>AD
 |_=>AK
def w5(op:DO)(x y:AB):AP AB:=
 match op with
 | .add=>BV.format.add x y
 | .sub=>BV.format.sub x y
 | .mul=>BV.format.mul x y
 |_=>AF
def fA(op:DO)(x y:AB):AB:=(w5 op x y).getD 0
def Nk(op:DO)(x y:AB):AH:=(w5 op x y).isSome
theorem mi{op:DO}{x y:AB}(h:Nk op x y=AD):w5 op x y=AC (fA op x y):=by
 unfold Nk at h;unfold fA;cases e:w5 op x y
 ·rw[e]at h;cases h
 ·rfl
theorem fl{P:Ao}{w:AN}{op:DO}{x y:AB}(h:Nk op x y=AD):(y6 op .f64 x y).run P w=.ok (.float .f64 (fA op x y)) w:=by
 have h:=mi h;unfold w5 at h;cases op<;>simp only at h<;>first|(cases h;done)|skip
 all_goals simp[y6,h]
theorem Io{P:Ao}{w:AN}{op:DO}{x y:AB}(h:Nk op x y=AD):(y8 op .f64 x y).run P w=.ok (fA op x y) w:=by
 simp only[y8,A7,fl h,Ax,A9]
theorem jX{P:Ao}{w:AN}{x:AB}:(AJI .f64 x .f64).run P w=.ok x w:=rfl
def mj(op:DO)(x y:AJ):AP SV:=
 match x,y with
 | .int k a,.int e b=>match op with
   | .shl=>AC (.int k (k.wrap (a*2^(min b.toNat k.bits))),[AG (0<=b)])
   | .shr=>AC (.int k (a.fdiv (2^(min b.toNat k.bits))),[AG (0<=b)])
   |_=>bif AG (k=e)then match op with
    | .add=>AC (sI k (a+b))
    | .sub=>AC (sI k (a-b))
    | .mul=>AC (sI k (a*b))
    | .quo=>bif k.signed then AC (.int k (a.tdiv b),[AG (b≠0),AG (A4 k (a.tdiv b))])else AC (.int k (k.wrap (a.tdiv b)),[AG (b≠0)])
    | .rem=>AC (.int k (a.tmod b),[AG (b≠0)])
    | .and=>AC (.int k (k.wrap (Hw k.bits a&&&Hw k.bits b).toNat),[])
    | .or=>AC (.int k (k.wrap (Hw k.bits a|||BitVec.ofInt k.bits b).toNat),[])
    | .xor=>AC (.int k (k.wrap (Hw k.bits a^^^Hw k.bits b).toNat),[])
    | .andNot=>AC (.int k (k.wrap (Hw k.bits a&&& ~~~Hw k.bits b).toNat),[])
    | .eql=>AC (.bool (a==b),[])
    | .neq=>AC (.bool (a !=b),[])
    | .lss=>AC (.bool (AG (a<b)),[])
    | .leq=>AC (.bool (AG (a<=b)),[])
    | .gtr=>AC (.bool (AG (a>b)),[])
    | .geq=>AC (.bool (AG (a>=b)),[])
    |_=>AF
   else AF
 | .string a,.string b=>match op with
   | .add=>AC (.string (bs (Fg a++Fg b)),[AG ((Fg a).length+(Fg b).length<=1099511627776)])
   | .eql=>AC (.bool (Fg a==Fg b),[])
   | .neq=>AC (.bool (!(Fg a==Fg b)),[])
   | .lss=>AC (.bool (CG (Fg a) (Fg b)),[])
   | .leq=>AC (.bool (CG (Fg a) (Fg b)||Fg a==Fg b),[])
   | .gtr=>AC (.bool (!(CG (Fg a) (Fg b)||Fg a==Fg b)),[])
   | .geq=>AC (.bool (!Op.bytesLess (Fg a) (Fg b)),[])
   |_=>AF
 | .bool a,.bool b=>match op with
   | .eql=>AC (.bool (a==b),[])
   | .neq=>AC (.bool (!(a==b)),[])
   |_=>AF
 | .float k a,.float e b=>bif AG (k=e)&&w4 op then AC (.bool (Pp op k a b),[])else bif AG (k=.f64/\e=.f64)then(match op with
   | .add=>AC (.float .f64 (fA .add a b),[Nk .add a b])
   | .sub=>AC (.float .f64 (fA .sub a b),[Nk .sub a b])
   | .mul=>AC (.float .f64 (fA .mul a b),[Nk .mul a b])
   |_=>AF)else AF
 | .complex k a b,.complex e c d=>bif AG (k=.f64/\e=.f64)then(match op with
   | .add=>AC (.complex .f64 (fA .add a c) (fA .add b d),[Nk .add a c,Nk .add b d])
   | .mul=>AC (.complex .f64 (fA .sub (fA .mul a c) (fA .mul b d)) (fA .add (fA .mul a d) (fA .mul b c)),[Nk .mul a c,Nk .mul b d,Nk .sub (fA .mul a c) (fA .mul b d),Nk .mul a d,Nk .mul b c,Nk .add (fA .mul a d) (fA .mul b c)])
   |_=>AF)else AF
 |_,_=>AF
include hT in
theorem ZN{op:DO}{x y:AJ}{r:SV}{t:AQ}(q:∀b,x=.bool b->T.und t=AC .bool)(h:mj op x y=AC r)(f:FZ r.2)(w:AN):(Dd op t x y).run P w=.ok r.1 w/\Mi r.1=true:=by
 unfold mj at h
 split at h
 ·rename_i k a l b
  split at h
  ·cases h
   have i:¬b<0:=by have:0<=b:=BL f.1;omega
   exact⟨by simp[Dd,rr,i],rfl⟩
  ·cases h
   have i:¬b<0:=by have:0<=b:=BL f.1;omega
   exact⟨by simp[Dd,rr,i],rfl⟩
  ·cases g:AG (k=l)
   ·rw[g]at h;cases h
   rw[g,Ag]at h
   have g:=BL g
   subst g
   have arith:∀n,(sI k n).1=r.1->AC (sI k n)=AC r->r.1=.int k (k.wrap n):=λn _ e=>N8 (r:=r) (Dw e) f
   split at h
   ·have:=N8 (r:=r) (Dw h) f
    rw[this];exact⟨by simp[Dd,bf],rfl⟩
   ·have:=N8 (r:=r) (Dw h) f
    rw[this];exact⟨by simp[Dd,bf],rfl⟩
   ·have:=N8 (r:=r) (Dw h) f
    rw[this];exact⟨by simp[Dd,bf],rfl⟩
   ·cases o:k.signed
    ·rw[o]at h;cases h
     have i:b≠0:=BL f.1
     exact⟨by simp[Dd,bg,i],rfl⟩
    ·rw[o]at h;cases h
     have i:b≠0:=BL f.1
     have s:A4 k (a.tdiv b):=BL f.2.1
     exact⟨by simp[Dd,bg,i,Lc s],rfl⟩
   ·cases h
    have i:b≠0:=BL f.1
    exact⟨by simp[Dd,bg,i],rfl⟩
   all_goals first
    |(cases h;exact⟨by simp[Dd,rq,y7],rfl⟩)
    |cases h
 ·rename_i a b
  have u:∀op,Dd op t (.string a) (.string b)=Wl op a b:=λop=>by cases op<;>rfl
  rw[u]
  split at h
  ·cases h
   have i:(Fg a).length+(Fg b).length<=1099511627776:=BL f.1
   have v:¬(((a.size+b.size:AB):AA)>E7.max):=by
    rw[GN,GN]
    show ¬((((Fg a).length+(Fg b).length:AB):AA)>2^63-1)
    omega
   exact⟨by simp only[Wl,AY v,A9,tW],rfl⟩
  all_goals first
   |(cases h;exact⟨by simp only[Wl,II,A9],rfl⟩)
   |cases h
 ·rename_i a b
  have z:=q a rfl
  have m:Ks t (.bool a) (.bool b)=Ku (9999+1) t (.bool a) (.bool b):=rfl
  have p:(Ks t (.bool a) (.bool b)).run P w=.ok (a==b) w:=by
   rw[m,Ku]
   simp only[A7,Ah hT z,Ax]
   rfl
  split at h
  ·cases h
   exact⟨by simp only[Dd,A7,p,Ax,A9],rfl⟩
  ·cases h
   exact⟨by simp only[Dd,A7,p,Ax,A9],rfl⟩
  ·cases h
 ·rename_i k a l b
  cases g:AG (k=l)&&w4 op
  ·rw[g,BZ]at h
   cases j:AG (k=.f64/\l=.f64)
   ·rw[j]at h;cases h
   rw[j,Ag]at h
   obtain⟨rfl,rfl⟩:=BL j
   split at h
   all_goals first
    |(cases h;exact⟨by simp only[Dd,Wn,iP,BR];exact fl f.1,rfl⟩)
    |cases h
  rw[g,Ag]at h
  cases h
  rw[A0,A6]at g
  obtain⟨rfl,g⟩:=g
  refine⟨?_,rfl⟩
  cases op<;>first
   |(cases g;done)
   |simp only[Dd,Wn,iP,BR,Op.floatCmp,A9,Pp]
 ·rename_i k a b l c d
  cases j:AG (k=.f64/\l=.f64)
  ·rw[j]at h;cases h
  rw[j,Ag]at h
  obtain⟨rfl,rfl⟩:=BL j
  split at h
  ·cases h
   refine⟨?_,rfl⟩
   simp only[Dd,Wn,iP,BR,y5,A7,Io f.1,Io f.2.1,Ax,A9]
  ·cases h
   obtain⟨A,B,C,D,E,F,_⟩:=f
   refine⟨?_,rfl⟩
   have G:(y9 a b c d).run P w=.ok (fA .sub (fA .mul a c) (fA .mul b d),fA .add (fA .mul a d) (fA .mul b c)) w:=by
    simp only[y9,AJK,AJJ,AJH,A7,Io A,Io B,Io C,Io D,Io E,Io F,Ax,A9]
   have e:(yt==yt)=true:=rfl
   simp only[Dd,Wn,iP,BR,y5,A7,jX,Ax,e,ANH,G,A9]
  ·cases h
 ·cases h
omit hT
def sUn(op:UnOp)(x:AJ):AP SV:=
 match op,x with
 | .neg,.int k n=>AC (sI k (0-n))
 | .xor,.int k n=>AC (.int k (k.wrap (Hw k.bits (if k.signed then -1 else k.max)^^^Hw k.bits n).toNat),[])
 | .not,.bool b=>AC (.bool (!b),[])
 |_,_=>AF
theorem tX{op:UnOp}{x:AJ}{r:SV}(h:sUn op x=AC r)(a:FZ r.2)(w:AN):(AOU op x).run P w=.ok r.1 w/\Mi r.1=true:=by
 unfold sUn at h
 split at h
 ·have:=N8 (r:=r) (Dw h) a;rw[this];exact⟨by simp[AOU,bf],rfl⟩
 ·cases h;exact⟨by simp[AOU,rq],rfl⟩
 ·cases h;exact⟨rfl,rfl⟩
 ·cases h
def Xd(b:AB)(k:Ie):AP AA:=match(BV.decode b).toInt .zero with
 |some n=>bif AG (k.min<=n/\n<=k.max)then AC n else AF
 |none=>AF
theorem tY{P:Ao}{w:AN}{b:AB}{k:Ie}(h:(Xd b k).isSome=AD):(yz .f64 b k).run P w=.ok (.int k ((Xd b k).getD 0)) w:=by
 unfold Xd at h⊢;unfold yz
 split at h
 ·rename_i n a;cases hd:AG (k.min<=n/\n<=k.max)
  ·rw[hd]at h;cases h
  ·simp only[a,Ae (BL hd),Ag,Option.getD_some,A9]
 ·cases h
def ml(T:TE)(src dst:AQ)(x:AJ):AP SV:=
 match T.und src,T.und dst,x with
 |some _,AC (.int k),.int a n=>bif k.signed||AG (k=a)then AC (.int k n,[AG (A4 k n)])else AC (.int k (k.wrap n),[])
 |some _,AC .string,.string s=>AC (.string s,[])
 |some _,AC (.float k),.int _ n=>AC (.float k (k.nearest n),[])
 |some _,AC (.int k),.float .f64 b=>AC (.int k ((Xd b k).getD 0),[(Xd b k).isSome])
 |_,_,_=>AF
include hT in
theorem jY{src dst:AQ}{x:AJ}{r:SV}(h:ml T src dst x=AC r)(g:FZ r.2)(w:AN):(FB src dst x).run P w=.ok r.1 w/\Mi r.1=true:=by
 unfold ml at h
 split at h
 ·rename_i d k f n a c;have e:(FB src dst (.int f n)).run P w=.ok (.int k (k.wrap n)) w:=by
   simp only[FB,A7,Ah hT a,Ah hT c,Ax,Conv.intToInt,A9]
  rw[e];cases i:(k.signed||AG (k=f))
  ·rw[i]at h;cases h;exact⟨rfl,rfl⟩
  ·rw[i]at h;cases h;have:A4 k n:=BL g.1;exact⟨by rw[Lc this],rfl⟩
 ·rename_i d s a c;cases h;exact⟨by simp only[FB,A7,Ah hT a,Ah hT c,Ax,A9],rfl⟩
 ·rename_i d k f n a c;cases h;exact⟨by simp only[FB,A7,Ah hT a,Ah hT c,Ax,Conv.intToFloat,A9],rfl⟩
 ·rename_i d k b a c;cases h;exact⟨by simp only[FB,A7,Ah hT a,Ah hT c,Ax,tY g.1],rfl⟩
 ·cases h
def ABM(T:TE)(t:AQ)(x i:AJ):AP SV:=
 match T.und t,x,i with
 |some .string,.string s,.int _ n=>AC (.int .u8 ((Fg s).getD n.toNat 0).toNat,[AG (0<=n),AG (n<(Fg s).length)])
 |_,_,_=>AF
include hT in
theorem mm{t:AQ}{x i:AJ}{r:SV}(h:ABM T t x i=AC r)(b:FZ r.2)(w:AN):(Wg t x i).run P w=.ok r.1 w/\Mi r.1=true:=by
 unfold ABM at h
 split at h
 ·rename_i s k n c;cases h;have d:(0:AA)<=n:=BL b.1;have f:n<(Fg s).length:=BL b.2.1;have a:n.toNat<(Fg s).length:=by omega
  have e:s[n.toNat]?=AC ((Fg s).getD n.toNat 0):=by
   rw[Vh];show(Fg s)[n.toNat]?=_;rw[B4 a,List.getD_eq_getElem?_getD,B4 a];rfl
  exact⟨by simp only[Wg,MB,A7,A9,Ax,Ah hT c,d,ANH,e],rfl⟩
 ·cases h
def ABN(T:TE)(t:AQ)(x:AJ)(lo a:AP AJ):AP SV:=
 match T.und t,x,lo,a with
 |some .string,.string s,AF,AF=>AC (.string s,[])
 |some .string,.string s,AC (.int _ n),AF=>AC (.string (bs ((Fg s).drop n.toNat)),[AG (0<=n),AG (n<=(Fg s).length)])
 |some .string,.string s,AF,AC (.int _ m)=>AC (.string (bs ((Fg s).take m.toNat)),[AG (0<=m),AG (m<=(Fg s).length)])
 |some .string,.string s,AC (.int _ n),AC (.int _ m)=>AC (.string (bs (((Fg s).take m.toNat).drop n.toNat)),[AG (0<=n),AG (n<=m),AG (m<=(Fg s).length)])
 |_,_,_,_=>AF
theorem Ed{k:Ie}{n:AA}{y:AB}{code:BoundsCode}(a:0<=n)(b:n<=y)(w:AN):(bW (.int k n) y code).run P w=.ok n.toNat w:=by
 simp only[bW,MB,A7,A9,Ax,a,b,and_self,ANH]
theorem Ip(s:Cg)(l h:AB):s.extract l h=bs (((Fg s).take h).drop l):=by
 rw[Rr,jV,List.drop_take];rfl
include hT in
theorem mn{t:AQ}{x:AJ}{lo g:AP AJ}{r:SV}(h:ABN T t x lo g=AC r)(a:FZ r.2)(w:AN):(FA t x lo g AF).run P w=.ok r.1 w/\Mi r.1=true:=by
 unfold ABN at h
 split at h
 ·rename_i s b;cases h;refine⟨?_,rfl⟩;simp only[FA,FN,A7,Ah hT b,Ax,Df,CI,BR,A9,Ga,Ip];rw[GN,bh,Do,NJ]
 ·rename_i s k n b;cases h;have d:(0:AA)<=n:=BL a.1;have f:n<=(Fg s).length:=BL a.2.1;refine⟨?_,rfl⟩;have e:=λc=>Ed (P:=P) (k:=k) (code:=c) d (y:=s.size) (by rw[GN];exact f) w
  simp only[FA,FN,A7,Ah hT b,Ax,Df,CI,BR,A9,Ga,e,Ip];rw[GN,bh]
 ·rename_i s k m b;cases h;have d:(0:AA)<=m:=BL a.1;have f:m<=(Fg s).length:=BL a.2.1;refine⟨?_,rfl⟩;have e:=λc=>Ed (P:=P) (k:=k) (code:=c) d (y:=s.size) (by rw[GN];exact f) w
  simp only[FA,FN,A7,Ah hT b,Ax,Df,CI,BR,A9,Ga,e,Ip,Do]
 ·rename_i s k n i m b;cases h;have d:(0:AA)<=n:=BL a.1;have f:n<=m:=BL a.2.1;have j:m<=(Fg s).length:=BL a.2.2.1;refine⟨?_,rfl⟩;have e:=λc=>Ed (P:=P) (k:=i) (code:=c) (by omega:0<=m) (y:=s.size) (by rw[GN];exact j) w
  have l:=λc=>Ed (P:=P) (k:=k) (code:=c) d (y:=m.toNat) (by omega) w
  simp only[FA,FN,A7,Ah hT b,Ax,Df,CI,BR,A9,Ga,e,l,Ip]
 ·cases h
def lT(b:Uj)(x:AJ):AE AJ->AP AJ
 |[]=>AC x
 |y::a=>match b,x,y with
  | .min,.int k n,.int _ m=>lT b (.int k (min n m)) a
  | .max,.int k n,.int _ m=>lT b (.int k (max n m)) a
  |_,_,_=>AF
def sBI(T:TE)(b:Uj)(argTypes:AE AQ)(args:AE AJ):AP SV:=
 match b,args with
 | .len,[.string s]=>match argTypes with
   |t::_=>match T.und t with
    |some .string=>AC (.int .i64 (Fg s).length,[])
    |_=>AF
   |_=>AF
 | .min,.int k n::c=>match lT .min (.int k n) c with
   |some v=>AC (v,[])
   |none=>AF
 | .max,.int k n::c=>match lT .max (.int k n) c with
   |some v=>AC (v,[])
   |none=>AF
 | .complex,[.float k a,.float d b]=>bif AG (k=d)then AC (.complex k a b,[])else AF
 | .real,[.complex k a _]=>AC (.float k a,[])
 | .imag,[.complex k _ b]=>AC (.float k b,[])
 |_,_=>AF
theorem fm:∀(a:AE AJ) (k:Ie) (n:AA) (v:AJ),lT .min (.int k n) a=AC v->(∃m,v=.int k m)/\∀w,(a.foldlM rl (.int k n)).run P w=.ok v w
 |[],k,n,v,h=>by simp only[lT,BJ]at h;subst h;exact⟨⟨_,rfl⟩,λw=>rfl⟩
 |y::a,k,n,v,h=>by
  cases y with
  |int b m=>
   simp only[lT]at h;obtain⟨c,d⟩:=fm a k _ v h;refine⟨c,λw=> ?_⟩;have e:(rl (.int k n) (.int b m)).run P w=.ok (.int k (min n m)) w:=by
    simp only[rl,A9];congr 2;rw[Int.min_def]
    split<;>split<;>omega
   simp only[zC,A7,e,Ax,d]
  |_=>simp[lT]at h
theorem fo:∀(a:AE AJ) (k:Ie) (n:AA) (v:AJ),lT .max (.int k n) a=AC v->(∃m,v=.int k m)/\∀w,(a.foldlM rk (.int k n)).run P w=.ok v w
 |[],k,n,v,h=>by simp only[lT,BJ]at h;subst h;exact⟨⟨_,rfl⟩,λw=>rfl⟩
 |y::a,k,n,v,h=>by
  cases y with
  |int b m=>
   simp only[lT]at h;obtain⟨c,d⟩:=fo a k _ v h;refine⟨c,λw=> ?_⟩;have e:(rk (.int k n) (.int b m)).run P w=.ok (.int k (max n m)) w:=by
    simp only[rk,A9];congr 2;rw[Int.max_def]
    split<;>split<;>omega
   simp only[zC,A7,e,Ax,d]
  |_=>simp[lT]at h
include hT in
theorem tZ{b:Uj}{ty:AQ}{argTypes:Aa AQ}{consts:Aa AH}{args:AE AJ}{r:SV}(h:sBI T b argTypes.toList args=AC r)(w:AN):
  (builtin b argTypes ty consts args.toArray).run P w=.ok (.value r.1) w/\Mi r.1=AD/\r.2=[]:=by
 have tl:∀t l,argTypes.toList=t::l->argTypes[0]?=AC t:=λt l e=>by rw[<-Bf,e];rfl
 unfold sBI at h
 split at h
 ·rename_i s
  split at h
  ·rename_i t l i
   split at h
   ·rename_i j;cases h;refine⟨?_,rfl,rfl⟩;have:(M0 argTypes ty [E9 s].toArray).run P w=.ok (.int .i64 (Fg s).length) w:=by
     simp only[M0,tl _ _ i,ANI,List.getElem?_cons_zero,A7,Ah hT j,Ax,A9,goInt,GN]
    show(do Ck (Wk (<-M0 argTypes ty [E9 s].toArray)):Sem Next).run P w=_;simp only[A7,this,Ax,A9]
   ·cases h
  ·cases h
 ·rename_i k n c
  split at h
  ·rename_i v f;cases h;obtain⟨⟨m,rfl⟩,g⟩:=fm (P:=P) c k n v f;refine⟨?_,rfl,rfl⟩;have:(yw argTypes ty (Ht k n::c).toArray).run P w=.ok (.int k m) w:=g w;show(do Ck (Wk (<-yw argTypes ty (Ht k n::c).toArray)):Sem Next).run P w=_;simp only[A7,this,Ax,A9]
  ·cases h
 ·rename_i k n c
  split at h
  ·rename_i v f;cases h;obtain⟨⟨m,rfl⟩,g⟩:=fo (P:=P) c k n v f;refine⟨?_,rfl,rfl⟩;have:(yv argTypes ty (Ht k n::c).toArray).run P w=.ok (.int k m) w:=g w;show(do Ck (Wk (<-yv argTypes ty (Ht k n::c).toArray)):Sem Next).run P w=_;simp only[A7,this,Ax,A9]
  ·cases h
 ·rename_i k a o b;cases d:AG (k=o)
  ·rw[d]at h;cases h
  rw[d,Ag]at h;cases h;have d:=BL d;subst d;refine⟨?_,rfl,rfl⟩;show(do Ck (Wk (<-rj argTypes ty #[.float k a,.float k b])):Sem Next).run P w=_;have:(rj argTypes ty #[.float k a,.float k b]).run P w=.ok (.complex k a b) w:=by
   have e:rj argTypes ty #[.float k a,.float k b]=if k=k then Ck (.complex k a b)else stuck "complex: parts of different kinds" :=rfl;rw[e,Ae rfl];rfl
  simp only[A7,this,Ax,A9]
 ·rename_i k a b;cases h;refine⟨?_,rfl,rfl⟩;show(do Ck (Wk (<-yx argTypes ty #[.complex k a b])):Sem Next).run P w=_;have:(yx argTypes ty #[.complex k a b]).run P w=.ok (.float k a) w:=rfl;simp only[A7,this,Ax,A9]
 ·rename_i k a b;cases h;refine⟨?_,rfl,rfl⟩;show(do Ck (Wk (<-yu argTypes ty #[.complex k a b])):Sem Next).run P w=_;have:(yu argTypes ty #[.complex k a b]).run P w=.ok (.float k b) w:=rfl;simp only[A7,this,Ax,A9]
 ·cases h
