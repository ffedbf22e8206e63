/-
  The engine, part 10: an abstract evaluator over the model's code, proved sound. No condition.
-/
import Derived.Test.YtkgejlchafionaaGreatDoorEng9
open Array renaming getElem?_toList->Bf
open Bool renaming and_eq_true->A0,false->AK,true->AD
open Go renaming Func->Dq,Program->Ao,Value->AJ,World->AN,results->PD
open Go.Ending renaming returned->O6
open List renaming append_assoc->C9,append_nil->Ce,drop_drop->En,getElem?_append_left->EE,getElem?_append_right->Fw,getElem?_cons_zero->EM,getElem?_eq_getElem->B4,getElem?_eq_none->DA,getElem?_take->CB,getElem?_toArray->ANI,length_cons->B7,length_nil->E8,length_take->Bw,mem_cons->Dv,singleton_append->Gq
open Nat renaming add_sub_cancel_left->jB,beq->Af,ble->B8,eq_of_beq_eq_true->Br,le_of_ble_eq_true->GJ,le_refl->Ak,lt_or_ge->Cf,mul_le_mul_right->Gc
open Option renaming none->AF,some->AC
open Option.some renaming injEq->BJ
open Prod.mk renaming injEq->Ct
open _root_ renaming Array->Aa,Bool->AH,False->Uz,List->AE,Nat->AB,Option->AP,absurd->Aq,cond_true->Ag,if_neg->AY,if_pos->Ae,not_false->jC,of_decide_eq_true->BL,trivial->A3
section
noncomputable section
noncomputable section
namespace Go.Eng
open Go
def qa{α:Type}(f:AE AJ->AP (α×AE AJ×AE AH)):AB->AE AJ->AP (AE α×AE AH)
 |0,_=>AC ([],[])
 |n+1,a=>match f a with
  |some (x,r,p)=>match qa f n r with
   |some (b,q)=>AC (x::b,p++q)
   |none=>AF
  |none=>AF
def CT(σ:St):(t:Ty)->AE AJ->AP (t.Den×AE AJ×AE AH)
 | .int k,v::r=>match DH v with
   |some (.int j n)=>bif decide (j=k)then AC (n,r,[])else AF
   |_=>AF
 | .byte,v::r=>match DH v with
   |some (.int .u8 n)=>AC (UInt8.ofNat n.toNat,r,[decide (A4 .u8 n)])
   |_=>AF
 | .bool,v::r=>match DH v with
   |some (.bool b)=>AC (b,r,[])
   |_=>AF
 | .f64,v::r=>match DH v with
   |some (.float .f64 b)=>AC (b,r,[])
   |_=>AF
 | .cx,v::r=>match DH v with
   |some (.complex .f64 a b)=>AC ((a,b),r,[])
   |_=>AF
 | .str,v::r=>match DH v with
   |some (.string s)=>AC (Fg s,r,[])
   |_=>AF
 | .unit,d=>AC ((),d,[])
 | .pair a b,d=>match CT σ a d with
   |some (x,r,p)=>match CT σ b r with
    |some (y,l,q)=>AC ((x,y),l,p++q)
    |none=>AF
   |none=>AF
 | .slice a,v::r=>match v with
   | .slice AF 0 0=>AC ([],r,[])
   | .slice (AC ⟨_,_,AC 0⟩) 0 _=>AC ([],r,[])
   | .slice (AC ⟨id,off,AF⟩) n c=>match σ.heap.get id with
     |some (.row d _ AK)=>match qa (CT σ a) n (d.drop off)with
      |some (e,p)=>bif B8 (off+n*a.sz) d.length&&B8 n c then AC (e,r,p)else AF
      |none=>AF
     |_=>AF
   | .tuple i=>match i.toList with
     |[.chan (AC 2),.pointer (AC ⟨id,0,AF⟩)]=>match JX (σ.heap.get id)with
      |some ⟨t,e⟩=>if h:t=a then AC (h▸e,r,[])else AF
      |_=>AF
     |[.chan (AC 5),.slice (AC ⟨id,0,AF⟩) m 0]=>match JX (σ.heap.get id)with
      |some ⟨t,e⟩=>if h:t=a then AC (List.take m (h▸e),r,[])else AF
      |_=>AF
     |_=>AF
   |_=>AF
 | .err,v::r=>match je v with
   |some b=>AC (b,r,[])
   |none=>AF
 | .fn f,v::r=>match ZP v with
   |some g=>bif Af g f then AC ((),r,[])else AF
   |none=>AF
 | .fv,v::r=>match ZP v with
   |some g=>AC (g,r,[])
   |none=>AF
 | .ref _,_::_=>AF
 | .clo _ _,_::_=>AF
 |_,[]=>AF
def Q8(σ:St):(ts:AE Ty)->AE AJ->AP (AM ts×AE AH)
 |[],[]=>AC ((),[])
 |t::ts,v::vs=>match(bif t.agg then(match v with| .agg a=>AC a.toList|_=>AF)else AC [v])with
  |some a=>match CT σ t a with
   |some (x,[],p)=>match Q8 σ ts vs with
    |some (y,q)=>AC ((x,y),p++q)
    |none=>AF
   |_=>AF
  |none=>AF
 |_,_=>AF
section
variable {P:Ao} {D:AB->Prop} {ι:AB->Reg} {σ σ':St} {w:AN} {fz:AB->AP (Aa AJ)}
theorem iC{a:Ty}(j:∀(b us:AE AJ) (x:a.Den) (r:AE AJ) (p:AE AH),CT σ a b=AC (x,r,p)->FZ p->LR D ι b us->∃c f,us=c++f/\Cw fz a x c/\LR D ι r f):
  ∀(n:AB) (b us:AE AJ) (d:AE a.Den) (p:AE AH),qa (CT σ a) n b=AC (d,p)->FZ p->LR D ι b us->d.length=n/\∀i x,d[i]?=AC x->Cw fz a x ((us.drop (i*a.sz)).take a.sz)
 |0,b,us,d,p,h,_,_=>by
  simp only[qa,BJ,Ct]at h;obtain⟨rfl, -⟩:=h;exact⟨rfl,λi x k=>by simp at k⟩
 |n+1,b,us,d,p,h,l,m=>by
  simp only[qa]at h
  split at h
  ·rename_i x r q o
   split at h
   ·rename_i s t u;cases h;obtain⟨v,w⟩:=Ci l;obtain⟨c,f,rfl,g1,z⟩:=j b us x r q o v m;obtain⟨A,B⟩:=iC j n r f s t u w z;have e:=(Lh a x c g1).1;refine⟨by simp[A],λi y g=> ?_⟩;rcases i with _|i
    ·simp only[EM,BJ]at g;subst g;rw[Nat.zero_mul,List.drop_zero,List.take_append_of_le_length (by omega),List.take_of_length_le (by omega)];exact g1
    ·have:=B i y (by simpa using g);rw[show(i+1)*a.sz=c.length+i*a.sz by rw[e,Nat.add_mul];omega,<-En,List.drop_left];exact this
   ·cases h
  ·cases h
theorem qb{id b:AB}{y}(h:JX (σ.heap.get id)=AC y)(hd:∀x,σ.H.hdr id=AC x->BI P ι id w x)(d:(ι id).Own b):Wr σ.H id:=by
 unfold JX at h
 split at h
 ·rename_i t f a;obtain⟨_,_,c,_⟩:=hd _ (St.hdr_of a);rw[d.1]at c;cases c
 ·rename_i t f e a;exact⟨_,St.hdr_of a,A3⟩
 ·cases h
theorem WT(hall:HAll P D ι σ.H w)(T:∀id b,(Wr σ.H id/\(ι id).Own b)\/(Lv σ.H id/\(ι id).Fz b)->∀c e fr,w.heap[b]?=AC (.cells c e fr)->fz b=AC c):∀(t:Ty) (C us:AE AJ) (x:t.Den) (r:AE AJ) (p:AE AH),CT σ t C=AC (x,r,p)->FZ p->LR D ι C us->
  ∃U u2,us=U++u2/\Cw fz t x U/\LR D ι r u2:=by
 intro t
 induction t with
 |int k=>
  intro C us x r p h _ d;cases d with
  |nil=>simp[CT]at h
  |cons s A=>
   simp only[CT]at h
   split at h
   ·rename_i k' n z;cases Q:decide (k'=k)
    ·rw[Q]at h;cases h
    ·rw[Q]at h;cases h;have:=BL Q;subst this;exact⟨[_],_,rfl,by rw[(Ay z s).1];rfl,A⟩
   ·cases h
 |byte=>
  intro C us x r p h V d;cases d with
  |nil=>simp[CT]at h
  |cons s A=>
   simp only[CT]at h
   split at h
   ·rename_i n z;cases h;refine⟨[_],_,rfl,?_,A⟩;rw[(Ay z s).1];simp only[Cw];rw[<-Ru (BL V.1)]
   ·cases h
 |bool=>
  intro C us x r p h _ d;cases d with
  |nil=>simp[CT]at h
  |cons s A=>
   simp only[CT]at h
   split at h
   ·rename_i b z;cases h;exact⟨[_],_,rfl,by rw[(Ay z s).1];rfl,A⟩
   ·cases h
 |f64=>
  intro C us x r p h _ d;cases d with
  |nil=>simp[CT]at h
  |cons s A=>
   simp only[CT]at h
   split at h
   ·rename_i b z;cases h;exact⟨[_],_,rfl,by rw[(Ay z s).1];rfl,A⟩
   ·cases h
 |ref a ih=>
  intro C us x r p h _ d;cases d<;>simp[CT]at h
 |clo f a ih=>
  intro C us x r p h _ d;cases d<;>simp[CT]at h
 |cx=>
  intro C us x r p h _ d;cases d with
  |nil=>simp[CT]at h
  |cons s A=>
   simp only[CT]at h
   split at h
   ·rename_i a b z;cases h;exact⟨[_],_,rfl,by rw[(Ay z s).1];rfl,A⟩
   ·cases h
 |str=>
  intro C us x r p h _ d;cases d with
  |nil=>simp[CT]at h
  |cons s A=>
   simp only[CT]at h
   split at h
   ·rename_i b z;cases h;exact⟨[_],_,rfl,by rw[(Ay z s).1];simp only[Cw,NJ],A⟩
   ·cases h
 |unit=>
  intro C us x r p h _ d;simp only[CT,BJ,Ct]at h;obtain⟨-,rfl, -⟩:=h;exact⟨[],us,rfl,rfl,d⟩
 |err=>
  intro C us x r p h _ d;cases d with
  |nil=>simp[CT]at h
  |cons s A=>
   simp only[CT]at h
   split at h
   ·rename_i b z;cases h;exact⟨[_],_,rfl,⟨_,rfl,MU z s⟩,A⟩
   ·cases h
 |fv=>
  intro C us x r p h _ d;cases d with
  |nil=>simp[CT]at h
  |cons s A=>
   simp only[CT]at h
   split at h
   ·rename_i g z;cases h;exact⟨[_],_,rfl,by rw[H5 z s];rfl,A⟩
   ·cases h
 |fn f=>
  intro C us x r p h _ d;cases d with
  |nil=>simp[CT]at h
  |cons s A=>
   simp only[CT]at h
   split at h
   ·rename_i g z;cases E:Af g f
    ·rw[E]at h;cases h
    ·rw[E]at h;cases h;have:=Br E;subst this;exact⟨[_],_,rfl,by rw[H5 z s];rfl,A⟩
   ·cases h
 |pair a b iha ihb=>
  intro C us x r p h V d;simp only[CT]at h
  split at h
  ·rename_i x1 r1 p1 h1
   split at h
   ·rename_i x2 r2 p2 h2;cases h;obtain⟨q1,q2⟩:=Ci V;obtain⟨U,u2,rfl,g1,W⟩:=iha C us x1 r1 p1 h1 q1 d;obtain⟨v1,v2,rfl,g3,g4⟩:=ihb r1 u2 x2 r p2 h2 q2 W;exact⟨U++v1,v2,by simp,⟨U,v1,rfl,g1,g3⟩,g4⟩
   ·cases h
  ·cases h
 |slice a ih=>
  intro C us x r p h V d;cases d with
  |nil=>simp[CT]at h
  |cons s A=>
   simp only[CT]at h
   split at h
   ·cases h;cases s;exact⟨[_],_,rfl,⟨_,rfl,.inl ⟨⟨_,_,rfl⟩,rfl⟩⟩,A⟩
   ·cases h;cases s;exact⟨[_],_,rfl,⟨_,rfl,.inl ⟨⟨_,_,rfl⟩,rfl⟩⟩,A⟩
   ·rename_i id off n c
    split at h
    ·rename_i B el F
     split at h
     ·rename_i xs q hr;cases E:(B8 (off+n*a.sz) B.length&&B8 n c)
      ·rw[E]at h;cases h
      rw[E,Ag]at h;rw[A0]at E;have hb2:=GJ E.2;have E:=GJ E.1;cases h;obtain⟨I,rfl,hD,hc1,hc2⟩:=s.sl_inv;have hd:=hall.hd id _ (St.hdr_of F);obtain⟨j,e,fr,X,e2,e3,⟨e4,e5⟩,e6⟩:=hd;have hfz:=T id (ι id).blk (.inl ⟨⟨_,St.hdr_of F,rfl⟩,e4,rfl⟩) j e fr X
      have K:∀k,k<B.length->∃u,j.toList[(ι id).base+k]?=AC u/\∃v,B[k]?=AC v/\VR D ι v u:=by
       intro k Q;obtain⟨_,u,z,L⟩:=hall.ce id k B[k] (St.lv_of F) (by rw[St.cell_of F];exact B4 Q);simp only[World.cell?,X,Option.isSome_none,Bool.false_eq_true,if_false]at z;exact⟨u,by rw[Bf];exact z,B[k],B4 Q,L⟩
      have hlr:LR D ι (B.drop off) (((j.toList.drop (ι id).base).take B.length).drop off):=by
       refine LR.drop off (LR.of_AR ⟨?_,λi a b M E=> ?_⟩)
       ·simp only[List.size_toArray,Bw,List.length_drop,Array.length_toList];have:B.length<=(ι id).room:=e3;omega
       ·simp only[ANI]at M E;rw[CB]at E
        split at E
        ·rename_i hi;obtain⟨u,z,v,hv',L⟩:=K i hi;rw[List.getElem?_drop,z]at E;rw[hv']at M;cases M;cases E;exact L
        ·cases E
      obtain⟨k1,k2⟩:=iC (fz:=fz) (λC us x r p h1 h2 h3=>ih C us x r p h1 h2 h3) n _ _ _ _ hr V hlr;have hnc:n<=I:=by
       by_cases z:c=IX
       ·exact(hc2 z).1
       ·rw[hc1 z];exact hb2
      refine⟨[_],_,rfl,⟨_,rfl,.inr ⟨(ι id).blk,(ι id).base+off,I,j,by rw[k1],hfz,by rw[k1];have:B.length<=(ι id).room:=e3;omega,by rw[k1];exact hnc,λi y hy=> ?_⟩⟩,A⟩;have Y:=k2 i y hy;have hi:i<n:=by
       rcases Cf i n with h|h
       ·exact h
       ·rw[DA (by omega)]at hy;cases hy
      have R:i*a.sz+a.sz<=n*a.sz:=by
       have:=Gc a.sz hi;rwa[Nat.succ_mul]at this
      have e:((((j.toList.drop (ι id).base).take B.length).drop off).drop (i*a.sz)).take a.sz=(j.toList.drop ((ι id).base+off+i*a.sz)).take a.sz:=by
       rw[En,List.drop_take,List.take_take,En,Nat.add_assoc];congr 1;omega
      rw[e]at Y;exact Y
     ·cases h
    ·cases h
   ·rename_i j
    split at h
    ·rename_i id M;rw[CV M]at s;obtain⟨a',l,c,rfl,hD,J⟩:=FQ s
     split at h
     ·rename_i t xs F
      split at h
      ·rename_i he;subst he;cases h;have R:=KF (φ:=⟨[],[id],[],[]⟩) F (.inr (.inl (by simp))) (hall.on _);refine⟨[_],_,rfl,⟨_,rfl,?_⟩,A⟩;rw[<-J];refine R.rd.imp_right ?_;rintro⟨b,o,c,j,e,fr,g1,W,g3,g4,g5,g6⟩;refine⟨b,o,c,j,g1,T id b (g6.imp (λh=>⟨qb F (hall.hd id) h,h⟩) λh=>⟨Li F,h⟩) j e fr W,g3,g4,λi x S=>Cw.mono (λZ I G=> ?_) _ _ _ (g5 i x S)⟩
       obtain⟨e',fr',N⟩:=R.fz Z I G;exact T id Z (.inr ⟨Li F,I,G⟩) I e' fr' N
      ·cases h
     ·cases h
    ·rename_i id m M;rw[CV M]at s;obtain⟨a',l,c,rfl,hD,J,hml⟩:=ABj s
     split at h
     ·rename_i t xs F
      split at h
      ·rename_i he;subst he;cases h;have R:=KF (φ:=⟨[],[id],[],[]⟩) F (.inr (.inl (by simp))) (hall.on _);refine⟨[_],_,rfl,⟨_,rfl,?_⟩,A⟩;rcases R.rd with⟨⟨q,c1,X⟩,hn⟩|⟨b,o,c1,j,e,fr,g1,W,g3,g4,g5,g6⟩
       ·rw[J]at X;cases X;obtain rfl:m=0:=Nat.le_zero.1 hml;exact .inl ⟨⟨_,_,rfl⟩,rfl⟩
       ·rw[J]at g1;cases g1;have O:(xs.take m).length=m:=by rw[Bw];omega
        have hmul:=Gc t.sz hml;refine .inr ⟨b,o,c,j,by rw[O],T id b (g6.imp (λh=>⟨qb F (hall.hd id) h,h⟩) λh=>⟨Li F,h⟩) j e fr W,by rw[O];omega,by rw[O];omega,λi x S=>Cw.mono (λZ I G=> ?_) _ _ _ (g5 i x ?_)⟩
        ·obtain⟨e',fr',N⟩:=R.fz Z I G;exact T id Z (.inr ⟨Li F,I,G⟩) I e' fr' N
        ·rw[CB]at S
         split at S
         ·exact S
         ·cases S
      ·cases h
     ·cases h
    ·cases h
   ·cases h
theorem bA(hall:HAll P D ι σ.H w)(g:∀id b,(Wr σ.H id/\(ι id).Own b)\/(Lv σ.H id/\(ι id).Fz b)->∀c e fr,w.heap[b]?=AC (.cells c e fr)->fz b=AC c):∀(ts:AE Ty) (vs us:AE AJ) (x:AM ts) (p:AE AH),Q8 σ ts vs=AC (x,p)->FZ p->LR D ι vs us->CN fz ts x us
 |[],vs,us,x,p,h,_,i=>by
  cases i with
  |nil=>rfl
  |cons _ _=>simp[Q8]at h
 |t::ts,vs,us,x,p,h,o,i=>by
  cases i with
  |nil=>simp[Q8]at h
  |cons k r=>
   rename_i v u vs us;simp only[Q8]at h
   split at h
   ·rename_i F d
    split at h
    ·rename_i l m n
     split at h
     ·rename_i y q s;cases h;obtain⟨q1,z⟩:=Ci o;refine⟨u,us,rfl,?_,bA hall g ts vs us y q s z r⟩;cases a:t.agg
      ·rw[a]at d;cases d;obtain⟨A,B,f,g1,j⟩:=WT hall g t [v] [u] l [] m n q1 (.cons k .nil);cases j;rw[Ce]at f;rw[<-f]at g1;exact .inr ⟨a,g1⟩
      ·rw[a,Ag]at d
       split at d
       ·rename_i as;cases d;cases k with
        |agg _ bs C E=>
         obtain⟨A,B,f,g1,j⟩:=WT hall g t as.toList bs.toList l [] m n q1 (LR.of_AR ⟨by simpa using C,by simpa using E⟩);cases j;rw[Ce]at f;rw[<-f]at g1;exact .inl ⟨a,bs,rfl,g1⟩
       ·cases d
     ·cases h
    ·cases h
   ·cases h
end
section
variable {P:Ao} {E:Env} (hE:E.OK P)
def QP(P:Ao)(fn:Dq)(rs:AE Ty)(y:AM rs)(fz0:AB->AP (Aa AJ))(w0:AN):Exit->Act->AN->Prop:=
 bodyPost P fn λe w'=>DK fz0 w0->∃vs a,e=.returned (Er vs)/\(∀b c,fz0 b=AC c->a b=AC c)/\DK a w'/\(∀b c,a b=AC c->fz0 b=AC c\/w0.heap.size<=b)/\CN a rs y vs/\DU w0 w'
include hE in
theorem Ka{nt:AB}{D:AB->Prop}{ι:AB->Reg}{s:Tr AJ}{σ:St}{a:Act}{w:AN}{φ:Foot}{fn:Dq}{vs:AE AJ}(h:Fj E s σ fn.results.toList=AC (vs,φ))(b:JD nt D ι s a)(c:HOn P D ι σ.H φ w):
  ∃l:AE AJ,(PD fn a.tmps).run P w=.ok (Er l) w/\AR D ι vs.toArray l.toArray:=by
 obtain⟨l,d,e,i,j⟩:=ANQ hE _ _ _ h b c;have f:(fn.results.mapM (cY a.tmps)).run P w=.ok l.toArray w:=by
  rw[Array.mapM_eq_mapM_toList,Sem.run_map,d];rfl
 have g:PD fn a.tmps=(do let vs<-fn.results.mapM (cY a.tmps);Pure.pure (if h:vs.size=1 then vs[0]else .tuple vs)):=by
  unfold PD;congr 2
 refine⟨l,?_,e⟩;rw[g,Sem.run_bind,f,Result.andThen_ok,Sem.run_pure];congr 1
 match l with
 |[]=>rfl
 |[v]=>rfl
 |_::_::_=>rfl
def AD0(E:Env)(fn:Dq)(rs:AE Ty):Pl×Tr AJ×St->AP (AM rs×AE AH)
 |(.out e [],s,σ)=>match e with
  | .normal=>match Fj E s σ fn.results.toList with
    |some (vs,_)=>Q8 σ rs vs
    |none=>AF
  | .ret=>match Fj E s σ fn.results.toList with
    |some (vs,_)=>Q8 σ rs vs
    |none=>AF
  |_=>AF
 |_=>AF
include hE in
theorem qc{nt:AB}{fz0:AB->AP (Aa AJ)}{w0 w:AN}{s:Tr AJ}{σ:St}{a:Act}{fn:Dq}{rs:AE Ty}{vs:AE AJ}{φ:Foot}{y:AM rs}{k:AE AH}(r:Hl P E nt [] w0 (λ_=>Uz) (λb=>∃c,fz0 b=AC c) s σ a w)(t:Fj E s σ fn.results.toList=AC (vs,φ))(u:Q8 σ rs vs=AC (y,k))(x:FZ k):
  a.defers=[]/\∃v,(PD fn a.tmps).run P w=.ok v w/\(DK fz0 w0->∃vs g,O6 v=.returned (Er vs)/\(∀b c,fz0 b=AC c->g b=AC c)/\DK g w/\(∀b c,g b=AC c->fz0 b=AC c\/w0.heap.size<=b)/\CN g rs y vs/\DU w0 w):=by
 obtain⟨D,ι,z,M,N,m,hall,n,q1,A,B,q,C,F,O⟩:=r;obtain⟨l,G,H⟩:=Ka hE t m (hall.on _);refine⟨n,Er l,G,λo=> ?_⟩;have f:∀b c,fz0 b=AC c->b<w0.heap.size/\∃e fr,w.heap[b]?=AC (.cells c e fr):=λb c h=>by
  obtain⟨e,fr,i⟩:=o b c h;have d:=BX i;exact⟨d,e,fr,by rw[q b d jC];exact i⟩
 refine⟨l,λb=>if b<w0.heap.size then fz0 b else(match w.heap[b]? with|some (.cells c _ _)=>AC c|_=>AF),rfl,λb c h=> ?_,λb c h=> ?_,λb c h=> ?_,?_,q1,A,B,λb p=>q b p jC⟩
 ·simp only[Ae (f b c h).1];exact h
 ·simp only at h
  split at h
  ·exact(f b c h).2
  ·split at h
   ·rename_i Q e fr j;cases h;exact⟨e,fr,j⟩
   ·cases h
 ·simp only at h
  split at h
  ·exact .inl h
  ·rename_i d;exact .inr (by omega)
 ·refine bA hall (λid b p c e fr j=> ?_) rs vs l y k u x (LR.of_AR H);by_cases d:b<w0.heap.size
  ·rw[Ae d];rcases p with⟨I,J⟩|⟨K,L⟩
   ·rcases C id I b J with h|h
    ·omega
    ·exact h.elim
   ·rcases F id K b L with h|h|⟨c0,h⟩
    ·omega
    ·exact h.elim
    ·obtain⟨_,R,fr',i⟩:=f b c0 h;rw[j]at i;cases i;exact h
  ·rw[AY d,j]
include hE in
theorem vv{nt:AB}{fz0:AB->AP (Aa AJ)}{fn:Dq}{rs:AE Ty}{p:Pl}{s:Tr AJ}{σ:St}{y:AM rs}{g:AE AH}(h:AD0 E fn rs (p,s,σ)=AC (y,g))(i:FZ g):
  At P E nt [] (QP P fn rs y fz0) (λ_ _=>Uz) (λ_ b=>∃c,fz0 b=AC c) p s σ:=by
 intro w0 a w j;unfold AD0 at h
 split at h
 ·rename_i e k σ' d;simp only[Ct]at d;obtain⟨rfl,rfl,rfl⟩:=d
  split at h
  ·split at h
   ·rename_i vs φ f;exact qc hE j f h i
   ·cases h
  ·split at h
   ·rename_i vs φ f;exact qc hE j f h i
   ·cases h
  ·cases h
 ·cases h
def vw(E:Env)(S:PSpec)(x:AM S.ts)(ora:AE AB):AE AJ×St:=Gm (IK S.ts x) ((Bj E).pop ora)
def KQ(E:Env)(S:PSpec)(x:AM S.ts)(ora:AE AB):Tr AJ:=F1 0 (Ry S.ts (vw E S x ora).1) .lf
def AD1(E:Env)(S:PSpec)(x:AM S.ts)(ora:AE AB):St:=(vw E S x ora).2
include hE in
theorem YT(ora:AE AB):((Bj E).pop ora).wf:=by
 intro id hid;cases a:(IC E.gl).get id with
 |none=>exact a
 |some o=>
  obtain⟨p,b,c,_⟩:=Fl a;have:=(hE.gl p b).1;have hid:E.G<=id:=hid;omega
theorem Iy(ora:AE AB){id:AB}{x:Hd}(a:((Bj E).pop ora).H.hdr id=AC x):∃p,p∈E.gl/\p.1=id/\((Bj E).pop ora).heap.get id=AC (AO.row p.2 0 AD)/\x=.row p.2.length 0 true:=by
 cases b:(IC E.gl).get id with
 |none=>
  have:((Bj E).pop ora).H.hdr id=none:=by simp[St.H,Bj,St.pop,b]
  rw[this]at a;cases a
 |some o=>
  obtain⟨p,c,d,rfl⟩:=Fl b;have:((Bj E).pop ora).H.hdr id=AC (AO.row p.2 0 AD).hd:=St.hdr_of (σ:=(Bj E).pop ora) b;rw[this]at a;cases a;exact⟨p,c,d,b,rfl⟩
theorem QJ(d:∀p,p∈E.gl->p.2≠[])(ora:AE AB){w:AN}(m:NP E.gl w):HAll P (λid=>id<E.G) (EX w) ((Bj E).pop ora).H w where
 hd:=λid x f=>by
  obtain⟨p,a,rfl,n,rfl⟩:=Iy ora f;obtain⟨c,e,fr,g1,g⟩:=AN6 (m.1 p a) (d p a);refine⟨c,e,fr,g1,?_,?_,⟨rfl,Kl _ _ _ _⟩,λh=>by cases h⟩
  ·simp[EX,g1]
  ·simpa[EX,g1]using g
 ce:=λid k u q o=>by
  obtain⟨x,f⟩:=q;obtain⟨p,a,rfl,n,rfl⟩:=Iy ora f;rw[St.cell_of n]at o;obtain⟨r,g1,g⟩:=m.1 p a k u o;refine⟨rfl,r,?_,g.vr⟩;simpa[EX]using g1
 inj:=λi j _ _ l b s=>⟨λt=>l (s.2.trans t.2.symm),Kl _ _ _ _ b⟩
theorem MatOK.hall{D:AB->Prop}{ι ι':AB->Reg}{σ σ':St}{w:AN}{fz:AB->AP (Aa AJ)}(m:MatOK fz ι σ σ' ι')(h:HAll P D ι σ.H w)(y:∀id,D id->id<σ.next)(z:DK fz w)(f:∀id,Wr σ.H id->∀b,(ι id).Own b->∀c,fz b=AC c->Uz):HAll P (λi=>D i\/σ.rng σ' i) ι' σ'.H w where
 hd:=λid x d=>by
  by_cases a:σ.rng σ' id
  ·obtain⟨t,o,u,g1,n,g3⟩:=m.new id a;rw[St.hdr_of g1]at d;cases d;exact⟨by rw[g3];exact n,by rw[g3];rfl,by rw[g3];rfl,by rw[g3];exact z⟩
  ·have e:σ'.H.hdr id=σ.H.hdr id:=by simp only[St.H,m.old id a]
   rw[e]at d;exact(h.hd id x d).keep (S:=λ_ _=>Uz) (m.io id a) (λb _=>CR.refl _ _) (.inr λ_ _ _=>jC)
 ce:=λid k v A d=>by
  by_cases a:σ.rng σ' id
  ·obtain⟨t,o,u,g1,n,g3⟩:=m.new id a;simp only[St.H,g1,Fs]at d;cases d
  ·have e:σ'.H.hdr id=σ.H.hdr id:=by simp only[St.H,m.old id a]
   have B:σ'.H.cell id k=σ.H.cell id k:=by simp only[St.H,m.old id a]
   rw[B]at d;exact(h.ce id k v (A.of_hdr e) d).keep (S:=λ_=>Uz) (m.io id a) (λ_=>.inl) (λi g=>m.io i λa=>by have:=y i g;simp only[St.rng]at a;omega) (CR.refl _ _) jC
 inj:=λi j r C p b l=>by
  by_cases g:σ.rng σ' i
  ·obtain⟨t,o,u,g1,n,g3⟩:=m.new i g;rw[g3]at l;cases l.1
  ·have s:σ'.H.hdr i=σ.H.hdr i:=by simp only[St.H,m.old i g]
   rw[m.io i g]at l;by_cases q:σ.rng σ' j
   ·obtain⟨t,o,u,g1,n,g3⟩:=m.new j q;rw[g3];exact⟨λ(h:(dj t fz u).Own b)=>(by cases h.1),λ⟨c,h⟩=>f i (r.of_hdr s) b l c h⟩
   ·have E:σ'.H.hdr j=σ.H.hdr j:=by simp only[St.H,m.old j q]
    rw[m.io j q];exact h.inj i j (r.of_hdr s) (C.of_hdr E) p b l
include hE in
theorem vx(F:∀p,p∈E.gl->p.2≠[]){S:PSpec}{f:FuncId}{fn:Dq}{body:Code}(I:P.funcs[f]?=AC fn)(R:fn.body=AC body)(J:S.ts.length<=fn.ntmps)(h:∀x,S.pre x->∀fz0,∃ora,At P E fn.ntmps [] (QP P fn S.rs (S.g x) fz0) (λ_ _=>Uz) (λ_ b=>∃c,fz0 b=AC c) (.run body []) (KQ E S x ora) (AD1 E S x ora)):Kh P E.gl f S:=by
 intro fz w args x B q K r;obtain⟨ora,hat⟩:=h x r fz;obtain⟨us,V,W,X⟩:=Ps S.ts x args.toList K;rcases hm:Gm (IK S.ts x) ((Bj E).pop ora)with⟨vs,σ1⟩
 obtain⟨ι',j,Y,Z⟩:=GQ (IK S.ts x) us (λid=>id<E.G) (EX w) ((Bj E).pop ora) σ1 vs hm V W;have L:=X vs _ ι' Y Z;have s:(Ry S.ts vs).length=S.ts.length:=by
  have:∀(ts:AE Ty) (vs:AE AJ),(Ry ts vs).length=ts.length:=λts=>by
   induction ts with
   |nil=>intro vs;rfl
   |cons t ts ih=>intro vs;simp[Ry,ih]
  exact this _ _
 have z:=YT hE ora;have e1:KQ E S x ora=F1 0 (Ry S.ts vs) .lf:=by simp only[KQ,vw,hm]
 have e2:AD1 E S x ora=σ1:=by simp only[AD1,vw,hm]
 rw[e1,e2]at hat;have M:AR (λi=>i<E.G\/((Bj E).pop ora).rng σ1 i) ι' (Ry S.ts vs).toArray args:=by
  have:=LR.AR L;simpa using this
 have hall:=j.hall (P:=P) (QJ F ora q) (λid h=>h) B λid T b R c hc=>by
  obtain⟨y,C,k⟩:=T;obtain⟨p,n,rfl, -,rfl⟩:=Iy ora C;cases k
 have N:Hl P E fn.ntmps [] w (λ_=>Uz) (λb=>∃c,fz b=AC c) (F1 0 (Ry S.ts vs) .lf) σ1 { tmps:=args++Array.replicate (fn.ntmps-args.size) undef,defers:=[]} w:=by
  refine⟨λi=>i<E.G\/((Bj E).pop ora).rng σ1 i,ι',j.wf z,?_,?_,MP M (by rw[s];exact J),hall,rfl,Ak _,rfl,rfl,λ_ _ _=>rfl,λid hw b U=> ?_,λid T b D=> ?_,λp hp=>by cases hp⟩
  ·intro g hg;have:ι' g=EX w g:=j.io g λm=>by simp only[St.rng,St.pop,Bj]at m;omega
   rw[this];exact⟨.inl hg,rfl,rfl,Rp q⟩
  ·intro id hid;have:=j.le;rcases hid with hid|hid
   ·simp only[St.pop,Bj]at this;omega
   ·exact hid.2
  ·by_cases m:((Bj E).pop ora).rng σ1 id
   ·obtain⟨t,xs,u,g1,g2,g3⟩:=j.new id m;rw[g3]at U;cases U.1
   ·obtain⟨y,C,k⟩:=hw;simp only[St.H,j.old id m]at C;obtain⟨p,_,_,_,rfl⟩:=Iy ora (show((Bj E).pop ora).H.hdr id=AC y from C);cases k
  ·by_cases m:((Bj E).pop ora).rng σ1 id
   ·obtain⟨t,xs,u,g1,g2,g3⟩:=j.new id m;rw[g3]at D;exact .inr (.inr D)
   ·rw[j.io id m]at D;exact Aq D (Kl _ _ _ _ b)
 have O:=hat w _ w N;refine calls_of_wp I R (wp_mono O ?_);intro e a w' o;have up:∀v,(DK fz w->∃vs d,O6 v=.returned (Er vs)/\(∀b c,fz b=AC c->d b=AC c)/\DK d w'/\(∀b c,d b=AC c->fz b=AC c\/w.heap.size<=b)/\CN d S.rs (S.g x) vs/\DU w w')->
   ∃vs d,O6 v=.returned (Er vs)/\(∀b c,fz b=AC c->d b=AC c)/\DK d w'/\(∀b c,d b=AC c->fz b=AC c\/w.heap.size<=b)/\CN d S.rs (S.g x) vs/\DU w w':=λv h=>h B
 cases e with
 |normal=>obtain⟨n,v,Q,A⟩:=o;exact⟨n,v,Q,up v A⟩
 |ret=>obtain⟨n,v,Q,A⟩:=o;exact⟨n,v,Q,up v A⟩
 |panic ch=>obtain⟨n,A⟩:=o;exact⟨n,A B⟩
 |outgrown=>exact o B
 |exit id=>exact o
 |goto l=>exact o
end
end Go.Eng
end
end
end
section
noncomputable section
noncomputable section
namespace Go.Eng
open Go
def GW(fn:Dq):Code:=match fn.body with|some c=>c|none=>.skip
end Go.Eng
end
end
end
section
noncomputable section
noncomputable section
namespace Go.Eng
open Go
inductive Sh1 where
 |any
 |sym
 |dat (t:Ty)
 |vec (t:Ty) (elem:TypeId)
 |same (k:AB)
 |samep (k:AB)
inductive Sh where
 |one (s:Sh1)
 |obj (cells:AE Sh1)
 |agg (cells:AE Sh1)
 |sli (cells:AE Sh1)
 |nest (i:AB) (sub cells:AE Sh1)
inductive Src where
 |id (k:AB)
 |nil (t:Ty)
structure Can where
 srcs:AE Src
 objs:AE AO
def syB:AJ->AJ
 | .bool b=>.bool b
 |u=>sy u
theorem AD2{D:AB->Prop}{ι:AB->Reg}{v:AJ}(h:Mi v=AD):VR D ι (syB v) v:=by
 cases v<;>first|exact .bool _|exact .sym _ h|cases h
def FF:AB->AE Src->AH
 |_,[]=>AK
 |k,.id j::r=>Af k j||FF k r
 |k,_::r=>FF k r
def cv1(G:AB)(σ:St)(sh:Sh1)(v:AJ)(C:Can):AP (AJ×Can):=
 match sh with
 | .any=>bif Au 8 v then AC (v,C)else match DH v with
   |some u=>AC (syB u,C)
   |none=>AF
 | .sym=>match DH v with
   |some u=>AC (syB u,C)
   |none=>AF
 | .dat t=>match v with
   | .slice AF 0 0=>AC (dt (G+C.objs.length),⟨C.srcs++[.nil t],C.objs++[.dat t []]⟩)
   | .tuple a=>match a.toList with
     |[.chan (AC 2),.pointer (AC ⟨id,0,AF⟩)]=>match σ.heap.get id with
      |some (.dat b c)=>if h:b=t then AC (dt (G+C.objs.length),⟨C.srcs++[.id id],C.objs++[.dat t (h▸c)]⟩)else AF
      |_=>AF
     |_=>AF
   |_=>AF
 | .vec t e=>match v with
   | .slice AF 0 0=>AC (dt (G+C.objs.length),⟨C.srcs++[.nil t],C.objs++[.vec t [] e]⟩)
   | .tuple a=>match a.toList with
     |[.chan (AC 2),.pointer (AC ⟨id,0,AF⟩)]=>match σ.heap.get id with
      |some (.vec b c d)=>if h:b=t then(bif Af d e&& !FF id C.srcs then AC (dt (G+C.objs.length),⟨C.srcs++[.id id],C.objs++[.vec t (h▸c) e]⟩)else AF)else AF
      |_=>AF
     |_=>AF
   |_=>AF
 | .same k=>match v with
   | .tuple a=>match a.toList with
     |[.chan (AC 2),.pointer (AC ⟨id,0,AF⟩)]=>match C.srcs[k]? with
      |some (.id j)=>bif Af j id then AC (dt (G+k),C)else AF
      |_=>AF
     |_=>AF
   |_=>AF
 | .samep k=>match v with
   | .pointer (AC ⟨id,0,AF⟩)=>match C.srcs[k]? with
     |some (.id j)=>bif Af j id then AC (.pointer (AC ⟨G+k,0,AF⟩),C)else AF
     |_=>AF
   |_=>AF
def vy(G:AB)(σ:St):AE Sh1->AE AJ->Can->AP (AE AJ×Can)
 |[],[],C=>AC ([],C)
 |sh::a,v::vs,C=>match cv1 G σ sh v C with
  |some (v',C1)=>match vy G σ a vs C1 with
   |some (vs',C2)=>AC (v'::vs',C2)
   |none=>AF
  |none=>AF
 |_,_,_=>AF
def cv0(G:AB)(σ:St)(sh:Sh)(v:AJ)(C:Can):AP (AJ×Can):=
 match sh with
 | .one s=>cv1 G σ s v C
 | .obj a=>match v with
   | .pointer (AC ⟨id,0,AF⟩)=>match σ.heap.get id with
     |some (.row d e AK)=>match vy G σ a d C with
      |some (b,C')=>bif !FF id C'.srcs then AC (.pointer (AC ⟨G+C'.objs.length,0,AF⟩),⟨C'.srcs++[.id id],C'.objs++[.row b e AK]⟩)else AF
      |none=>AF
     |_=>AF
   |_=>AF
 | .agg a=>match v with
   | .agg d=>match vy G σ a d.toList C with
     |some (b,C')=>AC (.agg b.toArray,C')
     |none=>AF
   |_=>AF
 | .sli a=>match v with
   | .slice (AC ⟨id,0,AF⟩) l c=>match σ.heap.get id with
     |some (.row d e AK)=>match vy G σ a d C with
      |some (b,C')=>bif !FF id C'.srcs then AC (.slice (AC ⟨G+C'.objs.length,0,AF⟩) l c,⟨C'.srcs++[.id id],C'.objs++[.row b e AK]⟩)else AF
      |none=>AF
     |_=>AF
   |_=>AF
 | .nest _ _ _=>AF
def AD3(σ:St)(v:AJ)(i:AB):AP AJ:=match v with
 | .pointer (AC ⟨id,0,AF⟩)=>match σ.heap.get id with
   |some (.row a _ AK)=>a[i]?
   |_=>AF
 |_=>AF
def cv(G:AB)(σ:St)(sh:Sh)(v:AJ)(C:Can):AP (AJ×Can):=
 match sh with
 | .nest i sub cells=>match AD3 σ v i with
   |some u=>match cv0 G σ (.obj sub) u C with
    |some (_,C1)=>cv0 G σ (.obj cells) v C1
    |none=>AF
   |none=>AF
 |sh=>cv0 G σ sh v C
def Oy(G:AB)(σ:St)(s:Tr AJ):AE (AB×Sh)->Can->AP (AE (AB×AJ)×Can)
 |[],C=>AC ([],C)
 |(t,sh)::r,C=>match s.get t with
  |some v=>match cv G σ sh v C with
   |some (v',C1)=>match Oy G σ s r C1 with
    |some (l,C2)=>AC ((t,v')::l,C2)
    |none=>AF
   |none=>AF
  |none=>AF
def vz:AE (AB×AJ)->Tr AJ
 |[]=>.lf
 |(t,v)::r=>(vz r).set t (AC v)
def mkH:AB->AE AO->Tr AO->Tr AO
 |_,[],h=>h
 |k,o::os,h=>mkH (k+1) os (h.set k (AC o))
def Rf(E:Env)(objs:AE AO)(ora:AE AB):St:=⟨mkH E.G objs (IC E.gl),E.G+objs.length,[],ora⟩
def UT(σ:St):AE (AB×AE AJ)->AH
 |[]=>AD
 |p::a=>match σ.heap.get p.1 with
  |some (.row b 0 AD)=>bif cO b p.2 then UT σ a else AK
  |_=>AK
def pinned(G:AB)(srcs:AE Src):AE AB->AH
 |[]=>AD
 |k::a=>match srcs[k-G]? with
  |some (.id j)=>bif Af j k&&B8 G k then pinned G srcs a else AK
  |_=>AK
def qd(E:Env)(a:AE AB)(b:AE (AB×Sh))(s:Tr AJ)(σ:St):AP (AE (AB×AJ)×AE AO):=
 match Oy E.G σ s b ⟨[],[]⟩with
 |some (l,C)=>bif UT σ E.gl&&pinned E.G C.srcs a then AC (l,C.objs)else AF
 |none=>AF
section
variable {P:Ao} {E:Env} {D:AB->Prop} {ι:AB->Reg} {σ:St} {w:AN} {G:AB}
def Kb(ι:AB->Reg):Src->Reg
 | .id k=>ι k
 | .nil t=>⟨0,0,0,t.sz,AK,λ_=>AF,.slice AF 0 0⟩
def DZ(G:AB)(ι:AB->Reg)(S:AE Src)(c:AB):Reg:=
 if c<G then ι c else match S[c-G]? with
  |some s=>Kb ι s
  |none=>rg 0 0 0 0
def WU(P:Ao)(D:AB->Prop)(ι0:AB->Reg)(c:AB)(w:AN)(o:AO):Prop:=
 BI P ι0 c w o.hd/\∀k v,Fs (AC o) k=AC v->Cl D ι0 c w k v
structure SrcOK(σ:St)(S:AE Src):Prop where
 lv:∀(i k:AB),S[i]?=AC (Src.id k)->Lv σ.H k
 nro:∀(i k:AB),S[i]?=AC (.id k)->∀cs,σ.heap.get k≠AC (.row cs 0 AD)
 one:∀(i j k:AB),S[i]?=AC (Src.id k)->S[j]?=AC (Src.id k)->i≠j->∃t xs,σ.heap.get k=AC (.dat t xs)
theorem Kc{k:AB}:∀{S:AE Src},FF k S=AK->∀i:AB,S[i]?≠AC (Src.id k)
 |[],_,i=>by simp
 |Src.id j::r,h,i=>by
  simp only[FF,Bool.or_eq_false_iff]at h;rcases i with _|i
  ·simp only[EM,ne_eq,BJ,Src.id.injEq];intro e;subst e;rw[Ei rfl]at h;cases h.1
  ·simpa using Kc h.2 i
 |Src.nil t::r,h,i=>by
  simp only[FF]at h;rcases i with _|i
  ·simp
  ·simpa using Kc h i
theorem SrcOK.add_dat{S:AE Src}(h:SrcOK σ S){k:AB}{t:Ty}{l:AE t.Den}(d:σ.heap.get k=AC (.dat t l)):SrcOK σ (S++[Src.id k]) where
 lv:=λi j a=>by
  rcases Cf i S.length with b|b
  ·rw[EE b]at a;exact h.lv i j a
  ·rw[Fw b]at a;have:i-S.length=0:=by
    rcases Nat.eq_zero_or_pos (i-S.length)with h|h
    ·exact h
    ·rw[DA (by simp;omega)]at a;cases a
   rw[this]at a;simp only[EM,BJ,Src.id.injEq]at a;subst a;exact St.lv_of d
 nro:=λi j a m f=>by
  rcases Cf i S.length with b|b
  ·rw[EE b]at a;exact h.nro i j a m f
  ·rw[Fw b]at a;rcases hx:i-S.length with _|n
   ·rw[hx]at a;simp only[EM,BJ,Src.id.injEq]at a;subst a;rw[d]at f;cases f
   ·rw[hx]at a;simp at a
 one:=λi j c a o g=>by
  by_cases e:c=k
  ·subst e;exact⟨t,l,d⟩
  ·have low:∀i,(S++[Src.id k])[i]?=AC (Src.id c)->S[i]?=AC (Src.id c):=λi a=>by
    rcases Cf i S.length with b|b
    ·rwa[EE b]at a
    ·rw[Fw b]at a;rcases hx:i-S.length with _|n
     ·rw[hx]at a;simp only[EM,BJ,Src.id.injEq]at a;exact Aq a.symm e
     ·rw[hx]at a;simp at a
   exact h.one i j c (low i a) (low j o) g
theorem SrcOK.add_own{S:AE Src}(h:SrcOK σ S){k:AB}(c:Wr σ.H k)(p:FF k S=AK):SrcOK σ (S++[Src.id k]):=by
 have e:=Kc p;have low:∀i a,(S++[Src.id k])[i]?=AC (Src.id a)->S[i]?=AC (Src.id a)\/(i=S.length/\a=k):=λi a b=>by
  rcases Cf i S.length with c|c
  ·rw[EE c]at b;exact .inl b
  ·rw[Fw c]at b;rcases hx:i-S.length with _|n
   ·rw[hx]at b;simp only[EM,BJ,Src.id.injEq]at b;exact .inr ⟨by omega,b.symm⟩
   ·rw[hx]at b;simp at b
 refine⟨λi a b=> ?_,λi a b q l=> ?_,λi j a b m f=> ?_⟩
 ·rcases low i a b with d|⟨_,rfl⟩
  ·exact h.lv i a d
  ·exact c.lv
 ·rcases low i a b with d|⟨_,rfl⟩
  ·exact h.nro i a d q l
  ·obtain⟨y,o,r⟩:=c;rw[St.hdr_of l]at o;cases o;cases r
 ·rcases low i a b with d|⟨t,rfl⟩
  ·rcases low j a m with g|⟨s,rfl⟩
   ·exact h.one i j a d g f
   ·exact Aq d (e i)
  ·rcases low j _ m with g|⟨s,_⟩
   ·exact Aq g (e j)
   ·omega
theorem SrcOK.add_nil{S:AE Src}(h:SrcOK σ S)(t:Ty):SrcOK σ (S++[Src.nil t]):=by
 have low:∀i a,(S++[Src.nil t])[i]?=AC (Src.id a)->S[i]?=AC (Src.id a):=λi a b=>by
  rcases Cf i S.length with c|c
  ·rwa[EE c]at b
  ·rw[Fw c]at b;rcases hx:i-S.length with _|n
   ·rw[hx]at b;simp at b
   ·rw[hx]at b;simp at b
 exact⟨λi a b=>h.lv i a (low i a b),λi a b=>h.nro i a (low i a b),λi j a b d=>h.one i j a (low i a b) (low j a d)⟩
structure CanOK(P:Ao)(G:AB)(σ:St)(ι:AB->Reg)(w:AN)(C:Can):Prop where
 len:C.srcs.length=C.objs.length
 src:SrcOK σ C.srcs
 wr:∀(i:AB) o k,C.objs[i]?=AC o->C.srcs[i]?=AC (Src.id k)->o.hd.wr->Wr σ.H k
 obj:∀(i:AB) o S,C.objs[i]?=AC o->WU P (λc=>c<G+C.objs.length) (DZ G ι (C.srcs++S)) (G+i) w o
theorem HK{S:AE Src}{T:AE Src}{s:Src}:DZ G ι (S++s::T) (G+S.length)=Kb ι s:=by
 unfold DZ;rw[AY (by omega),jB,Fw (Ak _),Nat.sub_self];rfl
theorem BI.at{ι ι0:AB->Reg}{k c:AB}{x:Hd}(h:BI P ι k w x)(e:ι0 c=ι k):BI P ι0 c w x:=by
 cases x<;>simp only[BI,e]at h⊢ <;>exact h
theorem WU.more{ι0:AB->Reg}{D D':AB->Prop}{c:AB}{o:AO}(h:WU P D ι0 c w o)(a:∀i,D i->D' i):WU P D' ι0 c w o:=
 ⟨h.1,λk v b=>(h.2 k v b).more a⟩
theorem CanOK.add{C:Can}{s:Src}{o:AO}(h:CanOK P G σ ι w C)(j:SrcOK σ (C.srcs++[s]))(l:∀k,s=.id k->o.hd.wr->Wr σ.H k)(m:∀ι0,ι0 (G+C.objs.length)=Kb ι s->(∀S,ι0=DZ G ι (C.srcs++s::S)->WU P (λc=>c<G+(C.objs.length+1)) ι0 (G+C.objs.length) w o)):CanOK P G σ ι w ⟨C.srcs++[s],C.objs++[o]⟩ where
 len:=by simp[h.len]
 src:=j
 wr:=λi f k a d e=>by
  rcases Cf i C.objs.length with b|b
  ·rw[EE b]at a;rw[EE (by rw[h.len];exact b)]at d;exact h.wr i f k a d e
  ·rw[Fw b]at a;rw[Fw (by rw[h.len];exact b),h.len]at d;rcases hx:i-C.objs.length with _|n
   ·rw[hx]at a d;simp only[EM,BJ]at a d;subst a;exact l k d e
   ·rw[hx]at a;simp at a
 obj:=λi f S a=>by
  simp only[C9,Gq,List.length_append,B7,E8,Nat.zero_add];rcases Cf i C.objs.length with b|b
  ·rw[EE b]at a;exact(h.obj i f (s::S) a).more λc g=>by have g:c<G+C.objs.length:=g;omega
  ·rw[Fw b]at a;rcases hx:i-C.objs.length with _|n
   ·rw[hx]at a;simp only[EM,BJ]at a;subst a;obtain rfl:i=C.objs.length:=by omega
    refine m _ ?_ S rfl;have:=HK (G:=G) (ι:=ι) (S:=C.srcs) (T:=S) (s:=s);rw[h.len]at this;exact this
   ·rw[hx]at a;simp at a
def la(C C':Can):Prop:=∃T,C'.srcs=C.srcs++T
theorem la.refl(C:Can):la C C:=⟨[],by simp⟩
theorem la.trans{A B C:Can}:la A B->la B C->la A C:=λ⟨T,h⟩ ⟨U,a⟩=>⟨T++U,by rw[a,h,C9]⟩
def VC(D:AB->Prop)(ι:AB->Reg)(G:AB)(C:Can)(v v0:AJ):Prop:=
 ∀v',VR D ι v v'->∀S,VR (λc=>c<G+C.objs.length) (DZ G ι (C.srcs++S)) v0 v'
theorem VC.more{C C':Can}{v v0:AJ}(h:VC D ι G C v v0)(f:CanOK P G σ ι w C)(a:CanOK P G σ ι w C')(e:la C C'):VC D ι G C' v v0:=by
 obtain⟨T,b⟩:=e;intro v' g S;have:=h v' g (T++S);rw[b,C9];refine this.mono (λc d=> ?_) λ_ _=>rfl
 have i:C.objs.length<=C'.objs.length:=by
  rw[<-f.len,<-a.len,b];simp
 have d:c<G+C.objs.length:=d;show c<G+C'.objs.length;omega
theorem qe(hall:HAll P D ι σ.H w){sh:Sh1}{v v0:AJ}{C C':Can}(h:cv1 G σ sh v C=AC (v0,C'))(d:CanOK P G σ ι w C):CanOK P G σ ι w C'/\la C C'/\VC D ι G C' v v0:=by
 have m:∀u,DH v=AC u->VC D ι G C v (syB u):=λu o v' f S=>by
  obtain⟨rfl,h⟩:=Ay o f;exact AD2 h
 unfold cv1 at h
 split at h
 ·cases A:Au 8 v
  ·rw[A,cond_false]at h
   split at h
   ·rename_i u o;cases h;exact⟨d,.refl _,m u o⟩
   ·cases h
  ·rw[A]at h;cases h;refine⟨d,.refl _,λv' f S=> ?_⟩;rw[GT 8 _ _ A f];exact Bk 8 _ A
 ·split at h
  ·rename_i u o;cases h;exact⟨d,.refl _,m u o⟩
  ·cases h
 ·rename_i t
  split at h
  ·cases h;refine⟨d.add (d.src.add_nil t) (λk e=>by cases e) λι0 e S _=>⟨?_,λk v p=>by cases p⟩,⟨_,rfl⟩,λv' f S=> ?_⟩
   ·exact BI.at (ι:=λ_=>Kb ι (.nil t)) (k:=0) ⟨.inl ⟨⟨_,_,rfl⟩,rfl⟩,rfl,rfl,λb c h=>by cases h⟩ e
   ·cases f;have i:=HK (G:=G) (ι:=ι) (S:=C.srcs) (T:=S) (s:=.nil t);rw[d.len]at i;simp only[C9,Gq];exact .dat _ _ _ _ (by simp) (by rw[i];rfl)
  ·rename_i y
   split at h
   ·rename_i id z
    split at h
    ·rename_i J K x
     split at h
     ·rename_i B;subst B;cases h;refine⟨d.add (d.src.add_dat x) (λk e I=>by cases I) λι0 e S _=>⟨(hall.hd id _ (St.hdr_of x)).at e,λk v p=>by cases p⟩,⟨_,rfl⟩,λv' f S=> ?_⟩;rw[CV z]at f;obtain⟨a,l,c,rfl,E,n⟩:=FQ f;have i:=HK (G:=G) (ι:=ι) (S:=C.srcs) (T:=S) (s:=.id id)
      rw[d.len]at i;simp only[C9,Gq];exact .dat _ _ _ _ (by simp) (by rw[i];exact n)
     ·cases h
    ·cases h
   ·cases h
  ·cases h
 ·rename_i t e
  split at h
  ·cases h;refine⟨d.add (d.src.add_nil t) (λk e=>by cases e) λι0 e S _=>⟨?_,λk v p=>by cases p⟩,⟨_,rfl⟩,λv' f S=> ?_⟩
   ·exact BI.at (ι:=λ_=>Kb ι (.nil t)) (k:=0) ⟨rfl,λb c h=>(by cases h),.inl ⟨rfl,rfl,AF,rfl⟩⟩ e
   ·cases f;have i:=HK (G:=G) (ι:=ι) (S:=C.srcs) (T:=S) (s:=.nil t);rw[d.len]at i;simp only[C9,Gq];exact .dat _ _ _ _ (by simp) (by rw[i];rfl)
  ·rename_i y
   split at h
   ·rename_i id z
    split at h
    ·rename_i J K L x
     split at h
     ·rename_i B;subst B;cases g:(Af L e&& !FF id C.srcs)
      ·rw[g]at h;cases h
      rw[g,Ag]at h;rw[A0]at g;have F:=Br g.1;subst F;have o:FF id C.srcs=false:=by simpa using g.2
      cases h;refine⟨d.add (d.src.add_own ⟨_,St.hdr_of x,A3⟩ o) (λk e I=> ?_) λι0 e S _=>⟨(hall.hd id _ (St.hdr_of x)).at e,λk v p=>by cases p⟩,⟨_,rfl⟩,λv' f S=> ?_⟩
      ·cases e;exact⟨_,St.hdr_of x,A3⟩
      rw[CV z]at f;obtain⟨a,l,c,rfl,E,n⟩:=FQ f;have i:=HK (G:=G) (ι:=ι) (S:=C.srcs) (T:=S) (s:=.id id);rw[d.len]at i;simp only[C9,Gq];exact .dat _ _ _ _ (by simp) (by rw[i];exact n)
     ·cases h
    ·cases h
   ·cases h
  ·cases h
 ·rename_i k
  split at h
  ·rename_i y
   split at h
   ·rename_i id z
    split at h
    ·rename_i j q;cases g:Af j id
     ·rw[g]at h;cases h
     rw[g,Ag]at h;have g:=Br g;subst g;cases h;refine⟨d,.refl _,λv' f S=> ?_⟩;rw[CV z]at f;obtain⟨a,l,c,rfl,E,n⟩:=FQ f;have r:k<C.srcs.length:=by
      rcases Cf k C.srcs.length with h|h
      ·exact h
      ·rw[DA h]at q;cases q
     have i:DZ G ι (C.srcs++S) (G+k)=ι j:=by
      unfold DZ;rw[AY (by omega),jB,EE r,q];rfl
     exact .dat _ _ _ _ (by rw[<-d.len];omega) (by rw[i];exact n)
    ·cases h
   ·cases h
  ·cases h
 ·rename_i k
  split at h
  ·rename_i id
   split at h
   ·rename_i j q;cases g:Af j id
    ·rw[g]at h;cases h
    rw[g,Ag]at h;have g:=Br g;subst g;cases h;refine⟨d,.refl _,λv' f S=> ?_⟩;obtain⟨rfl,E⟩:=f.ptr_inv;have r:k<C.srcs.length:=by
     rcases Cf k C.srcs.length with h|h
     ·exact h
     ·rw[DA h]at q;cases q
    have i:DZ G ι (C.srcs++S) (G+k)=ι j:=by
     unfold DZ;rw[AY (by omega),jB,EE r,q];rfl
    have:=VR.ptr (D:=λc=>c<G+C.objs.length) (ι:=DZ G ι (C.srcs++S)) (G+k) 0 (by rw[<-d.len];omega);rw[i]at this;exact this
   ·cases h
  ·cases h
theorem YU(hall:HAll P D ι σ.H w):∀{c:AE Sh1} {vs a:AE AJ} {C C':Can},vy G σ c vs C=AC (a,C')->CanOK P G σ ι w C->CanOK P G σ ι w C'/\la C C'/\a.length=vs.length/\∀(k:AB) v v0,vs[k]?=AC v->a[k]?=AC v0->VC D ι G C' v v0
 |[],[],a,C,C',h,d=>by
  simp only[vy,BJ,Ct]at h;obtain⟨rfl,rfl⟩:=h;exact⟨d,.refl _,rfl,λk v v0 j=>by simp at j⟩
 |[],_::_,a,C,C',h,d=>by simp[vy]at h
 |_::_,[],a,C,C',h,d=>by simp[vy]at h
 |sh::c,v::vs,a,C,C',h,d=>by
  simp only[vy]at h
  split at h
  ·rename_i v0 C1 l
   split at h
   ·rename_i m C2 n;cases h;obtain⟨f,a2,a3⟩:=qe hall l d;obtain⟨g,i,o,p⟩:=YU hall n f;refine⟨g,a2.trans i,by simp[o],λk u q e b=> ?_⟩;rcases k with _|k
    ·simp only[EM,BJ]at e b;subst e b;exact a3.more f g i
    ·exact p k u q (by simpa using e) (by simpa using b)
   ·cases h
  ·cases h
theorem ec(hall:HAll P D ι σ.H w){sh:Sh}{v v0:AJ}{C C':Can}(h:cv0 G σ sh v C=AC (v0,C'))(t:CanOK P G σ ι w C):CanOK P G σ ι w C'/\la C C'/\VC D ι G C' v v0:=by
 unfold cv0 at h
 split at h
 ·exact qe hall h t
 ·rename_i p
  split at h
  ·rename_i id
   split at h
   ·rename_i g e f
    split at h
    ·rename_i a C1 d;cases n:FF id C1.srcs
     case true=>rw[n]at h;cases h
     rw[n]at h;cases h;obtain⟨j,a2,a3,a4⟩:=YU hall d t;have hd:=hall.hd id _ (St.hdr_of f);refine⟨j.add (j.src.add_own ⟨_,St.hdr_of f,rfl⟩ n) (λk e F=> ?_) λι0 e S z=>⟨?_,λk v m=> ?_⟩,a2.trans ⟨_,rfl⟩,λv' q S=> ?_⟩
     ·cases e;exact⟨_,St.hdr_of f,rfl⟩
     ·have:=hd.at e;simp only[AO.hd]at this⊢;rw[a3];exact this
     ·simp only[Fs]at m;have b:k<g.length:=by
       rcases Cf k a.length with h|h
       ·omega
       ·rw[DA h]at m;cases m
      obtain⟨A,v',B,E⟩:=hall.ce id k g[k] (St.lv_of f) (by rw[St.cell_of f];exact B4 b);refine⟨by rw[e];exact A,v',by rw[e];exact B,?_⟩;have:=a4 k g[k] v (B4 b) m v' E (.id id::S);rw[<-z]at this;exact this.mono (λc d=>by have d:c<G+C1.objs.length:=d;show c<G+(C1.objs.length+1);omega) λ_ _=>rfl
     ·obtain⟨rfl,O⟩:=q.ptr_inv;have o:=HK (G:=G) (ι:=ι) (S:=C1.srcs) (T:=S) (s:=.id id);rw[j.len]at o;simp only[C9,Gq];have:=VR.ptr (D:=λc=>c<G+(C1.objs++[AO.row a e AK]).length) (ι:=DZ G ι (C1.srcs++Src.id id::S)) (G+C1.objs.length) 0 (by simp);rw[o]at this
      exact this
    ·cases h
   ·cases h
  ·cases h
 ·rename_i p
  split at h
  ·rename_i g
   split at h
   ·rename_i a C1 d;cases h;obtain⟨j,a2,a3,a4⟩:=YU hall d t;refine⟨j,a2,λv' q S=> ?_⟩;cases q with
    |agg _ bs I J=>
     refine .agg _ _ (by simp[a3,I]) λi x y u K=> ?_
     simp only[ANI]at u;have b:i<g.toList.length:=by
      rcases Cf i a.length with h|h
      ·omega
      ·rw[DA h]at u;cases u
     exact a4 i g.toList[i] x (B4 b) u y (J i _ y (by rw[<-Bf];exact B4 b) K) S
   ·cases h
  ·cases h
 ·rename_i p
  split at h
  ·rename_i id l c
   split at h
   ·rename_i g e f
    split at h
    ·rename_i a C1 d;cases n:FF id C1.srcs
     case true=>rw[n]at h;cases h
     rw[n]at h;cases h;obtain⟨j,a2,a3,a4⟩:=YU hall d t;have hd:=hall.hd id _ (St.hdr_of f);refine⟨j.add (j.src.add_own ⟨_,St.hdr_of f,rfl⟩ n) (λk e F=> ?_) λι0 e S z=>⟨?_,λk v m=> ?_⟩,a2.trans ⟨_,rfl⟩,λv' q S=> ?_⟩
     ·cases e;exact⟨_,St.hdr_of f,rfl⟩
     ·have:=hd.at e;simp only[AO.hd]at this⊢;rw[a3];exact this
     ·simp only[Fs]at m;have b:k<g.length:=by
       rcases Cf k a.length with h|h
       ·omega
       ·rw[DA h]at m;cases m
      obtain⟨A,v',B,E⟩:=hall.ce id k g[k] (St.lv_of f) (by rw[St.cell_of f];exact B4 b);refine⟨by rw[e];exact A,v',by rw[e];exact B,?_⟩;have:=a4 k g[k] v (B4 b) m v' E (.id id::S);rw[<-z]at this;exact this.mono (λc d=>by have d:c<G+C1.objs.length:=d;show c<G+(C1.objs.length+1);omega) λ_ _=>rfl
     ·have o:=HK (G:=G) (ι:=ι) (S:=C1.srcs) (T:=S) (s:=.id id);rw[j.len]at o;simp only[C9,Gq];have r:G+C1.objs.length<G+(C1.objs++[AO.row a e AK]).length:=by simp
      cases q with
      |slK _ _ _ _ hd d=>
       have:=VR.slK (D:=λc=>c<G+(C1.objs++[AO.row a e AK]).length) (ι:=DZ G ι (C1.srcs++Src.id id::S)) (G+C1.objs.length) 0 l c r d;rw[o]at this;exact this
      |slU _ _ _ L hd M N=>
       have:=VR.slU (D:=λc=>c<G+(C1.objs++[AO.row a e AK]).length) (ι:=DZ G ι (C1.srcs++Src.id id::S)) (G+C1.objs.length) 0 l L r M (by rw[o];exact N);rw[o]at this;exact this
    ·cases h
   ·cases h
  ·cases h
 ·cases h
theorem AIH(hall:HAll P D ι σ.H w){sh:Sh}{v v0:AJ}{C C':Can}(h:cv G σ sh v C=AC (v0,C'))(a:CanOK P G σ ι w C):CanOK P G σ ι w C'/\la C C'/\VC D ι G C' v v0:=by
 unfold cv at h
 split at h
 ·split at h
  ·split at h
   ·rename_i u _ g C1 b;obtain⟨c,a2, -⟩:=ec hall b a;obtain⟨d,e,f⟩:=ec hall h c;exact⟨d,a2.trans e,f⟩
   ·cases h
  ·cases h
 ·exact ec hall h a
theorem UU(hall:HAll P D ι σ.H w){s:Tr AJ}:∀{l:AE (AB×Sh)} {r:AE (AB×AJ)} {C C':Can},Oy G σ s l C=AC (r,C')->CanOK P G σ ι w C->CanOK P G σ ι w C'/\la C C'/\∀t v0,(t,v0)∈r->∃v,s.get t=AC v/\VC D ι G C' v v0
 |[],r,C,C',h,a=>by
  simp only[Oy,BJ,Ct]at h;obtain⟨rfl,rfl⟩:=h;exact⟨a,.refl _,λt v0 hm=>by cases hm⟩
 |(t,sh)::l,r,C,C',h,a=>by
  simp only[Oy]at h
  split at h
  ·rename_i v f
   split at h
   ·rename_i v' C1 g
    split at h
    ·rename_i m C2 i;cases h;obtain⟨b,a2,a3⟩:=AIH hall g a;obtain⟨c,d,j⟩:=UU hall i b;refine⟨c,a2.trans d,λk v0 hm=> ?_⟩;rcases Dv.1 hm with e|hm
     ·cases e;exact⟨v,f,a3.more b c d⟩
     ·exact j k v0 hm
    ·cases h
   ·cases h
  ·cases h
theorem iD:∀{l:AE (AB×AJ)} {t:AB} {v:AJ},(vz l).get t=AC v->(t,v)∈l
 |[],t,v,h=>by rw[vz,Tr.get_lf]at h;cases h
 |(a,v')::l,t,v,h=>by
  rw[vz,Tr.set_get]at h;by_cases e:t=a
  ·rw[Ae e]at h;cases h;subst e;simp
  ·rw[AY e]at h;exact List.mem_cons_of_mem _ (iD h)
theorem YV:∀(os:AE AO) (k:AB) (h:Tr AO) (j:AB),(mkH k os h).get j=if k<=j/\j<k+os.length then os[j-k]? else h.get j
 |[],k,h,j=>by rw[mkH,AY (by simp only[E8];omega)]
 |o::os,k,h,j=>by
  rw[mkH,YV os (k+1),Tr.set_get];simp only[B7];by_cases e:j=k
  ·subst e;rw[AY (by omega),Ae rfl,Ae (by omega)];simp
  ·by_cases a:k+1<=j/\j<k+1+os.length
   ·rw[Ae a,Ae (by omega),show j-k=(j-(k+1))+1 by omega];simp
   ·rw[AY a,AY e,AY (by omega)]
theorem Q9:∀{gl:AE (AB×AE AJ)},UT σ gl=AD->∀p,p∈gl->σ.heap.get p.1=AC (.row p.2 0 AD)
 |[],_,p,a=>by cases a
 |q::e,h,p,a=>by
  simp only[UT]at h
  split at h
  ·rename_i c d;cases b:cO c q.2
   ·rw[b]at h;cases h
   ·rw[b,Ag]at h;rcases Dv.1 a with rfl|a
    ·rw[d,XH b]
    ·exact Q9 h p a
  ·cases h
theorem RA{G:AB}{srcs:AE Src}:∀{b:AE AB},pinned G srcs b=AD->∀k,k∈b->G<=k/\srcs[k-G]?=AC (Src.id k)
 |[],_,_,h=>by cases h
 |k::b,h,j,c=>by
  simp only[pinned]at h
  split at h
  ·rename_i i d;cases a:(Af i k&&B8 G k)
   ·rw[a]at h;cases h
   rw[a,Ag]at h;rw[A0]at a;have e:=Br a.1;subst e;rcases Dv.1 c with rfl|c
   ·exact⟨GJ a.2,d⟩
   ·exact RA h j c
  ·cases h
theorem bB(hE:E.OK P){nt:AB}{pin:AE (AB×Reg)}{w0:AN}{O z0:AB->Prop}{s:Tr AJ}{a:Act}{shs:AE (AB×Sh)}{l:AE (AB×AJ)}{objs:AE AO}{ora:AE AB}(h:qd E (pin.map (·.1)) shs s σ=AC (l,objs))(hs:Hl P E nt pin w0 O z0 s σ a w):
  Hl P E nt pin w0 O z0 (vz l) (Rf E objs ora) a w:=by
 obtain⟨D,ι,hwf,hG,hD,V,hall,hdf,q1,q2,q3,q4,q5,q6,q7⟩:=hs;unfold qd at h
 split at h
 ·rename_i l' C hc;cases Q:(UT σ E.gl&&pinned E.G C.srcs (pin.map (·.1)))
  ·rw[Q]at h;cases h
  rw[Q,Ag]at h;rw[A0]at Q;obtain⟨Q,hpn⟩:=Q;simp only[BJ,Ct]at h;obtain⟨rfl,rfl⟩:=h;have Q:=Q9 Q;obtain⟨N, -,a3⟩:=UU (G:=E.G) hall hc ⟨rfl,⟨λi k h=>by simp at h,λi k h=>by simp at h,λi j k h=>by simp at h⟩,λi o k h=>by simp at h,λi o S h=>by simp at h⟩
  have f:∀c,c<E.G->DZ E.G ι C.srcs c=ι c:=λc hc=>by unfold DZ;rw[Ae hc]
  have m:∀c o,(Rf E C.objs ora).heap.get c=AC o->(c<E.G/\∃p,p∈E.gl/\p.1=c/\o=.row p.2 0 AD/\σ.heap.get c=AC o)\/∃i,c=E.G+i/\C.objs[i]?=AC o:=by
   intro c o I;simp only[Rf,YV]at I
   split at I
   ·rename_i hr;exact .inr ⟨c-E.G,by omega,I⟩
   ·obtain⟨p,n,r,R⟩:=Fl I;refine .inl ⟨r▸(hE.gl p n).1,p,n,r,R,?_⟩;rw[<-r,Q p n,R]
  have T:∀i o,C.objs[i]?=AC o->WU P (λc=>c<E.G+C.objs.length) (DZ E.G ι C.srcs) (E.G+i) w o:=λi o u=>by
   have:=N.obj i o [] u;rwa[Ce]at this
  have K:∀i o,C.objs[i]?=AC o->∃U,C.srcs[i]?=AC U/\DZ E.G ι C.srcs (E.G+i)=Kb ι U:=λi o u=>by
   have d:i<C.objs.length:=by
    rcases Cf i C.objs.length with h|h
    ·exact h
    ·rw[DA h]at u;cases u
   have e:C.srcs[i]?=AC (C.srcs[i]'(by rw[N.len];exact d)):=B4 _;refine⟨_,e,?_⟩;unfold DZ;rw[AY (by omega),jB,e]
  have J:∀c x,(Rf E C.objs ora).H.hdr c=AC x->∃o,(Rf E C.objs ora).heap.get c=AC o/\x=o.hd:=λc x A=>by
   simp only[St.H]at A;cases B:(Rf E C.objs ora).heap.get c with
   |none=>rw[B]at A;cases A
   |some o=>rw[B]at A;cases A;exact⟨o,rfl,rfl⟩
  refine⟨λc=>c<E.G+C.objs.length,DZ E.G ι C.srcs,λid hid=> ?_,λg hgl=> ?_,λid h=>h,⟨V.1,λt v ht=> ?_⟩,⟨λc x A=> ?_,λc k v hl W=> ?_,λi j li lj hij b q=> ?_⟩,hdf,q1,q2,q3,q4,λc hw b q=> ?_,λc hl b q=> ?_,λp hp=> ?_⟩
  ·have hid:E.G+C.objs.length<=id:=hid;simp only[Rf,YV,AY (show ¬(E.G<=id/\id<E.G+C.objs.length) by omega)];cases hgh:(IC E.gl).get id with
   |none=>rfl
   |some o=>
    obtain⟨p,n,r,_⟩:=Fl hgh;have:=(hE.gl p n).1;omega
  ·obtain⟨g1,g2,g3⟩:=hG g hgl;rw[f g hgl];exact⟨by omega,g2,g3⟩
  ·obtain⟨v1,n,r⟩:=a3 t v (iD ht);refine⟨(V.2 t v1 n).1,?_⟩;have:=r _ (V.2 t v1 n).2 [];rwa[Ce]at this
  ·obtain⟨o,B,rfl⟩:=J c x A;rcases m c o B with⟨d,p,n,r,rfl,z⟩|⟨i,rfl,u⟩
   ·exact(hall.hd c _ (St.hdr_of z)).at (f c d)
   ·exact(T i o u).1
  ·obtain⟨x,A⟩:=hl;obtain⟨o,B,rfl⟩:=J c x A;simp only[St.H,B]at W;rcases m c o B with⟨d,p,n,r,rfl,z⟩|⟨i,rfl,u⟩
   ·obtain⟨o1,v',o2,o3⟩:=hall.ce c k v (St.lv_of z) (by simp only[St.H,z];exact W);have hp:glc v=true:=List.all_eq_true.1 (hE.gl p n).2 v (List.mem_of_getElem? (by simpa[Fs]using W));refine⟨by rw[f c d];exact o1,v',by rw[f c d];exact o2,?_⟩;exact(lU.of hp o3).vr
   ·exact(T i o u).2 k v W
  ·obtain⟨x,A,L⟩:=li;obtain⟨y,hy⟩:=lj;obtain⟨o,B,rfl⟩:=J i x A;obtain⟨o',ho',rfl⟩:=J j y hy;have F:∀t b,¬(Kb ι (.nil t)).Own b/\¬(Kb ι (.nil t)).Fz b:=λt b=>⟨λh=>(by cases h.1),λ⟨c,h⟩=>(by cases h)⟩
   have M:∀c o,(Rf E C.objs ora).heap.get c=AC o->(∃t,DZ E.G ι C.srcs c=Kb ι (.nil t))\/∃k,DZ E.G ι C.srcs c=ι k/\Lv σ.H k/\((c<E.G/\k=c/\∃X,σ.heap.get k=AC (.row X 0 AD))\/∃i,c=E.G+i/\C.srcs[i]?=AC (Src.id k)/\(o.hd.wr\/True)/\C.objs[i]?=AC o):=by
    intro c o I;rcases m c o I with⟨d,p,n,r,rfl,z⟩|⟨i,rfl,u⟩
    ·exact .inr ⟨c,f c d,St.lv_of z,.inl ⟨d,rfl,_,z⟩⟩
    ·obtain⟨U,Y,Z⟩:=K i o u;cases U with
     |nil t=>exact .inl ⟨t,Z⟩
     |id k=>exact .inr ⟨k,Z,N.src.lv i k Y,.inr ⟨i,rfl,Y,.inr trivial,u⟩⟩
   rcases M i o B with⟨t,e⟩|⟨k,e,lk,W⟩
   ·rw[e]at q;exact Aq q (F t b).1
   ·rcases M j o' ho' with⟨t,e'⟩|⟨k',e',lk',hk'⟩
    ·rw[e'];exact F t b
    ·rw[e]at q;rw[e'];by_cases hkk:k=k'
     ·subst hkk;exfalso;rcases W with⟨n,rfl,X,R⟩|⟨i1,rfl,r,_,R⟩
      ·rcases hk' with⟨_,rfl,_⟩|⟨j1,rfl,z,_,h5⟩
       ·exact hij rfl
       ·exact N.src.nro j1 _ z X R
      ·rcases hk' with⟨n,rfl,X,z⟩|⟨j1,rfl,z,_,h5⟩
       ·exact N.src.nro i1 _ r X z
       ·obtain⟨t,xs,hd⟩:=N.src.one i1 j1 k r z λe=>hij (by rw[e])
        obtain⟨_,_,h,_⟩:=hall.hd k _ (St.hdr_of hd);rw[q.1]at h;cases h
     ·have hwk:Wr σ.H k:=by
       rcases W with⟨n,rfl,X,R⟩|⟨i1,rfl,r,_,R⟩
       ·rcases m _ o B with⟨_,p,_,_,rfl,_⟩|⟨i',e',_⟩
        ·cases L
        ·omega
       ·exact N.wr i1 o k R r L
      exact hall.inj k k' hwk lk' hkk b q
  ·obtain⟨x,A,L⟩:=hw;obtain⟨o,B,rfl⟩:=J c x A;rcases m c o B with⟨d,p,n,r,rfl,z⟩|⟨i,rfl,u⟩
   ·cases L
   ·obtain⟨U,Y,Z⟩:=K i o u;rw[Z]at q;cases U with
    |nil t=>cases q.1
    |id k=>exact q5 k (N.wr i o k u Y L) b q
  ·obtain⟨x,A⟩:=hl;obtain⟨o,B,rfl⟩:=J c x A;rcases m c o B with⟨d,p,n,r,rfl,z⟩|⟨i,rfl,u⟩
   ·rw[f c d]at q;exact q6 c (St.lv_of z) b q
   ·obtain⟨U,Y,Z⟩:=K i o u;rw[Z]at q;cases U with
    |nil t=>obtain⟨c,q⟩:=q;cases q
    |id k=>exact q6 k (N.src.lv i k Y) b q
  ·obtain⟨k1,k2⟩:=RA hpn p.1 (List.mem_map_of_mem hp);have d:p.1-E.G<C.objs.length:=by
    rw[<-N.len];rcases Cf (p.1-E.G) C.srcs.length with h|h
    ·exact h
    ·rw[DA h]at k2;cases k2
   refine⟨by omega,?_⟩;have:DZ E.G ι C.srcs p.1=ι p.1:=by
    unfold DZ;rw[AY (by omega),k2];rfl
   rw[this];exact(q7 p hp).2
 ·cases h
