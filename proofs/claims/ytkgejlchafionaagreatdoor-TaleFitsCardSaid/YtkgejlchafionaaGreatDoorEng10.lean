/-
  The engine, part 10: an abstract evaluator over the model's code, proved sound. No condition.
-/
import Derived.Test.YtkgejlchafionaaGreatDoorEng9
section
noncomputable section
noncomputable section
namespace Go.Eng
open Go
def gC {α:Type} (f:List Value->Option (α×List Value×List Bool)):Nat->List Value->Option (List α×List Bool)
 |0,_=>some ([],[])
 |n+1,a=>match f a with
  |some (x,r,p)=>match gC f n r with
   |some (b,q)=>some (x::b,p++q)
   |none=>none
  |none=>none
def BE (σ:St):(t:Ty)->List Value->Option (t.Den×List Value×List Bool)
 | .int k,v::r=>match Bm v with
   |some (.int j n)=>bif decide (j=k) then some (n,r,[]) else none
   |_=>none
 | .byte,v::r=>match Bm v with
   |some (.int .u8 n)=>some (UInt8.ofNat n.toNat,r,[decide (Ad .u8 n)])
   |_=>none
 | .bool,v::r=>match Bm v with
   |some (.bool b)=>some (b,r,[])
   |_=>none
 | .f64,v::r=>match Bm v with
   |some (.float .f64 b)=>some (b,r,[])
   |_=>none
 | .cx,v::r=>match Bm v with
   |some (.complex .f64 a b)=>some ((a,b),r,[])
   |_=>none
 | .str,v::r=>match Bm v with
   |some (.string s)=>some (C8 s,r,[])
   |_=>none
 | .unit,d=>some ((),d,[])
 | .pair a b,d=>match BE σ a d with
   |some (x,r,p)=>match BE σ b r with
    |some (y,l,q)=>some ((x,y),l,p++q)
    |none=>none
   |none=>none
 | .slice a,v::r=>match v with
   | .slice none 0 0=>some ([],r,[])
   | .slice (some ⟨_,_,some 0⟩) 0 _=>some ([],r,[])
   | .slice (some ⟨id,off,none⟩) n c=>match σ.heap.get id with
     |some (.row d _ false)=>match gC (BE σ a) n (d.drop off) with
      |some (e,p)=>bif Nat.ble (off+n*a.sz) d.length&&Nat.ble n c then some (e,r,p) else none
      |none=>none
     |_=>none
   | .tuple i=>match i.toList with
     |[.chan (some 2),.pointer (some ⟨id,0,none⟩)]=>match Fh (σ.heap.get id) with
      |some ⟨t,e⟩=>if h:t=a then some (h▸e,r,[]) else none
      |_=>none
     |[.chan (some 5),.slice (some ⟨id,0,none⟩) m 0]=>match Fh (σ.heap.get id) with
      |some ⟨t,e⟩=>if h:t=a then some (List.take m (h▸e),r,[]) else none
      |_=>none
     |_=>none
   |_=>none
 | .err,v::r=>match ZO v with
   |some b=>some (b,r,[])
   |none=>none
 | .fn f,v::r=>match TK v with
   |some g=>bif Nat.beq g f then some ((),r,[]) else none
   |none=>none
 | .fv,v::r=>match TK v with
   |some g=>some (g,r,[])
   |none=>none
 | .ref _,_::_=>none
 | .clo _ _,_::_=>none
 |_,[]=>none
def Li (σ:St):(ts:List Ty)->List Value->Option (AA ts×List Bool)
 |[],[]=>some ((),[])
 |t::ts,v::vs=>match(bif t.agg then(match v with| .agg a=>some a.toList|_=>none) else some [v]) with
  |some a=>match BE σ t a with
   |some (x,[],p)=>match Li σ ts vs with
    |some (y,q)=>some ((x,y),p++q)
    |none=>none
   |_=>none
  |none=>none
 |_,_=>none
section
variable {P:Program} {D:Nat->Prop} {ι:Nat->Reg} {σ σ':St} {w:World} {fz:Nat->Option (Array Value)}
theorem Yp {a:Ty} (k:∀(b c:List Value) (x:a.Den) (r:List Value) (p:List Bool),BE σ a b=some (x,r,p)->C5 p->LR D ι b c->∃d g,c=d++g/\Bj fz a x d/\LR D ι r g):
  ∀(n:Nat) (b c:List Value) (e:List a.Den) (p:List Bool),gC (BE σ a) n b=some (e,p)->C5 p->LR D ι b c->e.length=n/\∀i x,e[i]?=some x->Bj fz a x ((c.drop (i*a.sz)).take a.sz)
 |0,b,c,e,p,h,_,_=>by
  simp only[gC,Option.some.injEq,Prod.mk.injEq] at h;obtain⟨rfl, -⟩:=h;exact⟨rfl,λi x l=>by simp at l⟩
 |n+1,b,c,e,p,h,m,o=>by
  simp only[gC] at h
  split at h
  ·rename_i x r q s
   split at h
   ·rename_i t u v;cases h;obtain⟨w,z⟩:=BK m;obtain⟨d,g,rfl,g1,A⟩:=k b c x r q s w o;obtain⟨B,C⟩:=Yp k n r g t u v z A;have f:=(I5 a x d g1).1;refine⟨by simp[B],λi y j=> ?_⟩;rcases i with _|i
    ·simp only[List.getElem?_cons_zero,Option.some.injEq] at j;subst j;rw[Nat.zero_mul,List.drop_zero,List.take_append_of_le_length (by omega),List.take_of_length_le (by omega)];exact g1
    ·have:=C i y (by simpa using j);rw[show(i+1)*a.sz=d.length+i*a.sz by rw[f,Nat.add_mul];omega,<-List.drop_drop,List.drop_left];exact this
   ·cases h
  ·cases h
theorem gD {id b:Nat} {y} (h:Fh (σ.heap.get id)=some y) (hd:∀x,σ.H.hdr id=some x->Am P ι id w x) (d:(ι id).Own b):Wr σ.H id:=by
 unfold Fh at h
 split at h
 ·rename_i t f a;obtain⟨_,_,c,_⟩:=hd _ (St.hdr_of a);rw[d.1] at c;cases c
 ·rename_i t f e a;exact⟨_,St.hdr_of a,trivial⟩
 ·cases h
theorem Qn (hall:HAll P D ι σ.H w) (U:∀id b,(Wr σ.H id/\(ι id).Own b)\/(Lv σ.H id/\(ι id).Fz b)->∀c e fr,w.heap[b]?=some (.cells c e fr)->fz b=some c):∀(t:Ty) (E C:List Value) (x:t.Den) (r:List Value) (p:List Bool),BE σ t E=some (x,r,p)->C5 p->LR D ι E C->
  ∃V u2,C=V++u2/\Bj fz t x V/\LR D ι r u2:=by
 intro t
 induction t with
 |int k=>
  intro E C x r p h _ d;cases d with
  |nil=>simp[BE] at h
  |cons s A=>
   simp only[BE] at h
   split at h
   ·rename_i k' n z;cases R:decide (k'=k)
    ·rw[R] at h;cases h
    ·rw[R] at h;cases h;have:=of_decide_eq_true R;subst this;exact⟨[_],_,rfl,by rw[(AZ z s).1];rfl,A⟩
   ·cases h
 |byte=>
  intro E C x r p h W d;cases d with
  |nil=>simp[BE] at h
  |cons s A=>
   simp only[BE] at h
   split at h
   ·rename_i n z;cases h;refine⟨[_],_,rfl,?_,A⟩;rw[(AZ z s).1];simp only[Bj];rw[<-ML (of_decide_eq_true W.1)]
   ·cases h
 |bool=>
  intro E C x r p h _ d;cases d with
  |nil=>simp[BE] at h
  |cons s A=>
   simp only[BE] at h
   split at h
   ·rename_i b z;cases h;exact⟨[_],_,rfl,by rw[(AZ z s).1];rfl,A⟩
   ·cases h
 |f64=>
  intro E C x r p h _ d;cases d with
  |nil=>simp[BE] at h
  |cons s A=>
   simp only[BE] at h
   split at h
   ·rename_i b z;cases h;exact⟨[_],_,rfl,by rw[(AZ z s).1];rfl,A⟩
   ·cases h
 |ref a ih=>
  intro E C x r p h _ d;cases d<;>simp[BE] at h
 |clo f a ih=>
  intro E C x r p h _ d;cases d<;>simp[BE] at h
 |cx=>
  intro E C x r p h _ d;cases d with
  |nil=>simp[BE] at h
  |cons s A=>
   simp only[BE] at h
   split at h
   ·rename_i a b z;cases h;exact⟨[_],_,rfl,by rw[(AZ z s).1];rfl,A⟩
   ·cases h
 |str=>
  intro E C x r p h _ d;cases d with
  |nil=>simp[BE] at h
  |cons s A=>
   simp only[BE] at h
   split at h
   ·rename_i b z;cases h;exact⟨[_],_,rfl,by rw[(AZ z s).1];simp only[Bj,Iy],A⟩
   ·cases h
 |unit=>
  intro E C x r p h _ d;simp only[BE,Option.some.injEq,Prod.mk.injEq] at h;obtain⟨-,rfl, -⟩:=h;exact⟨[],C,rfl,rfl,d⟩
 |err=>
  intro E C x r p h _ d;cases d with
  |nil=>simp[BE] at h
  |cons s A=>
   simp only[BE] at h
   split at h
   ·rename_i b z;cases h;exact⟨[_],_,rfl,⟨_,rfl,II z s⟩,A⟩
   ·cases h
 |fv=>
  intro E C x r p h _ d;cases d with
  |nil=>simp[BE] at h
  |cons s A=>
   simp only[BE] at h
   split at h
   ·rename_i g z;cases h;exact⟨[_],_,rfl,by rw[EZ z s];rfl,A⟩
   ·cases h
 |fn f=>
  intro E C x r p h _ d;cases d with
  |nil=>simp[BE] at h
  |cons s A=>
   simp only[BE] at h
   split at h
   ·rename_i g z;cases F:Nat.beq g f
    ·rw[F] at h;cases h
    ·rw[F] at h;cases h;have:=Nat.eq_of_beq_eq_true F;subst this;exact⟨[_],_,rfl,by rw[EZ z s];rfl,A⟩
   ·cases h
 |pair a b iha ihb=>
  intro E C x r p h W d;simp only[BE] at h
  split at h
  ·rename_i x1 r1 p1 h1
   split at h
   ·rename_i x2 r2 p2 h2;cases h;obtain⟨q1,q2⟩:=BK W;obtain⟨V,u2,rfl,g1,X⟩:=iha E C x1 r1 p1 h1 q1 d;obtain⟨v1,v2,rfl,g3,g4⟩:=ihb r1 u2 x2 r p2 h2 q2 X;exact⟨V++v1,v2,by simp,⟨V,v1,rfl,g1,g3⟩,g4⟩
   ·cases h
  ·cases h
 |slice a ih=>
  intro E C x r p h W d;cases d with
  |nil=>simp[BE] at h
  |cons s A=>
   simp only[BE] at h
   split at h
   ·cases h;cases s;exact⟨[_],_,rfl,⟨_,rfl,.inl ⟨⟨_,_,rfl⟩,rfl⟩⟩,A⟩
   ·cases h;cases s;exact⟨[_],_,rfl,⟨_,rfl,.inl ⟨⟨_,_,rfl⟩,rfl⟩⟩,A⟩
   ·rename_i id off n c
    split at h
    ·rename_i B el G
     split at h
     ·rename_i xs q hr;cases F:(Nat.ble (off+n*a.sz) B.length&&Nat.ble n c)
      ·rw[F] at h;cases h
      rw[F,cond_true] at h;rw[Bool.and_eq_true] at F;have hb2:=Nat.le_of_ble_eq_true F.2;have F:=Nat.le_of_ble_eq_true F.1;cases h;obtain⟨J,rfl,hD,hc1,hc2⟩:=s.sl_inv;have hd:=hall.hd id _ (St.hdr_of G);obtain⟨j,e,fr,Y,e2,e3,⟨e4,e5⟩,e6⟩:=hd;have hfz:=U id (ι id).blk (.inl ⟨⟨_,St.hdr_of G,rfl⟩,e4,rfl⟩) j e fr Y
      have L:∀k,k<B.length->∃u,j.toList[(ι id).base+k]?=some u/\∃v,B[k]?=some v/\VR D ι v u:=by
       intro k R;obtain⟨_,u,z,M⟩:=hall.ce id k B[k] (St.lv_of G) (by rw[St.cell_of G];exact List.getElem?_eq_getElem R);simp only[World.cell?,Y,Option.isSome_none,Bool.false_eq_true,if_false] at z;exact⟨u,by rw[Array.getElem?_toList];exact z,B[k],List.getElem?_eq_getElem R,M⟩
      have hlr:LR D ι (B.drop off) (((j.toList.drop (ι id).base).take B.length).drop off):=by
       refine LR.drop off (LR.of_AR ⟨?_,λi a b N F=> ?_⟩)
       ·simp only[List.size_toArray,List.length_take,List.length_drop,Array.length_toList];have:B.length<=(ι id).room:=e3;omega
       ·simp only[List.getElem?_toArray] at N F;rw[List.getElem?_take] at F
        split at F
        ·rename_i hi;obtain⟨u,z,v,hv',M⟩:=L i hi;rw[List.getElem?_drop,z] at F;rw[hv'] at N;cases N;cases F;exact M
        ·cases F
      obtain⟨k1,k2⟩:=Yp (fz:=fz) (λE C x r p h1 h2 h3=>ih E C x r p h1 h2 h3) n _ _ _ _ hr W hlr;have hnc:n<=J:=by
       by_cases z:c=Ew
       ·exact(hc2 z).1
       ·rw[hc1 z];exact hb2
      refine⟨[_],_,rfl,⟨_,rfl,.inr ⟨(ι id).blk,(ι id).base+off,J,j,by rw[k1],hfz,by rw[k1];have:B.length<=(ι id).room:=e3;omega,by rw[k1];exact hnc,λi y hy=> ?_⟩⟩,A⟩;have Z:=k2 i y hy;have hi:i<n:=by
       rcases Nat.lt_or_ge i n with h|h
       ·exact h
       ·rw[List.getElem?_eq_none (by omega)] at hy;cases hy
      have S:i*a.sz+a.sz<=n*a.sz:=by
       have:=Nat.mul_le_mul_right a.sz hi;rwa[Nat.succ_mul] at this
      have e:((((j.toList.drop (ι id).base).take B.length).drop off).drop (i*a.sz)).take a.sz=(j.toList.drop ((ι id).base+off+i*a.sz)).take a.sz:=by
       rw[List.drop_drop,List.drop_take,List.take_take,List.drop_drop,Nat.add_assoc];congr 1;omega
      rw[e] at Z;exact Z
     ·cases h
    ·cases h
   ·rename_i j
    split at h
    ·rename_i id N;rw[BG N] at s;obtain⟨a',l,c,rfl,hD,K⟩:=Cz s
     split at h
     ·rename_i t xs G
      split at h
      ·rename_i he;subst he;cases h;have S:=AA8 (φ:=⟨[],[id],[],[]⟩) G (.inr (.inl (by simp))) (hall.on _);refine⟨[_],_,rfl,⟨_,rfl,?_⟩,A⟩;rw[<-K];refine S.rd.imp_right ?_;rintro⟨b,o,c,j,e,fr,g1,X,g3,g4,g5,g6⟩;refine⟨b,o,c,j,g1,U id b (g6.imp (λh=>⟨gD G (hall.hd id) h,h⟩) λh=>⟨Ho G,h⟩) j e fr X,g3,g4,λi x T=>Bj.mono (λb' J I=> ?_) _ _ _ (g5 i x T)⟩
       obtain⟨e',fr',O⟩:=S.fz b' J I;exact U id b' (.inr ⟨Ho G,J,I⟩) J e' fr' O
      ·cases h
     ·cases h
    ·rename_i id m N;rw[BG N] at s;obtain⟨a',l,c,rfl,hD,K,hml⟩:=oK s
     split at h
     ·rename_i t xs G
      split at h
      ·rename_i he;subst he;cases h;have S:=AA8 (φ:=⟨[],[id],[],[]⟩) G (.inr (.inl (by simp))) (hall.on _);refine⟨[_],_,rfl,⟨_,rfl,?_⟩,A⟩;rcases S.rd with⟨⟨q,c1,Y⟩,hn⟩|⟨b,o,c1,j,e,fr,g1,X,g3,g4,g5,g6⟩
       ·rw[K] at Y;cases Y;obtain rfl:m=0:=Nat.le_zero.1 hml;exact .inl ⟨⟨_,_,rfl⟩,rfl⟩
       ·rw[K] at g1;cases g1;have Q:(xs.take m).length=m:=by rw[List.length_take];omega
        have hmul:=Nat.mul_le_mul_right t.sz hml;refine .inr ⟨b,o,c,j,by rw[Q],U id b (g6.imp (λh=>⟨gD G (hall.hd id) h,h⟩) λh=>⟨Ho G,h⟩) j e fr X,by rw[Q];omega,by rw[Q];omega,λi x T=>Bj.mono (λb' J I=> ?_) _ _ _ (g5 i x ?_)⟩
        ·obtain⟨e',fr',O⟩:=S.fz b' J I;exact U id b' (.inr ⟨Ho G,J,I⟩) J e' fr' O
        ·rw[List.getElem?_take] at T
         split at T
         ·exact T
         ·cases T
      ·cases h
     ·cases h
    ·cases h
   ·cases h
theorem Uo (hall:HAll P D ι σ.H w) (i:∀id b,(Wr σ.H id/\(ι id).Own b)\/(Lv σ.H id/\(ι id).Fz b)->∀c e fr,w.heap[b]?=some (.cells c e fr)->fz b=some c):∀(ts:List Ty) (vs f:List Value) (x:AA ts) (p:List Bool),Li σ ts vs=some (x,p)->C5 p->LR D ι vs f->Bc fz ts x f
 |[],vs,f,x,p,h,_,j=>by
  cases j with
  |nil=>rfl
  |cons _ _=>simp[Li] at h
 |t::ts,vs,f,x,p,h,s,j=>by
  cases j with
  |nil=>simp[Li] at h
  |cons l z=>
   rename_i v u vs f;simp only[Li] at h
   split at h
   ·rename_i I d
    split at h
    ·rename_i m n o
     split at h
     ·rename_i y q A;cases h;obtain⟨r,B⟩:=BK s;refine⟨u,f,rfl,?_,Uo hall i ts vs f y q A B z⟩;cases a:t.agg
      ·rw[a] at d;cases d;obtain⟨C,E,g,g1,k⟩:=Qn hall i t [v] [u] m [] n o r (.cons l .nil);cases k;rw[List.append_nil] at g;rw[<-g] at g1;exact .inr ⟨a,g1⟩
      ·rw[a,cond_true] at d
       split at d
       ·rename_i as;cases d;cases l with
        |agg _ bs F G=>
         obtain⟨C,E,g,g1,k⟩:=Qn hall i t as.toList bs.toList m [] n o r (LR.of_AR ⟨by simpa using F,by simpa using G⟩);cases k;rw[List.append_nil] at g;rw[<-g] at g1;exact .inl ⟨a,bs,rfl,g1⟩
       ·cases d
     ·cases h
    ·cases h
   ·cases h
end
section
variable {P:Program} {E:Env} (hE:E.OK P)
def QP (P:Program) (fn:Func) (rs:List Ty) (y:AA rs) (fz0:Nat->Option (Array Value)) (w0:World):Exit->Act->World->Prop:=
 bodyPost P fn λe w'=>Bs fz0 w0->∃vs a,e=.returned (De vs)/\(∀b c,fz0 b=some c->a b=some c)/\Bs a w'/\(∀b c,a b=some c->fz0 b=some c\/w0.heap.size<=b)/\Bc a rs y vs/\Bx w0 w'
include hE in
theorem KK {nt:Nat} {D:Nat->Prop} {ι:Nat->Reg} {s:Tr Value} {σ:St} {a:Act} {w:World} {φ:Foot} {fn:Func} {vs:List Value} (h:DZ E s σ fn.results.toList=some (vs,φ)) (b:FL nt D ι s a) (c:HOn P D ι σ.H φ w):
  ∃l:List Value,(results fn a.tmps).run P w=.ok (De l) w/\AR D ι vs.toArray l.toArray:=by
 obtain⟨l,d,e,i,j⟩:=Is hE _ _ _ h b c;have f:(fn.results.mapM (VV a.tmps)).run P w=.ok l.toArray w:=by
  rw[Array.mapM_eq_mapM_toList,Sem.run_map,d];rfl
 have g:results fn a.tmps=(do let vs<-fn.results.mapM (VV a.tmps);Pure.pure (if h:vs.size=1 then vs[0] else .tuple vs)):=by
  unfold results;congr 2
 refine⟨l,?_,e⟩;rw[g,Sem.run_bind,f,Result.andThen_ok,Sem.run_pure];congr 1
 match l with
 |[]=>rfl
 |[v]=>rfl
 |_::_::_=>rfl
def qp (E:Env) (fn:Func) (rs:List Ty):Pl×Tr Value×St->Option (AA rs×List Bool)
 |(.out e [],s,σ)=>match e with
  | .normal=>match DZ E s σ fn.results.toList with
    |some (vs,_)=>Li σ rs vs
    |none=>none
  | .ret=>match DZ E s σ fn.results.toList with
    |some (vs,_)=>Li σ rs vs
    |none=>none
  |_=>none
 |_=>none
include hE in
theorem gE {nt:Nat} {fz0:Nat->Option (Array Value)} {w0 w:World} {s:Tr Value} {σ:St} {a:Act} {fn:Func} {rs:List Ty} {vs:List Value} {φ:Foot} {y:AA rs} {k:List Bool}
  (r:Jc P E nt [] w0 (λ_=>False) (λb=>∃c,fz0 b=some c) s σ a w) (t:DZ E s σ fn.results.toList=some (vs,φ)) (u:Li σ rs vs=some (y,k)) (x:C5 k):
  a.defers=[]/\∃v,(results fn a.tmps).run P w=.ok v w/\(Bs fz0 w0->∃vs g,Ending.returned v=.returned (De vs)/\(∀b c,fz0 b=some c->g b=some c)/\Bs g w/\(∀b c,g b=some c->fz0 b=some c\/w0.heap.size<=b)/\Bc g rs y vs/\Bx w0 w):=by
 obtain⟨D,ι,z,N,O,m,hall,n,A,B,C,q,F,G,Q⟩:=r;obtain⟨l,H,I⟩:=KK hE t m (hall.on _);refine⟨n,De l,H,λo=> ?_⟩;have f:∀b c,fz0 b=some c->b<w0.heap.size/\∃e fr,w.heap[b]?=some (.cells c e fr):=λb c h=>by
  obtain⟨e,fr,i⟩:=o b c h;have d:=Ap i;exact⟨d,e,fr,by rw[q b d not_false];exact i⟩
 refine⟨l,λb=>if b<w0.heap.size then fz0 b else(match w.heap[b]? with|some (.cells c _ _)=>some c|_=>none),rfl,λb c h=> ?_,λb c h=> ?_,λb c h=> ?_,?_,A,B,C,λb p=>q b p not_false⟩
 ·simp only[if_pos (f b c h).1];exact h
 ·simp only at h
  split at h
  ·exact(f b c h).2
  ·split at h
   ·rename_i R e fr j;cases h;exact⟨e,fr,j⟩
   ·cases h
 ·simp only at h
  split at h
  ·exact .inl h
  ·rename_i d;exact .inr (by omega)
 ·refine Uo hall (λid b p c e fr j=> ?_) rs vs l y k u x (LR.of_AR I);by_cases d:b<w0.heap.size
  ·rw[if_pos d];rcases p with⟨J,K⟩|⟨L,M⟩
   ·rcases F id J b K with h|h
    ·omega
    ·exact h.elim
   ·rcases G id L b M with h|h|⟨c0,h⟩
    ·omega
    ·exact h.elim
    ·obtain⟨_,S,fr',i⟩:=f b c0 h;rw[j] at i;cases i;exact h
  ·rw[if_neg d,j]
include hE in
theorem kd {nt:Nat} {fz0:Nat->Option (Array Value)} {fn:Func} {rs:List Ty} {p:Pl} {s:Tr Value} {σ:St} {y:AA rs} {g:List Bool} (h:qp E fn rs (p,s,σ)=some (y,g)) (i:C5 g):
  At P E nt [] (QP P fn rs y fz0) (λ_ _=>False) (λ_ b=>∃c,fz0 b=some c) p s σ:=by
 intro w0 a w j;unfold qp at h
 split at h
 ·rename_i e k σ' d;simp only[Prod.mk.injEq] at d;obtain⟨rfl,rfl,rfl⟩:=d
  split at h
  ·split at h
   ·rename_i vs φ f;exact gE hE j f h i
   ·cases h
  ·split at h
   ·rename_i vs φ f;exact gE hE j f h i
   ·cases h
  ·cases h
 ·cases h
def ke (E:Env) (S:PSpec) (x:AA S.ts) (ora:List Nat):List Value×St:=EM (IW S.ts x) ((Bg E).pop ora)
def GU (E:Env) (S:PSpec) (x:AA S.ts) (ora:List Nat):Tr Value:=ES 0 (Zh S.ts (ke E S x ora).1) .lf
def qq (E:Env) (S:PSpec) (x:AA S.ts) (ora:List Nat):St:=(ke E S x ora).2
include hE in
theorem Yq (ora:List Nat):((Bg E).pop ora).wf:=by
 intro id hid;cases a:(Eh E.gl).get id with
 |none=>exact a
 |some o=>
  obtain⟨p,b,c,_⟩:=DA a;have:=(hE.gl p b).1;have hid:E.G<=id:=hid;omega
theorem IR (ora:List Nat) {id:Nat} {x:Hd} (a:((Bg E).pop ora).H.hdr id=some x):∃p,p∈E.gl/\p.1=id/\((Bg E).pop ora).heap.get id=some (AO.row p.2 0 true)/\x=.row p.2.length 0 true:=by
 cases b:(Eh E.gl).get id with
 |none=>
  have:((Bg E).pop ora).H.hdr id=none:=by simp[St.H,Bg,St.pop,b]
  rw[this] at a;cases a
 |some o=>
  obtain⟨p,c,d,rfl⟩:=DA b;have:((Bg E).pop ora).H.hdr id=some (AO.row p.2 0 true).hd:=St.hdr_of (σ:=(Bg E).pop ora) b;rw[this] at a;cases a;exact⟨p,c,d,b,rfl⟩
theorem Qo (d:∀p,p∈E.gl->p.2≠[]) (ora:List Nat) {w:World} (m:I6 E.gl w):HAll P (λid=>id<E.G) (EA w) ((Bg E).pop ora).H w where
 hd:=λid x f=>by
  obtain⟨p,a,rfl,n,rfl⟩:=IR ora f;obtain⟨c,e,fr,g1,g⟩:=cG (m.1 p a) (d p a);refine⟨c,e,fr,g1,?_,?_,⟨rfl,Ii _ _ _ _⟩,λh=>by cases h⟩
  ·simp[EA,g1]
  ·simpa[EA,g1] using g
 ce:=λid k u q o=>by
  obtain⟨x,f⟩:=q;obtain⟨p,a,rfl,n,rfl⟩:=IR ora f;rw[St.cell_of n] at o;obtain⟨r,g1,g⟩:=m.1 p a k u o;refine⟨rfl,r,?_,g.vr⟩;simpa[EA] using g1
 inj:=λi j _ _ l b s=>⟨λt=>l (s.2.trans t.2.symm),Ii _ _ _ _ b⟩
theorem MatOK.hall {D:Nat->Prop} {ι ι':Nat->Reg} {σ σ':St} {w:World} {fz:Nat->Option (Array Value)} (m:MatOK fz ι σ σ' ι') (h:HAll P D ι σ.H w) (y:∀id,D id->id<σ.next) (z:Bs fz w)
  (f:∀id,Wr σ.H id->∀b,(ι id).Own b->∀c,fz b=some c->False):HAll P (λi=>D i\/σ.rng σ' i) ι' σ'.H w where
 hd:=λid x d=>by
  by_cases a:σ.rng σ' id
  ·obtain⟨t,o,u,g1,n,g3⟩:=m.new id a;rw[St.hdr_of g1] at d;cases d;exact⟨by rw[g3];exact n,by rw[g3];rfl,by rw[g3];rfl,by rw[g3];exact z⟩
  ·have e:σ'.H.hdr id=σ.H.hdr id:=by simp only[St.H,m.old id a]
   rw[e] at d;exact(h.hd id x d).keep (S:=λ_ _=>False) (m.io id a) (λb _=>BC.refl _ _) (.inr λ_ _ _=>not_false)
 ce:=λid k v A d=>by
  by_cases a:σ.rng σ' id
  ·obtain⟨t,o,u,g1,n,g3⟩:=m.new id a;simp only[St.H,g1,DH] at d;cases d
  ·have e:σ'.H.hdr id=σ.H.hdr id:=by simp only[St.H,m.old id a]
   have B:σ'.H.cell id k=σ.H.cell id k:=by simp only[St.H,m.old id a]
   rw[B] at d;exact(h.ce id k v (A.of_hdr e) d).keep (S:=λ_=>False) (m.io id a) (λ_=>.inl) (λi g=>m.io i λa=>by have:=y i g;simp only[St.rng] at a;omega) (BC.refl _ _) not_false
 inj:=λi j r C p b l=>by
  by_cases g:σ.rng σ' i
  ·obtain⟨t,o,u,g1,n,g3⟩:=m.new i g;rw[g3] at l;cases l.1
  ·have s:σ'.H.hdr i=σ.H.hdr i:=by simp only[St.H,m.old i g]
   rw[m.io i g] at l;by_cases q:σ.rng σ' j
   ·obtain⟨t,o,u,g1,n,g3⟩:=m.new j q;rw[g3];exact⟨λ(h:(WN t fz u).Own b)=>(by cases h.1),λ⟨c,h⟩=>f i (r.of_hdr s) b l c h⟩
   ·have E:σ'.H.hdr j=σ.H.hdr j:=by simp only[St.H,m.old j q]
    rw[m.io j q];exact h.inj i j (r.of_hdr s) (C.of_hdr E) p b l
include hE in
theorem kf (F:∀p,p∈E.gl->p.2≠[]) {S:PSpec} {f:FuncId} {fn:Func} {body:Code} (I:P.funcs[f]?=some fn) (R:fn.body=some body) (J:S.ts.length<=fn.ntmps)
  (h:∀x,S.pre x->∀fz0,∃ora,At P E fn.ntmps [] (QP P fn S.rs (S.g x) fz0) (λ_ _=>False) (λ_ b=>∃c,fz0 b=some c) (.run body []) (GU E S x ora) (qq E S x ora)):Gk P E.gl f S:=by
 intro fz w args x B q K r;obtain⟨ora,kt⟩:=h x r fz;obtain⟨W,X,Y,Z⟩:=Rk S.ts x args.toList K;rcases hm:EM (IW S.ts x) ((Bg E).pop ora) with⟨vs,σ1⟩
 obtain⟨ι',j,m2,m3⟩:=AA4 (IW S.ts x) W (λid=>id<E.G) (EA w) ((Bg E).pop ora) σ1 vs hm X Y;have L:=Z vs _ ι' m2 m3;have s:(Zh S.ts vs).length=S.ts.length:=by
  have:∀(ts:List Ty) (vs:List Value),(Zh ts vs).length=ts.length:=λts=>by
   induction ts with
   |nil=>intro vs;rfl
   |cons t ts ih=>intro vs;simp[Zh,ih]
  exact this _ _
 have z:=Yq hE ora;have e1:GU E S x ora=ES 0 (Zh S.ts vs) .lf:=by simp only[GU,ke,hm]
 have e2:qq E S x ora=σ1:=by simp only[qq,ke,hm]
 rw[e1,e2] at kt;have M:AR (λi=>i<E.G\/((Bg E).pop ora).rng σ1 i) ι' (Zh S.ts vs).toArray args:=by
  have:=LR.AR L;simpa using this
 have hall:=j.hall (P:=P) (Qo F ora q) (λid h=>h) B λid T b R c hc=>by
  obtain⟨y,C,k⟩:=T;obtain⟨p,n,rfl, -,rfl⟩:=IR ora C;cases k
 have N:Jc P E fn.ntmps [] w (λ_=>False) (λb=>∃c,fz b=some c) (ES 0 (Zh S.ts vs) .lf) σ1 { tmps:=args++Array.replicate (fn.ntmps-args.size) undef,defers:=[]} w:=by
  refine⟨λi=>i<E.G\/((Bg E).pop ora).rng σ1 i,ι',j.wf z,?_,?_,Kd M (by rw[s];exact J),hall,rfl,Nat.le_refl _,rfl,rfl,λ_ _ _=>rfl,λid hw b U=> ?_,λid T b D=> ?_,λp hp=>by cases hp⟩
  ·intro g hg;have:ι' g=EA w g:=j.io g λm=>by simp only[St.rng,St.pop,Bg] at m;omega
   rw[this];exact⟨.inl hg,rfl,rfl,RL q⟩
  ·intro id hid;have:=j.le;rcases hid with hid|hid
   ·simp only[St.pop,Bg] at this;omega
   ·exact hid.2
  ·by_cases m:((Bg E).pop ora).rng σ1 id
   ·obtain⟨t,xs,u,g1,g2,g3⟩:=j.new id m;rw[g3] at U;cases U.1
   ·obtain⟨y,C,k⟩:=hw;simp only[St.H,j.old id m] at C;obtain⟨p,_,_,_,rfl⟩:=IR ora (show((Bg E).pop ora).H.hdr id=some y from C);cases k
  ·by_cases m:((Bg E).pop ora).rng σ1 id
   ·obtain⟨t,xs,u,g1,g2,g3⟩:=j.new id m;rw[g3] at D;exact .inr (.inr D)
   ·rw[j.io id m] at D;exact absurd D (Ii _ _ _ _ b)
 have O:=kt w _ w N;refine calls_of_wp I R (wp_mono O ?_);intro e a w' o;have V:∀v,(Bs fz w->∃vs d,Ending.returned v=.returned (De vs)/\(∀b c,fz b=some c->d b=some c)/\Bs d w'/\(∀b c,d b=some c->fz b=some c\/w.heap.size<=b)/\Bc d S.rs (S.g x) vs/\Bx w w')->
   ∃vs d,Ending.returned v=.returned (De vs)/\(∀b c,fz b=some c->d b=some c)/\Bs d w'/\(∀b c,d b=some c->fz b=some c\/w.heap.size<=b)/\Bc d S.rs (S.g x) vs/\Bx w w':=λv h=>h B
 cases e with
 |normal=>obtain⟨n,v,Q,A⟩:=o;exact⟨n,v,Q,V v A⟩
 |ret=>obtain⟨n,v,Q,A⟩:=o;exact⟨n,v,Q,V v A⟩
 |panic ch=>obtain⟨n,A⟩:=o;exact⟨n,A B⟩
 |outgrown=>exact o B
 |exit id=>exact o
 |goto l=>exact o
end
end Go.Eng
end
end
end
section
noncomputable section
noncomputable section
namespace Go.Eng
open Go
def Gd (fn:Func):Code:=match fn.body with|some c=>c|none=>.skip
end Go.Eng
end
end
end
section
noncomputable section
noncomputable section
namespace Go.Eng
open Go
inductive Sh1 where
 |any
 |sym
 |dat (t:Ty)
 |vec (t:Ty) (elem:TypeId)
 |same (k:Nat)
 |samep (k:Nat)
inductive Sh where
 |one (s:Sh1)
 |obj (cells:List Sh1)
 |agg (cells:List Sh1)
 |sli (cells:List Sh1)
 |nest (i:Nat) (sub cells:List Sh1)
inductive Src where
 |id (k:Nat)
 |nil (t:Ty)
structure Can where
 srcs:List Src
 objs:List AO
def xp:Value->Value
 | .bool b=>.bool b
 |u=>sy u
theorem ACJ {D:Nat->Prop} {ι:Nat->Reg} {v:Value} (h:IX v=true):VR D ι (xp v) v:=by
 cases v<;>first|exact .bool _|exact .sym _ h|cases h
def Cv:Nat->List Src->Bool
 |_,[]=>false
 |k,.id j::r=>Nat.beq k j||Cv k r
 |k,_::r=>Cv k r
def xq (G:Nat) (σ:St) (sh:Sh1) (v:Value) (C:Can):Option (Value×Can):=
 match sh with
 | .any=>bif AW 8 v then some (v,C) else match Bm v with
   |some u=>some (xp u,C)
   |none=>none
 | .sym=>match Bm v with
   |some u=>some (xp u,C)
   |none=>none
 | .dat t=>match v with
   | .slice none 0 0=>some (dt (G+C.objs.length),⟨C.srcs++[.nil t],C.objs++[.dat t []]⟩)
   | .tuple a=>match a.toList with
     |[.chan (some 2),.pointer (some ⟨id,0,none⟩)]=>match σ.heap.get id with
      |some (.dat b c)=>if h:b=t then some (dt (G+C.objs.length),⟨C.srcs++[.id id],C.objs++[.dat t (h▸c)]⟩) else none
      |_=>none
     |_=>none
   |_=>none
 | .vec t e=>match v with
   | .slice none 0 0=>some (dt (G+C.objs.length),⟨C.srcs++[.nil t],C.objs++[.vec t [] e]⟩)
   | .tuple a=>match a.toList with
     |[.chan (some 2),.pointer (some ⟨id,0,none⟩)]=>match σ.heap.get id with
      |some (.vec b c d)=>if h:b=t then(bif Nat.beq d e&& !Cv id C.srcs then some (dt (G+C.objs.length),⟨C.srcs++[.id id],C.objs++[.vec t (h▸c) e]⟩) else none) else none
      |_=>none
     |_=>none
   |_=>none
 | .same k=>match v with
   | .tuple a=>match a.toList with
     |[.chan (some 2),.pointer (some ⟨id,0,none⟩)]=>match C.srcs[k]? with
      |some (.id j)=>bif Nat.beq j id then some (dt (G+k),C) else none
      |_=>none
     |_=>none
   |_=>none
 | .samep k=>match v with
   | .pointer (some ⟨id,0,none⟩)=>match C.srcs[k]? with
     |some (.id j)=>bif Nat.beq j id then some (.pointer (some ⟨G+k,0,none⟩),C) else none
     |_=>none
   |_=>none
def kg (G:Nat) (σ:St):List Sh1->List Value->Can->Option (List Value×Can)
 |[],[],C=>some ([],C)
 |sh::a,v::vs,C=>match xq G σ sh v C with
  |some (v',C1)=>match kg G σ a vs C1 with
   |some (vs',C2)=>some (v'::vs',C2)
   |none=>none
  |none=>none
 |_,_,_=>none
def v8 (G:Nat) (σ:St) (sh:Sh) (v:Value) (C:Can):Option (Value×Can):=
 match sh with
 | .one s=>xq G σ s v C
 | .obj a=>match v with
   | .pointer (some ⟨id,0,none⟩)=>match σ.heap.get id with
     |some (.row d e false)=>match kg G σ a d C with
      |some (b,C')=>bif !Cv id C'.srcs then some (.pointer (some ⟨G+C'.objs.length,0,none⟩),⟨C'.srcs++[.id id],C'.objs++[.row b e false]⟩) else none
      |none=>none
     |_=>none
   |_=>none
 | .agg a=>match v with
   | .agg d=>match kg G σ a d.toList C with
     |some (b,C')=>some (.agg b.toArray,C')
     |none=>none
   |_=>none
 | .sli a=>match v with
   | .slice (some ⟨id,0,none⟩) l c=>match σ.heap.get id with
     |some (.row d e false)=>match kg G σ a d C with
      |some (b,C')=>bif !Cv id C'.srcs then some (.slice (some ⟨G+C'.objs.length,0,none⟩) l c,⟨C'.srcs++[.id id],C'.objs++[.row b e false]⟩) else none
      |none=>none
     |_=>none
   |_=>none
 | .nest _ _ _=>none
def qs (σ:St) (v:Value) (i:Nat):Option Value:=match v with
 | .pointer (some ⟨id,0,none⟩)=>match σ.heap.get id with
   |some (.row a _ false)=>a[i]?
   |_=>none
 |_=>none
def cv (G:Nat) (σ:St) (sh:Sh) (v:Value) (C:Can):Option (Value×Can):=
 match sh with
 | .nest i sub cells=>match qs σ v i with
   |some u=>match v8 G σ (.obj sub) u C with
    |some (_,C1)=>v8 G σ (.obj cells) v C1
    |none=>none
   |none=>none
 |sh=>v8 G σ sh v C
def KL (G:Nat) (σ:St) (s:Tr Value):List (Nat×Sh)->Can->Option (List (Nat×Value)×Can)
 |[],C=>some ([],C)
 |(t,sh)::r,C=>match s.get t with
  |some v=>match cv G σ sh v C with
   |some (v',C1)=>match KL G σ s r C1 with
    |some (l,C2)=>some ((t,v')::l,C2)
    |none=>none
   |none=>none
  |none=>none
def kh:List (Nat×Value)->Tr Value
 |[]=>.lf
 |(t,v)::r=>(kh r).set t (some v)
def wA:Nat->List AO->Tr AO->Tr AO
 |_,[],h=>h
 |k,o::os,h=>wA (k+1) os (h.set k (some o))
def L7 (E:Env) (objs:List AO) (ora:List Nat):St:=⟨wA E.G objs (Eh E.gl),E.G+objs.length,[],ora⟩
def On (σ:St):List (Nat×List Value)->Bool
 |[]=>true
 |p::a=>match σ.heap.get p.1 with
  |some (.row b 0 true)=>bif VJ b p.2 then On σ a else false
  |_=>false
def pinned (G:Nat) (srcs:List Src):List Nat->Bool
 |[]=>true
 |k::a=>match srcs[k-G]? with
  |some (.id j)=>bif Nat.beq j k&&Nat.ble G k then pinned G srcs a else false
  |_=>false
def gF (E:Env) (a:List Nat) (b:List (Nat×Sh)) (s:Tr Value) (σ:St):Option (List (Nat×Value)×List AO):=
 match KL E.G σ s b ⟨[],[]⟩ with
 |some (l,C)=>bif On σ E.gl&&pinned E.G C.srcs a then some (l,C.objs) else none
 |none=>none
section
variable {P:Program} {E:Env} {D:Nat->Prop} {ι:Nat->Reg} {σ:St} {w:World} {G:Nat}
def Ge (ι:Nat->Reg):Src->Reg
 | .id k=>ι k
 | .nil t=>⟨0,0,0,t.sz,false,λ_=>none,.slice none 0 0⟩
def B3 (G:Nat) (ι:Nat->Reg) (S:List Src) (c:Nat):Reg:=
 if c<G then ι c else match S[c-G]? with
  |some s=>Ge ι s
  |none=>rg 0 0 0 0
def Qp (P:Program) (D:Nat->Prop) (ι0:Nat->Reg) (c:Nat) (w:World) (o:AO):Prop:=
 Am P ι0 c w o.hd/\∀k v,DH (some o) k=some v->BL D ι0 c w k v
structure SrcOK (σ:St) (S:List Src):Prop where
 lv:∀(i k:Nat),S[i]?=some (Src.id k)->Lv σ.H k
 nro:∀(i k:Nat),S[i]?=some (.id k)->∀cs,σ.heap.get k≠some (.row cs 0 true)
 one:∀(i j k:Nat),S[i]?=some (Src.id k)->S[j]?=some (Src.id k)->i≠j->∃t xs,σ.heap.get k=some (.dat t xs)
theorem Gf {k:Nat}:∀{S:List Src},Cv k S=false->∀i:Nat,S[i]?≠some (Src.id k)
 |[],_,i=>by simp
 |Src.id j::r,h,i=>by
  simp only[Cv,Bool.or_eq_false_iff] at h;rcases i with _|i
  ·simp only[List.getElem?_cons_zero,ne_eq,Option.some.injEq,Src.id.injEq];intro e;subst e;rw[Cc rfl] at h;cases h.1
  ·simpa using Gf h.2 i
 |Src.nil t::r,h,i=>by
  simp only[Cv] at h;rcases i with _|i
  ·simp
  ·simpa using Gf h i
theorem SrcOK.add_dat {S:List Src} (h:SrcOK σ S) {k:Nat} {t:Ty} {l:List t.Den} (d:σ.heap.get k=some (.dat t l)):SrcOK σ (S++[Src.id k]) where
 lv:=λi j a=>by
  rcases Nat.lt_or_ge i S.length with b|b
  ·rw[List.getElem?_append_left b] at a;exact h.lv i j a
  ·rw[List.getElem?_append_right b] at a;have:i-S.length=0:=by
    rcases Nat.eq_zero_or_pos (i-S.length) with h|h
    ·exact h
    ·rw[List.getElem?_eq_none (by simp;omega)] at a;cases a
   rw[this] at a;simp only[List.getElem?_cons_zero,Option.some.injEq,Src.id.injEq] at a;subst a;exact St.lv_of d
 nro:=λi j a m f=>by
  rcases Nat.lt_or_ge i S.length with b|b
  ·rw[List.getElem?_append_left b] at a;exact h.nro i j a m f
  ·rw[List.getElem?_append_right b] at a;rcases hx:i-S.length with _|n
   ·rw[hx] at a;simp only[List.getElem?_cons_zero,Option.some.injEq,Src.id.injEq] at a;subst a;rw[d] at f;cases f
   ·rw[hx] at a;simp at a
 one:=λi j c a o g=>by
  by_cases e:c=k
  ·subst e;exact⟨t,l,d⟩
  ·have low:∀i,(S++[Src.id k])[i]?=some (Src.id c)->S[i]?=some (Src.id c):=λi a=>by
    rcases Nat.lt_or_ge i S.length with b|b
    ·rwa[List.getElem?_append_left b] at a
    ·rw[List.getElem?_append_right b] at a;rcases hx:i-S.length with _|n
     ·rw[hx] at a;simp only[List.getElem?_cons_zero,Option.some.injEq,Src.id.injEq] at a;exact absurd a.symm e
     ·rw[hx] at a;simp at a
   exact h.one i j c (low i a) (low j o) g
theorem SrcOK.add_own {S:List Src} (h:SrcOK σ S) {k:Nat} (c:Wr σ.H k) (p:Cv k S=false):SrcOK σ (S++[Src.id k]):=by
 have e:=Gf p;have low:∀i a,(S++[Src.id k])[i]?=some (Src.id a)->S[i]?=some (Src.id a)\/(i=S.length/\a=k):=λi a b=>by
  rcases Nat.lt_or_ge i S.length with c|c
  ·rw[List.getElem?_append_left c] at b;exact .inl b
  ·rw[List.getElem?_append_right c] at b;rcases hx:i-S.length with _|n
   ·rw[hx] at b;simp only[List.getElem?_cons_zero,Option.some.injEq,Src.id.injEq] at b;exact .inr ⟨by omega,b.symm⟩
   ·rw[hx] at b;simp at b
 refine⟨λi a b=> ?_,λi a b q l=> ?_,λi j a b m f=> ?_⟩
 ·rcases low i a b with d|⟨_,rfl⟩
  ·exact h.lv i a d
  ·exact c.lv
 ·rcases low i a b with d|⟨_,rfl⟩
  ·exact h.nro i a d q l
  ·obtain⟨y,o,r⟩:=c;rw[St.hdr_of l] at o;cases o;cases r
 ·rcases low i a b with d|⟨t,rfl⟩
  ·rcases low j a m with g|⟨s,rfl⟩
   ·exact h.one i j a d g f
   ·exact absurd d (e i)
  ·rcases low j _ m with g|⟨s,_⟩
   ·exact absurd g (e j)
   ·omega
theorem SrcOK.add_nil {S:List Src} (h:SrcOK σ S) (t:Ty):SrcOK σ (S++[Src.nil t]):=by
 have low:∀i a,(S++[Src.nil t])[i]?=some (Src.id a)->S[i]?=some (Src.id a):=λi a b=>by
  rcases Nat.lt_or_ge i S.length with c|c
  ·rwa[List.getElem?_append_left c] at b
  ·rw[List.getElem?_append_right c] at b;rcases hx:i-S.length with _|n
   ·rw[hx] at b;simp at b
   ·rw[hx] at b;simp at b
 exact⟨λi a b=>h.lv i a (low i a b),λi a b=>h.nro i a (low i a b),λi j a b d=>h.one i j a (low i a b) (low j a d)⟩
structure CanOK (P:Program) (G:Nat) (σ:St) (ι:Nat->Reg) (w:World) (C:Can):Prop where
 len:C.srcs.length=C.objs.length
 src:SrcOK σ C.srcs
 wr:∀(i:Nat) o k,C.objs[i]?=some o->C.srcs[i]?=some (Src.id k)->o.hd.wr->Wr σ.H k
 obj:∀(i:Nat) o S,C.objs[i]?=some o->Qp P (λc=>c<G+C.objs.length) (B3 G ι (C.srcs++S)) (G+i) w o
theorem D4 {S:List Src} {T:List Src} {s:Src}:B3 G ι (S++s::T) (G+S.length)=Ge ι s:=by
 unfold B3;rw[if_neg (by omega),Nat.add_sub_cancel_left,List.getElem?_append_right (Nat.le_refl _),Nat.sub_self];rfl
theorem Am.at {ι ι0:Nat->Reg} {k c:Nat} {x:Hd} (h:Am P ι k w x) (e:ι0 c=ι k):Am P ι0 c w x:=by
 cases x<;>simp only[Am,e] at h⊢ <;>exact h
theorem Qp.more {ι0:Nat->Reg} {D D':Nat->Prop} {c:Nat} {o:AO} (h:Qp P D ι0 c w o) (a:∀i,D i->D' i):Qp P D' ι0 c w o:=
 ⟨h.1,λk v b=>(h.2 k v b).more a⟩
theorem CanOK.add {C:Can} {s:Src} {o:AO} (h:CanOK P G σ ι w C) (j:SrcOK σ (C.srcs++[s])) (l:∀k,s=.id k->o.hd.wr->Wr σ.H k)
  (m:∀ι0,ι0 (G+C.objs.length)=Ge ι s->(∀S,ι0=B3 G ι (C.srcs++s::S)->Qp P (λc=>c<G+(C.objs.length+1)) ι0 (G+C.objs.length) w o)):CanOK P G σ ι w ⟨C.srcs++[s],C.objs++[o]⟩ where
 len:=by simp[h.len]
 src:=j
 wr:=λi f k a d e=>by
  rcases Nat.lt_or_ge i C.objs.length with b|b
  ·rw[List.getElem?_append_left b] at a;rw[List.getElem?_append_left (by rw[h.len];exact b)] at d;exact h.wr i f k a d e
  ·rw[List.getElem?_append_right b] at a;rw[List.getElem?_append_right (by rw[h.len];exact b),h.len] at d;rcases hx:i-C.objs.length with _|n
   ·rw[hx] at a d;simp only[List.getElem?_cons_zero,Option.some.injEq] at a d;subst a;exact l k d e
   ·rw[hx] at a;simp at a
 obj:=λi f S a=>by
  simp only[List.append_assoc,List.singleton_append,List.length_append,List.length_cons,List.length_nil,Nat.zero_add];rcases Nat.lt_or_ge i C.objs.length with b|b
  ·rw[List.getElem?_append_left b] at a;exact(h.obj i f (s::S) a).more λc g=>by have g:c<G+C.objs.length:=g;omega
  ·rw[List.getElem?_append_right b] at a;rcases hx:i-C.objs.length with _|n
   ·rw[hx] at a;simp only[List.getElem?_cons_zero,Option.some.injEq] at a;subst a;obtain rfl:i=C.objs.length:=by omega
    refine m _ ?_ S rfl;have:=D4 (G:=G) (ι:=ι) (S:=C.srcs) (T:=S) (s:=s);rw[h.len] at this;exact this
   ·rw[hx] at a;simp at a
def bH (C C':Can):Prop:=∃T,C'.srcs=C.srcs++T
theorem bH.refl (C:Can):bH C C:=⟨[],by simp⟩
theorem bH.trans {A B C:Can}:bH A B->bH B C->bH A C:=λ⟨T,h⟩ ⟨U,a⟩=>⟨T++U,by rw[a,h,List.append_assoc]⟩
def VC (D:Nat->Prop) (ι:Nat->Reg) (G:Nat) (C:Can) (v v0:Value):Prop:=
 ∀v',VR D ι v v'->∀S,VR (λc=>c<G+C.objs.length) (B3 G ι (C.srcs++S)) v0 v'
theorem VC.more {C C':Can} {v v0:Value} (h:VC D ι G C v v0) (f:CanOK P G σ ι w C) (a:CanOK P G σ ι w C') (e:bH C C'):VC D ι G C' v v0:=by
 obtain⟨T,b⟩:=e;intro v' g S;have:=h v' g (T++S);rw[b,List.append_assoc];refine this.mono (λc d=> ?_) λ_ _=>rfl
 have i:C.objs.length<=C'.objs.length:=by
  rw[<-f.len,<-a.len,b];simp
 have d:c<G+C.objs.length:=d;show c<G+C'.objs.length;omega
theorem gG (hall:HAll P D ι σ.H w) {sh:Sh1} {v v0:Value} {C C':Can} (h:xq G σ sh v C=some (v0,C')) (d:CanOK P G σ ι w C):CanOK P G σ ι w C'/\bH C C'/\VC D ι G C' v v0:=by
 have m:∀u,Bm v=some u->VC D ι G C v (xp u):=λu o v' f S=>by
  obtain⟨rfl,h⟩:=AZ o f;exact ACJ h
 unfold xq at h
 split at h
 ·cases A:AW 8 v
  ·rw[A,cond_false] at h
   split at h
   ·rename_i u o;cases h;exact⟨d,.refl _,m u o⟩
   ·cases h
  ·rw[A] at h;cases h;refine⟨d,.refl _,λv' f S=> ?_⟩;rw[Df 8 _ _ A f];exact Ar 8 _ A
 ·split at h
  ·rename_i u o;cases h;exact⟨d,.refl _,m u o⟩
  ·cases h
 ·rename_i t
  split at h
  ·cases h;refine⟨d.add (d.src.add_nil t) (λk e=>by cases e) λι0 e S _=>⟨?_,λk v p=>by cases p⟩,⟨_,rfl⟩,λv' f S=> ?_⟩
   ·exact Am.at (ι:=λ_=>Ge ι (.nil t)) (k:=0) ⟨.inl ⟨⟨_,_,rfl⟩,rfl⟩,rfl,rfl,λb c h=>by cases h⟩ e
   ·cases f;have i:=D4 (G:=G) (ι:=ι) (S:=C.srcs) (T:=S) (s:=.nil t);rw[d.len] at i;simp only[List.append_assoc,List.singleton_append];exact .dat _ _ _ _ (by simp) (by rw[i];rfl)
  ·rename_i y
   split at h
   ·rename_i id z
    split at h
    ·rename_i J K x
     split at h
     ·rename_i B;subst B;cases h;refine⟨d.add (d.src.add_dat x) (λk e I=>by cases I) λι0 e S _=>⟨(hall.hd id _ (St.hdr_of x)).at e,λk v p=>by cases p⟩,⟨_,rfl⟩,λv' f S=> ?_⟩;rw[BG z] at f;obtain⟨a,l,c,rfl,E,n⟩:=Cz f;have i:=D4 (G:=G) (ι:=ι) (S:=C.srcs) (T:=S) (s:=.id id)
      rw[d.len] at i;simp only[List.append_assoc,List.singleton_append];exact .dat _ _ _ _ (by simp) (by rw[i];exact n)
     ·cases h
    ·cases h
   ·cases h
  ·cases h
 ·rename_i t e
  split at h
  ·cases h;refine⟨d.add (d.src.add_nil t) (λk e=>by cases e) λι0 e S _=>⟨?_,λk v p=>by cases p⟩,⟨_,rfl⟩,λv' f S=> ?_⟩
   ·exact Am.at (ι:=λ_=>Ge ι (.nil t)) (k:=0) ⟨rfl,λb c h=>(by cases h),.inl ⟨rfl,rfl,none,rfl⟩⟩ e
   ·cases f;have i:=D4 (G:=G) (ι:=ι) (S:=C.srcs) (T:=S) (s:=.nil t);rw[d.len] at i;simp only[List.append_assoc,List.singleton_append];exact .dat _ _ _ _ (by simp) (by rw[i];rfl)
  ·rename_i y
   split at h
   ·rename_i id z
    split at h
    ·rename_i J K L x
     split at h
     ·rename_i B;subst B;cases g:(Nat.beq L e&& !Cv id C.srcs)
      ·rw[g] at h;cases h
      rw[g,cond_true] at h;rw[Bool.and_eq_true] at g;have F:=Nat.eq_of_beq_eq_true g.1;subst F;have o:Cv id C.srcs=false:=by simpa using g.2
      cases h;refine⟨d.add (d.src.add_own ⟨_,St.hdr_of x,trivial⟩ o) (λk e I=> ?_) λι0 e S _=>⟨(hall.hd id _ (St.hdr_of x)).at e,λk v p=>by cases p⟩,⟨_,rfl⟩,λv' f S=> ?_⟩
      ·cases e;exact⟨_,St.hdr_of x,trivial⟩
      rw[BG z] at f;obtain⟨a,l,c,rfl,E,n⟩:=Cz f;have i:=D4 (G:=G) (ι:=ι) (S:=C.srcs) (T:=S) (s:=.id id);rw[d.len] at i;simp only[List.append_assoc,List.singleton_append];exact .dat _ _ _ _ (by simp) (by rw[i];exact n)
     ·cases h
    ·cases h
   ·cases h
  ·cases h
 ·rename_i k
  split at h
  ·rename_i y
   split at h
   ·rename_i id z
    split at h
    ·rename_i j q;cases g:Nat.beq j id
     ·rw[g] at h;cases h
     rw[g,cond_true] at h;have g:=Nat.eq_of_beq_eq_true g;subst g;cases h;refine⟨d,.refl _,λv' f S=> ?_⟩;rw[BG z] at f;obtain⟨a,l,c,rfl,E,n⟩:=Cz f;have r:k<C.srcs.length:=by
      rcases Nat.lt_or_ge k C.srcs.length with h|h
      ·exact h
      ·rw[List.getElem?_eq_none h] at q;cases q
     have i:B3 G ι (C.srcs++S) (G+k)=ι j:=by
      unfold B3;rw[if_neg (by omega),Nat.add_sub_cancel_left,List.getElem?_append_left r,q];rfl
     exact .dat _ _ _ _ (by rw[<-d.len];omega) (by rw[i];exact n)
    ·cases h
   ·cases h
  ·cases h
 ·rename_i k
  split at h
  ·rename_i id
   split at h
   ·rename_i j q;cases g:Nat.beq j id
    ·rw[g] at h;cases h
    rw[g,cond_true] at h;have g:=Nat.eq_of_beq_eq_true g;subst g;cases h;refine⟨d,.refl _,λv' f S=> ?_⟩;obtain⟨rfl,E⟩:=f.ptr_inv;have r:k<C.srcs.length:=by
     rcases Nat.lt_or_ge k C.srcs.length with h|h
     ·exact h
     ·rw[List.getElem?_eq_none h] at q;cases q
    have i:B3 G ι (C.srcs++S) (G+k)=ι j:=by
     unfold B3;rw[if_neg (by omega),Nat.add_sub_cancel_left,List.getElem?_append_left r,q];rfl
    have:=VR.ptr (D:=λc=>c<G+C.objs.length) (ι:=B3 G ι (C.srcs++S)) (G+k) 0 (by rw[<-d.len];omega);rw[i] at this;exact this
   ·cases h
  ·cases h
theorem SI (hall:HAll P D ι σ.H w):∀{c:List Sh1} {vs a:List Value} {C C':Can},kg G σ c vs C=some (a,C')->CanOK P G σ ι w C->CanOK P G σ ι w C'/\bH C C'/\a.length=vs.length/\∀(k:Nat) v v0,vs[k]?=some v->a[k]?=some v0->VC D ι G C' v v0
 |[],[],a,C,C',h,d=>by
  simp only[kg,Option.some.injEq,Prod.mk.injEq] at h;obtain⟨rfl,rfl⟩:=h;exact⟨d,.refl _,rfl,λk v v0 j=>by simp at j⟩
 |[],_::_,a,C,C',h,d=>by simp[kg] at h
 |_::_,[],a,C,C',h,d=>by simp[kg] at h
 |sh::c,v::vs,a,C,C',h,d=>by
  simp only[kg] at h
  split at h
  ·rename_i v0 C1 l
   split at h
   ·rename_i m C2 n;cases h;obtain⟨f,a2,a3⟩:=gG hall l d;obtain⟨g,i,o,p⟩:=SI hall n f;refine⟨g,a2.trans i,by simp[o],λk u q e b=> ?_⟩;rcases k with _|k
    ·simp only[List.getElem?_cons_zero,Option.some.injEq] at e b;subst e b;exact a3.more f g i
    ·exact p k u q (by simpa using e) (by simpa using b)
   ·cases h
  ·cases h
theorem W4 (hall:HAll P D ι σ.H w) {sh:Sh} {v v0:Value} {C C':Can} (h:v8 G σ sh v C=some (v0,C')) (t:CanOK P G σ ι w C):CanOK P G σ ι w C'/\bH C C'/\VC D ι G C' v v0:=by
 unfold v8 at h
 split at h
 ·exact gG hall h t
 ·rename_i p
  split at h
  ·rename_i id
   split at h
   ·rename_i g e f
    split at h
    ·rename_i a C1 d;cases n:Cv id C1.srcs
     case true=>rw[n] at h;cases h
     rw[n] at h;cases h;obtain⟨j,a2,a3,a4⟩:=SI hall d t;have hd:=hall.hd id _ (St.hdr_of f);refine⟨j.add (j.src.add_own ⟨_,St.hdr_of f,rfl⟩ n) (λk e F=> ?_) λι0 e S z=>⟨?_,λk v m=> ?_⟩,a2.trans ⟨_,rfl⟩,λv' q S=> ?_⟩
     ·cases e;exact⟨_,St.hdr_of f,rfl⟩
     ·have:=hd.at e;simp only[AO.hd] at this⊢;rw[a3];exact this
     ·simp only[DH] at m;have b:k<g.length:=by
       rcases Nat.lt_or_ge k a.length with h|h
       ·omega
       ·rw[List.getElem?_eq_none h] at m;cases m
      obtain⟨A,v',B,E⟩:=hall.ce id k g[k] (St.lv_of f) (by rw[St.cell_of f];exact List.getElem?_eq_getElem b);refine⟨by rw[e];exact A,v',by rw[e];exact B,?_⟩;have:=a4 k g[k] v (List.getElem?_eq_getElem b) m v' E (.id id::S);rw[<-z] at this;exact this.mono (λc d=>by have d:c<G+C1.objs.length:=d;show c<G+(C1.objs.length+1);omega) λ_ _=>rfl
     ·obtain⟨rfl,O⟩:=q.ptr_inv;have o:=D4 (G:=G) (ι:=ι) (S:=C1.srcs) (T:=S) (s:=.id id);rw[j.len] at o;simp only[List.append_assoc,List.singleton_append];have:=VR.ptr (D:=λc=>c<G+(C1.objs++[AO.row a e false]).length) (ι:=B3 G ι (C1.srcs++Src.id id::S)) (G+C1.objs.length) 0 (by simp);rw[o] at this
      exact this
    ·cases h
   ·cases h
  ·cases h
 ·rename_i p
  split at h
  ·rename_i g
   split at h
   ·rename_i a C1 d;cases h;obtain⟨j,a2,a3,a4⟩:=SI hall d t;refine⟨j,a2,λv' q S=> ?_⟩;cases q with
    |agg _ bs I J=>
     refine .agg _ _ (by simp[a3,I]) λi x y u K=> ?_
     simp only[List.getElem?_toArray] at u;have b:i<g.toList.length:=by
      rcases Nat.lt_or_ge i a.length with h|h
      ·omega
      ·rw[List.getElem?_eq_none h] at u;cases u
     exact a4 i g.toList[i] x (List.getElem?_eq_getElem b) u y (J i _ y (by rw[<-Array.getElem?_toList];exact List.getElem?_eq_getElem b) K) S
   ·cases h
  ·cases h
 ·rename_i p
  split at h
  ·rename_i id l c
   split at h
   ·rename_i g e f
    split at h
    ·rename_i a C1 d;cases n:Cv id C1.srcs
     case true=>rw[n] at h;cases h
     rw[n] at h;cases h;obtain⟨j,a2,a3,a4⟩:=SI hall d t;have hd:=hall.hd id _ (St.hdr_of f);refine⟨j.add (j.src.add_own ⟨_,St.hdr_of f,rfl⟩ n) (λk e F=> ?_) λι0 e S z=>⟨?_,λk v m=> ?_⟩,a2.trans ⟨_,rfl⟩,λv' q S=> ?_⟩
     ·cases e;exact⟨_,St.hdr_of f,rfl⟩
     ·have:=hd.at e;simp only[AO.hd] at this⊢;rw[a3];exact this
     ·simp only[DH] at m;have b:k<g.length:=by
       rcases Nat.lt_or_ge k a.length with h|h
       ·omega
       ·rw[List.getElem?_eq_none h] at m;cases m
      obtain⟨A,v',B,E⟩:=hall.ce id k g[k] (St.lv_of f) (by rw[St.cell_of f];exact List.getElem?_eq_getElem b);refine⟨by rw[e];exact A,v',by rw[e];exact B,?_⟩;have:=a4 k g[k] v (List.getElem?_eq_getElem b) m v' E (.id id::S);rw[<-z] at this;exact this.mono (λc d=>by have d:c<G+C1.objs.length:=d;show c<G+(C1.objs.length+1);omega) λ_ _=>rfl
     ·have o:=D4 (G:=G) (ι:=ι) (S:=C1.srcs) (T:=S) (s:=.id id);rw[j.len] at o;simp only[List.append_assoc,List.singleton_append];have r:G+C1.objs.length<G+(C1.objs++[AO.row a e false]).length:=by simp
      cases q with
      |slK _ _ _ _ hd d=>
       have:=VR.slK (D:=λc=>c<G+(C1.objs++[AO.row a e false]).length) (ι:=B3 G ι (C1.srcs++Src.id id::S)) (G+C1.objs.length) 0 l c r d;rw[o] at this;exact this
      |slU _ _ _ L hd M N=>
       have:=VR.slU (D:=λc=>c<G+(C1.objs++[AO.row a e false]).length) (ι:=B3 G ι (C1.srcs++Src.id id::S)) (G+C1.objs.length) 0 l L r M (by rw[o];exact N);rw[o] at this;exact this
    ·cases h
   ·cases h
  ·cases h
 ·cases h
theorem wB (hall:HAll P D ι σ.H w) {sh:Sh} {v v0:Value} {C C':Can} (h:cv G σ sh v C=some (v0,C')) (a:CanOK P G σ ι w C):CanOK P G σ ι w C'/\bH C C'/\VC D ι G C' v v0:=by
 unfold cv at h
 split at h
 ·split at h
  ·split at h
   ·rename_i u _ g C1 b;obtain⟨c,a2, -⟩:=W4 hall b a;obtain⟨d,e,f⟩:=W4 hall h c;exact⟨d,a2.trans e,f⟩
   ·cases h
  ·cases h
 ·exact W4 hall h a
theorem Oo (hall:HAll P D ι σ.H w) {s:Tr Value}:∀{l:List (Nat×Sh)} {r:List (Nat×Value)} {C C':Can},KL G σ s l C=some (r,C')->CanOK P G σ ι w C->CanOK P G σ ι w C'/\bH C C'/\∀t v0,(t,v0)∈r->∃v,s.get t=some v/\VC D ι G C' v v0
 |[],r,C,C',h,a=>by
  simp only[KL,Option.some.injEq,Prod.mk.injEq] at h;obtain⟨rfl,rfl⟩:=h;exact⟨a,.refl _,λt v0 hm=>by cases hm⟩
 |(t,sh)::l,r,C,C',h,a=>by
  simp only[KL] at h
  split at h
  ·rename_i v f
   split at h
   ·rename_i v' C1 g
    split at h
    ·rename_i m C2 i;cases h;obtain⟨b,a2,a3⟩:=wB hall g a;obtain⟨c,d,j⟩:=Oo hall i b;refine⟨c,a2.trans d,λk v0 hm=> ?_⟩;rcases List.mem_cons.1 hm with e|hm
     ·cases e;exact⟨v,f,a3.more b c d⟩
     ·exact j k v0 hm
    ·cases h
   ·cases h
  ·cases h
theorem Yr:∀{l:List (Nat×Value)} {t:Nat} {v:Value},(kh l).get t=some v->(t,v)∈l
 |[],t,v,h=>by rw[kh,Tr.get_lf] at h;cases h
 |(a,v')::l,t,v,h=>by
  rw[kh,Tr.set_get] at h;by_cases e:t=a
  ·rw[if_pos e] at h;cases h;subst e;simp
  ·rw[if_neg e] at h;exact List.mem_cons_of_mem _ (Yr h)
theorem SJ:∀(os:List AO) (k:Nat) (h:Tr AO) (j:Nat),(wA k os h).get j=if k<=j/\j<k+os.length then os[j-k]? else h.get j
 |[],k,h,j=>by rw[wA,if_neg (by simp only[List.length_nil];omega)]
 |o::os,k,h,j=>by
  rw[wA,SJ os (k+1),Tr.set_get];simp only[List.length_cons];by_cases e:j=k
  ·subst e;rw[if_neg (by omega),if_pos rfl,if_pos (by omega)];simp
  ·by_cases a:k+1<=j/\j<k+1+os.length
   ·rw[if_pos a,if_pos (by omega),show j-k=(j-(k+1))+1 by omega];simp
   ·rw[if_neg a,if_neg e,if_neg (by omega)]
theorem Lj:∀{gl:List (Nat×List Value)},On σ gl=true->∀p,p∈gl->σ.heap.get p.1=some (.row p.2 0 true)
 |[],_,p,a=>by cases a
 |q::e,h,p,a=>by
  simp only[On] at h
  split at h
  ·rename_i c d;cases b:VJ c q.2
   ·rw[b] at h;cases h
   ·rw[b,cond_true] at h;rcases List.mem_cons.1 a with rfl|a
    ·rw[d,RE b]
    ·exact Lj h p a
  ·cases h
theorem Lk {G:Nat} {srcs:List Src}:∀{b:List Nat},pinned G srcs b=true->∀k,k∈b->G<=k/\srcs[k-G]?=some (Src.id k)
 |[],_,_,h=>by cases h
 |k::b,h,j,c=>by
  simp only[pinned] at h
  split at h
  ·rename_i i d;cases a:(Nat.beq i k&&Nat.ble G k)
   ·rw[a] at h;cases h
   rw[a,cond_true] at h;rw[Bool.and_eq_true] at a;have e:=Nat.eq_of_beq_eq_true a.1;subst e;rcases List.mem_cons.1 c with rfl|c
   ·exact⟨Nat.le_of_ble_eq_true a.2,d⟩
   ·exact Lk h j c
  ·cases h
theorem Up (hE:E.OK P) {nt:Nat} {pin:List (Nat×Reg)} {w0:World} {O z0:Nat->Prop} {s:Tr Value} {a:Act} {shs:List (Nat×Sh)} {l:List (Nat×Value)} {objs:List AO} {ora:List Nat} (h:gF E (pin.map (·.1)) shs s σ=some (l,objs)) (hs:Jc P E nt pin w0 O z0 s σ a w):
  Jc P E nt pin w0 O z0 (kh l) (L7 E objs ora) a w:=by
 obtain⟨D,ι,hwf,hG,hD,V,hall,hdf,q1,q2,q3,q4,q5,q6,q7⟩:=hs;unfold gF at h
 split at h
 ·rename_i l' C hc;cases Q:(On σ E.gl&&pinned E.G C.srcs (pin.map (·.1)))
  ·rw[Q] at h;cases h
  rw[Q,cond_true] at h;rw[Bool.and_eq_true] at Q;obtain⟨Q,hpn⟩:=Q;simp only[Option.some.injEq,Prod.mk.injEq] at h;obtain⟨rfl,rfl⟩:=h;have Q:=Lj Q;obtain⟨N, -,a3⟩:=Oo (G:=E.G) hall hc ⟨rfl,⟨λi k h=>by simp at h,λi k h=>by simp at h,λi j k h=>by simp at h⟩,λi o k h=>by simp at h,λi o S h=>by simp at h⟩
  have f:∀c,c<E.G->B3 E.G ι C.srcs c=ι c:=λc hc=>by unfold B3;rw[if_pos hc]
  have m:∀c o,(L7 E C.objs ora).heap.get c=some o->(c<E.G/\∃p,p∈E.gl/\p.1=c/\o=.row p.2 0 true/\σ.heap.get c=some o)\/∃i,c=E.G+i/\C.objs[i]?=some o:=by
   intro c o I;simp only[L7,SJ] at I
   split at I
   ·rename_i hr;exact .inr ⟨c-E.G,by omega,I⟩
   ·obtain⟨p,n,r,R⟩:=DA I;refine .inl ⟨r▸(hE.gl p n).1,p,n,r,R,?_⟩;rw[<-r,Q p n,R]
  have T:∀i o,C.objs[i]?=some o->Qp P (λc=>c<E.G+C.objs.length) (B3 E.G ι C.srcs) (E.G+i) w o:=λi o u=>by
   have:=N.obj i o [] u;rwa[List.append_nil] at this
  have K:∀i o,C.objs[i]?=some o->∃U,C.srcs[i]?=some U/\B3 E.G ι C.srcs (E.G+i)=Ge ι U:=λi o u=>by
   have d:i<C.objs.length:=by
    rcases Nat.lt_or_ge i C.objs.length with h|h
    ·exact h
    ·rw[List.getElem?_eq_none h] at u;cases u
   have e:C.srcs[i]?=some (C.srcs[i]'(by rw[N.len];exact d)):=List.getElem?_eq_getElem _;refine⟨_,e,?_⟩;unfold B3;rw[if_neg (by omega),Nat.add_sub_cancel_left,e]
  have J:∀c x,(L7 E C.objs ora).H.hdr c=some x->∃o,(L7 E C.objs ora).heap.get c=some o/\x=o.hd:=λc x A=>by
   simp only[St.H] at A;cases B:(L7 E C.objs ora).heap.get c with
   |none=>rw[B] at A;cases A
   |some o=>rw[B] at A;cases A;exact⟨o,rfl,rfl⟩
  refine⟨λc=>c<E.G+C.objs.length,B3 E.G ι C.srcs,λid hid=> ?_,λg hgl=> ?_,λid h=>h,⟨V.1,λt v ht=> ?_⟩,⟨λc x A=> ?_,λc k v hl W=> ?_,λi j li lj hij b q=> ?_⟩,hdf,q1,q2,q3,q4,λc hw b q=> ?_,λc hl b q=> ?_,λp hp=> ?_⟩
  ·have hid:E.G+C.objs.length<=id:=hid;simp only[L7,SJ,if_neg (show ¬(E.G<=id/\id<E.G+C.objs.length) by omega)];cases hgh:(Eh E.gl).get id with
   |none=>rfl
   |some o=>
    obtain⟨p,n,r,_⟩:=DA hgh;have:=(hE.gl p n).1;omega
  ·obtain⟨g1,g2,g3⟩:=hG g hgl;rw[f g hgl];exact⟨by omega,g2,g3⟩
  ·obtain⟨v1,n,r⟩:=a3 t v (Yr ht);refine⟨(V.2 t v1 n).1,?_⟩;have:=r _ (V.2 t v1 n).2 [];rwa[List.append_nil] at this
  ·obtain⟨o,B,rfl⟩:=J c x A;rcases m c o B with⟨d,p,n,r,rfl,z⟩|⟨i,rfl,u⟩
   ·exact(hall.hd c _ (St.hdr_of z)).at (f c d)
   ·exact(T i o u).1
  ·obtain⟨x,A⟩:=hl;obtain⟨o,B,rfl⟩:=J c x A;simp only[St.H,B] at W;rcases m c o B with⟨d,p,n,r,rfl,z⟩|⟨i,rfl,u⟩
   ·obtain⟨o1,v',o2,o3⟩:=hall.ce c k v (St.lv_of z) (by simp only[St.H,z];exact W);have hp:rV v=true:=List.all_eq_true.1 (hE.gl p n).2 v (List.mem_of_getElem? (by simpa[DH] using W));refine⟨by rw[f c d];exact o1,v',by rw[f c d];exact o2,?_⟩;exact(bC.of hp o3).vr
   ·exact(T i o u).2 k v W
  ·obtain⟨x,A,L⟩:=li;obtain⟨y,hy⟩:=lj;obtain⟨o,B,rfl⟩:=J i x A;obtain⟨o',ho',rfl⟩:=J j y hy;have F:∀t b,¬(Ge ι (.nil t)).Own b/\¬(Ge ι (.nil t)).Fz b:=λt b=>⟨λh=>(by cases h.1),λ⟨c,h⟩=>(by cases h)⟩
   have M:∀c o,(L7 E C.objs ora).heap.get c=some o->(∃t,B3 E.G ι C.srcs c=Ge ι (.nil t))\/∃k,B3 E.G ι C.srcs c=ι k/\Lv σ.H k/\((c<E.G/\k=c/\∃X,σ.heap.get k=some (.row X 0 true))\/∃i,c=E.G+i/\C.srcs[i]?=some (Src.id k)/\(o.hd.wr\/True)/\C.objs[i]?=some o):=by
    intro c o I;rcases m c o I with⟨d,p,n,r,rfl,z⟩|⟨i,rfl,u⟩
    ·exact .inr ⟨c,f c d,St.lv_of z,.inl ⟨d,rfl,_,z⟩⟩
    ·obtain⟨U,Y,Z⟩:=K i o u;cases U with
     |nil t=>exact .inl ⟨t,Z⟩
     |id k=>exact .inr ⟨k,Z,N.src.lv i k Y,.inr ⟨i,rfl,Y,.inr trivial,u⟩⟩
   rcases M i o B with⟨t,e⟩|⟨k,e,lk,W⟩
   ·rw[e] at q;exact absurd q (F t b).1
   ·rcases M j o' ho' with⟨t,e'⟩|⟨k',e',lk',hk'⟩
    ·rw[e'];exact F t b
    ·rw[e] at q;rw[e'];by_cases hkk:k=k'
     ·subst hkk;exfalso;rcases W with⟨n,rfl,X,R⟩|⟨i1,rfl,r,_,R⟩
      ·rcases hk' with⟨_,rfl,_⟩|⟨j1,rfl,z,_,h5⟩
       ·exact hij rfl
       ·exact N.src.nro j1 _ z X R
      ·rcases hk' with⟨n,rfl,X,z⟩|⟨j1,rfl,z,_,h5⟩
       ·exact N.src.nro i1 _ r X z
       ·obtain⟨t,xs,hd⟩:=N.src.one i1 j1 k r z λe=>hij (by rw[e])
        obtain⟨_,_,h,_⟩:=hall.hd k _ (St.hdr_of hd);rw[q.1] at h;cases h
     ·have hwk:Wr σ.H k:=by
       rcases W with⟨n,rfl,X,R⟩|⟨i1,rfl,r,_,R⟩
       ·rcases m _ o B with⟨_,p,_,_,rfl,_⟩|⟨i',e',_⟩
        ·cases L
        ·omega
       ·exact N.wr i1 o k R r L
      exact hall.inj k k' hwk lk' hkk b q
  ·obtain⟨x,A,L⟩:=hw;obtain⟨o,B,rfl⟩:=J c x A;rcases m c o B with⟨d,p,n,r,rfl,z⟩|⟨i,rfl,u⟩
   ·cases L
   ·obtain⟨U,Y,Z⟩:=K i o u;rw[Z] at q;cases U with
    |nil t=>cases q.1
    |id k=>exact q5 k (N.wr i o k u Y L) b q
  ·obtain⟨x,A⟩:=hl;obtain⟨o,B,rfl⟩:=J c x A;rcases m c o B with⟨d,p,n,r,rfl,z⟩|⟨i,rfl,u⟩
   ·rw[f c d] at q;exact q6 c (St.lv_of z) b q
   ·obtain⟨U,Y,Z⟩:=K i o u;rw[Z] at q;cases U with
    |nil t=>obtain⟨c,q⟩:=q;cases q
    |id k=>exact q6 k (N.src.lv i k Y) b q
  ·obtain⟨k1,k2⟩:=Lk hpn p.1 (List.mem_map_of_mem hp);have d:p.1-E.G<C.objs.length:=by
    rw[<-N.len];rcases Nat.lt_or_ge (p.1-E.G) C.srcs.length with h|h
    ·exact h
    ·rw[List.getElem?_eq_none h] at k2;cases k2
   refine⟨by omega,?_⟩;have:B3 E.G ι C.srcs p.1=ι p.1:=by
    unfold B3;rw[if_neg (by omega),k2];rfl
   rw[this];exact(q7 p hp).2
 ·cases h
