/-
  Part of the proof. No condition.
-/
import Derived.Test.YtkgejlchafionaaGreatDoorG6
open Bool renaming and_assoc->L5,and_eq_true->A0,false->AK,false_or->Iz,true->AD,true_and->Cz
open Decidable renaming decide->AG
open Eq renaming trans->FL
open Go.Op renaming bytesLess->CG
open Go.Value renaming slice->RG
open Int renaming natCast_add->Dz,natCast_one->Fb,tmod_eq_emod_of_nonneg->O7
open List renaming all_eq_true->C8,append_assoc->C9,append_nil->Ce,cons_append->Gk,drop_eq_getElem_cons->Ef,drop_eq_nil_of_le->GY,drop_zero->Do,filter_cons_of_pos->AAS,flatMap_cons->jD,getD_eq_getElem?_getD->Bg,getElem?_eq_getElem->B4,getElem_mem->EK,length_append->BA,length_cons->B7,length_map->Eg,length_nil->E8,length_singleton->EL,mem_cons->Dv,nil_append->DN,take->Ko
open List.cons renaming inj->FP
open Nat renaming beq->Af,le_refl->Ak,le_trans->Ea,lt_of_le_of_lt->O8,zero_add->CJ,zero_le->Cx
open Option renaming none->AF,some->AC
open _root_ renaming Bool->AH,Int->AA,List->AE,Nat->AB,Option->AP,beq_eq_false_iff_ne->CE,beq_iff_eq->Be,decide_eq_false->BP,decide_eq_true->BK,decide_eq_true_eq->A6,of_decide_eq_true->BL,rfl->AL,trivial->A3
set_option maxRecDepth 1000000
open Go Go.Eng
noncomputable section
namespace Nice
def RB(s:U0)(nx:L8->BS):BS:=bif Kk s then gd [IW s] (nx jL)else gd [IW s] (sO [])
abbrev gNW(t k:L8)(i:AA):AE AH:=[AG (A4 .i64 (i+1)),AG (t.length+(JM k).length<=1099511627776),AG ((SU++k).length+7<=1099511627776),AG (6+k.length<=1099511627776)]
theorem yI{t k:L8}{i:AA}(a:0<=i)(b:i<=1099511627776)(c:t.length<=549755813888)(d:k.length<=40){α:Type}(q:AE AH)(y:AP α):gd (gNW t k i++q) y=gd q y:=by
 have e:(JM k).length=13+k.length:=by
  unfold JM;rw[BA,BA,show SU.length=6 from AL,show H9.length=7 from AL];omega
 have f:(SU++k).length=6+k.length:=by rw[BA,show SU.length=6 from AL]
 unfold gNW;simp only[Gk,DN];rw[An (AZ.2 ⟨by omega,by omega⟩),An (by omega),An (by omega),An (by omega)]
def QK(k:AE (L8))(t:L8)(m i:AA)(nx:L8->BS)(a:BS):BS:=
 bif AG (i<m)then gd (gNW t (k.getD i.toNat Ty.str.dflt) i++gI k i) (nx (t++JM (k.getD i.toNat Ty.str.dflt)))else a
def ej(l:AE AX)(t:L8)(m i:AA)(nx:L8->BS)(a:BS):BS:=
 bif AG (i<m)then gd ([AG (A4 .i64 (i+1)),AG (t.length+(NA ((l.getD i.toNat (AW).dflt).1,(l.getD i.toNat (AW).dflt).2.1,())).length<=1099511627776),Cd ((l.getD i.toNat (AW).dflt).1,(l.getD i.toNat (AW).dflt).2.1,())]++gI l i) (nx (t++NA ((l.getD i.toNat (AW).dflt).1,(l.getD i.toNat (AW).dflt).2.1,())))else a
def exP(b:AH)(x t:L8):BS:=
 bif b then gd [AG ((t++(Ml++x++SX)).length+7<=1099511627776),AG (t.length+(Ml++x++SX).length<=1099511627776),AG ((Ml++x).length+7<=1099511627776),AG (6+x.length<=1099511627776)] (sO (t++(Ml++x++SX)++W9))
 else gd [AG (t.length+7<=1099511627776)] (sO (t++W9))
theorem yJ(b:AH){x t:L8}(c:x.length<=40)(d:t.length<=549755813888):exP b x t=AC (t++VV b x++W9,()):=by
 have a:(Ml++x++SX).length=13+x.length:=by
  rw[BA,BA,show Ml.length=6 from AL,show SX.length=7 from AL];omega
 have e:(Ml++x).length=6+x.length:=by rw[BA,show Ml.length=6 from AL]
 have f:(t++(Ml++x++SX)).length=t.length+(13+x.length):=by rw[BA,a]
 unfold exP;cases b
 ·rw[xF,An (by omega),xG];show sO _=sO (t++[]++W9);rw[Ce]
 ·rw[xT,An (by omega),An (by omega),An (by omega),An (by omega),xG];rfl
theorem WV{s:U0}(h:Kk s=AD):(∀k,k∈s.1->isKey k=AD)/\(∀e,e∈s.2.1->Cd e=AD)/\s.1.length<=20/\s.2.1.length<=20/\s.2.2.2.1.length<=40:=by
 unfold Kk at h;rw[A0,A0,A0,A0,A6,C8]at h;obtain⟨_,i,m,o,f⟩:=h;have n:(Dc s.1 s.2.1).length=s.1.length+s.2.1.length:=by unfold Dc;rw[BA,Eg]
 have hall:∀(l:AE (L8)) (t:L8),Je t l=AD->∀k,k∈l->isKey k=true:=λl=>by
  induction l with
  |nil=>intro t _ k c;cases c
  |cons a l g=>
   intro t b k c;rw[ANJ,A0,A0]at b;rcases Dv.1 c with rfl|c
   ·exact b.1
   ·exact g a b.2.2 k c
 have d:∀(l:AE (L8)) (t:L8),t.length<=40->Je t l=AD->(Hq t l).length<=40:=λl=>by
  induction l with
  |nil=>intro t b _;exact b
  |cons a l g=>
   intro t _ b;rw[ANJ,A0,A0]at b;exact g a (D8 b.1) b.2.2
 refine⟨λk c=>hall _ [] i k (List.mem_append_left _ c),m,by omega,by omega,?_⟩;cases j:s.2.2.1
 ·rw[j,xF,Be]at f;rw[f];exact Cx _
 ·rw[j,xT,A0,Be]at f;rw[f.2];exact d _ [] (Cx _) i
end Nice
namespace Go.Proofs.YtkgejlchafionaaGreatDoor
open Tryz
open Nice Go.RowKit
abbrev ek:AE (AB×AE (AB×Sh)):=[(5,[(1,(.obj [(.dat .str),(.dat AW),.sym,.sym])),(2,(.one .sym)),(3,(.one .sym)),(12,(.one (.dat .str))),(13,(.one .sym)),(14,(.one .sym))]),(10,[(1,(.obj [(.dat .str),(.dat AW),.sym,.sym])),(2,(.one .sym)),(3,(.one .sym)),(25,(.one (.dat AW))),(26,(.one .sym)),(27,(.one .sym))])]
def lH(N:AB)(n:AE (L8))(l:AE AX)(b:AH)(x t:L8)(k:AE (L8))(m i:AA):BS:=rH prog (Aj [(119,Ls),(120,QN)]) (AV ek) f78 [.str] N 0 [(1,.pointer (AC ⟨12,0,AF⟩)),(2,sy (.string (bs []))),(3,sy (.string (bs t))),(12,dt 13),(13,sy (.int .i64 m)),(14,sy (.int .i64 i))] [.dat .str n,.dat AW l,.row [dt 10,dt 11,.bool b,sy (.string (bs x))] 139 AK,.dat .str k]
def bD(N:AB)(n:AE (L8))(l:AE AX)(b:AH)(x t:L8)(k:AE AX)(m i:AA):BS:=rH prog (Aj [(119,Ls),(120,QN)]) (AV ek) f78 [.str] N 1 [(1,.pointer (AC ⟨12,0,AF⟩)),(2,sy (.string (bs []))),(3,sy (.string (bs t))),(25,dt 13),(26,sy (.int .i64 m)),(27,sy (.int .i64 i))] [.dat .str n,.dat AW l,.row [dt 10,dt 11,.bool b,sy (.string (bs x))] 139 AK,.dat AW k]
def osp(x:AM [K9]):BS:=fO prog (Aj [(119,Ls),(120,QN)]) (AV ek) f78 [K9] [.str] x
theorem AII(x:AM [K9]):osp x=Cy prog (Aj [(119,Ls),(120,QN)]) (AV ek) f78 [K9] [.str] AU x:=AL
theorem AD4(N:AB)(n:AE (L8))(l:AE AX)(x:L8):Cy prog (Aj [(119,Ls),(120,QN)]) (AV ek) f78 [K9] [.str] N ((n,l,AD,x,()),())=RB (n,l,AD,x,()) (λt=>lH N n l AD x t n (n.length:AA) 0):=by kernel_rfl
theorem AD5(N:AB)(n:AE (L8))(l:AE AX)(x:L8):Cy prog (Aj [(119,Ls),(120,QN)]) (AV ek) f78 [K9] [.str] N ((n,l,AK,x,()),())=RB (n,l,AK,x,()) (λt=>lH N n l AK x t n (n.length:AA) 0):=by kernel_rfl
theorem AIJ(N:AB)(n:AE (L8))(l:AE AX)(b:AH)(x t:L8)(k:AE (L8))(m i:AA):lH (N+1) n l b x t k m i=QK k t m i (λa=>lH N n l b x a k m (i+1)) (bD N n l b x t l (l.length:AA) 0):=by kernel_rfl
theorem AIK(N:AB)(n:AE (L8))(l:AE AX)(b:AH)(x t:L8)(k:AE AX)(m i:AA):bD (N+1) n l b x t k m i=ej k t m i (λa=>bD N n l b x a k m (i+1)) (exP b x t):=by kernel_rfl
theorem AIL(n:AE (L8))(l:AE AX)(b:AH)(x:L8)(d:x.length<=40)(o:l.length<=20)(f:∀e,e∈l->Cd e=AD):∀(r i N:AB) (t:L8),l.length=i+r->r<N->t.length+1000*r<=549755813888->bD N n l b x t l (l.length:AA) (i:AA)=AC (t++(l.drop i).flatMap NA++VV b x++W9,()):=by
 intro r
 induction r with
 |zero=>
  intro i N t g hN h;obtain⟨N,rfl⟩:∃m,N=m+1:=⟨N-1,by omega⟩
  rw[AIK];unfold ej;rw[Bm (by omega),GY (by omega),yJ b d (by omega)];simp
 |succ r j=>
  intro i N t g hN h;obtain⟨N,rfl⟩:∃m,N=m+1:=⟨N-1,by omega⟩
  have a:i<l.length:=by omega
  have hd:l.drop i=l.getD i (AW).dflt::l.drop (i+1):=by
   rw[Ef a,Bg,B4 a];rfl
  have c:Cd (l.getD i (AW).dflt)=true:=f _ (by
   rw[Bg,B4 a];exact EK a)
  have k:=Yu c;have this:=j (i+1) N (t++NA (l.getD i (AW).dflt)) (by omega) (by omega) (by rw[BA];omega);simp only[Dz,Fb]at this;rw[AIK];unfold ej;simp only[Gk,DN];unfold gI;rw[Bn (by omega),show(i:AA).toNat=i from AL,show((l.getD i (AW).dflt).1,(l.getD i (AW).dflt).2.1,())=l.getD i (AW).dflt from AL,An (AZ.2 ⟨by omega,by omega⟩),An (by omega),BG c,An a,An (by omega),An (by omega),xG,this,hd,jD,C9 t]
theorem AIM(n:AE (L8))(l:AE AX)(b:AH)(x:L8)(c:x.length<=40)(d:l.length<=20)(f:∀e,e∈l->Cd e=AD)(q:n.length<=20)(g:∀k,k∈n->isKey k=AD):∀(r i N:AB) (t:L8),n.length=i+r->r+l.length+2<N->t.length+100*r<=274877906944->lH N n l b x t n (n.length:AA) (i:AA)=AC (t++(n.drop i).flatMap JM++l.flatMap NA++VV b x++W9,()):=by
 intro r
 induction r with
 |zero=>
  intro i N t h hN j;obtain⟨N,rfl⟩:∃m,N=m+1:=⟨N-1,by omega⟩
  have:=AIL n l b x c d f l.length 0 N t (by omega) (by omega) (by omega);rw[AIJ];unfold QK;rw[Bm (by omega),GY (by omega)];refine FL this ?_;simp
 |succ r o=>
  intro i N t h hN j;obtain⟨N,rfl⟩:∃m,N=m+1:=⟨N-1,by omega⟩
  have a:i<n.length:=by omega
  have hd:n.drop i=n.getD i []::n.drop (i+1):=by
   rw[Ef a,Bg,B4 a];rfl
  have p:=D8 (g (n.getD i []) (by
   rw[Bg,B4 a];exact EK a))
  have s:(JM (n.getD i [])).length=13+(n.getD i []).length:=by
   unfold JM;rw[BA,BA,show SU.length=6 from AL,show H9.length=7 from AL];omega
  have this:=o (i+1) N (t++JM (n.getD i [])) (by omega) (by omega) (by rw[BA];omega);simp only[Dz,Fb]at this;rw[AIJ];unfold QK;rw[Bn (by omega),show(i:AA).toNat=i from AL,show n.getD i Ty.str.dflt=n.getD i []from AL,yI (by omega) (by omega) (by omega) p]
  unfold gI;rw[show(i:AA).toNat=i from AL,An a,An (by omega),An (by omega),xG];refine FL this ?_;rw[hd,jD,C9 t]
theorem AIN{n:AE (L8)}{l:AE AX}{b:AH}{x:L8}(h:IW (n,l,b,x,())=AD):RB (n,l,b,x,()) (λt=>lH AU n l b x t n (n.length:AA) 0)=AC (LK (n,l,b,x,()),()):=by
 unfold RB LK;rw[BG h,BG h,xG,xG];cases d:Kk (n,l,b,x,())
 ·rfl
 ·obtain⟨e,f,a,c,g⟩:=WV d;have a:n.length<=20:=a;have c:l.length<=20:=c;have:=AIM n l b x g c f a e n.length 0 AU jL (by omega) (by unfold AU;omega) (by rw[show jL.length=6 from AL];omega);rw[Do]at this;exact this
theorem AD6:PC 78 VW:=(Ap (sh:=AV ek) (Ac (l:=[(119,Ls),(120,QN)]) ⟨ADE,AKl,A3⟩) Al func78 (by kernel_rfl) (by decide)).nice λ⟨⟨n,l,b,x,()⟩,()⟩ h=>by
 show osp _=AC (LK (n,l,b,x,()),());rw[AII];cases b
 ·rw[AD5];exact AIN h
 ·rw[AD4];exact AIN h
end Go.Proofs.YtkgejlchafionaaGreatDoor
namespace Nice
def YW(l:AE AX)(t:L8)(i:AA)(nx:L8->L8->AE BE->BS)(a:BS):BS:=
 bif AG (i<(l.length:AA))then gd ([AG (A4 .i64 (((l.getD i.toNat (AW).dflt).2.1.length:AA)-1)),AG (t.length+(PU++(l.getD i.toNat (AW).dflt).1++H9).length<=1099511627776),AG ((PU++(l.getD i.toNat (AW).dflt).1).length+7<=1099511627776),AG (11+(l.getD i.toNat (AW).dflt).1.length<=1099511627776)]++gI l i) (nx (t++(PU++(l.getD i.toNat (AW).dflt).1++H9)) (l.getD i.toNat (AW).dflt).1 (l.getD i.toNat (AW).dflt).2.1)else a
def YX(l:AE BE)(t:L8)(i j:AA)(nx a:L8->BS):BS:=
 bif AG (j>=0)then gd [Aw (l.getD j.toNat (A8).dflt).2.2.1,AG (j.toNat<l.length),AG (0<=j),AG (j<(l.length:AA))] (bif (l.getD j.toNat (A8).dflt).2.1 then
     gd (gV t j (D9 (l.getD j.toNat (A8).dflt).1) VU++(HN.pre ((l.getD j.toNat (A8).dflt).1,())::(gI l j++gI l j))) (nx (t++Ys (D9 (l.getD j.toNat (A8).dflt).1) VU))
  else gd (gV t j (D9 (l.getD j.toNat (A8).dflt).1) (M9 (l.getD j.toNat (A8).dflt).2.2.1)++(HN.pre ((l.getD j.toNat (A8).dflt).1,())::(gI l j++gI l j))) (nx (t++Ys (D9 (l.getD j.toNat (A8).dflt).1) (M9 (l.getD j.toNat (A8).dflt).2.2.1))))
 else gd [AG (A4 .i64 (i+1)),AG (t.length+6<=1099511627776)] (a (t++U1))
theorem qf{α β:Type}{l:AE α}{i:AB}(h:i<l.length)(q:AE AH)(y:AP β):gd (gI l (i:AA)++q) y=gd q y:=by
 unfold gI;simp only[Gk,DN];rw[show(i:AA).toNat=i from AL,An h,An (by omega),An (by omega)]
theorem ep{α β:Type}{l:AE α}{i:AB}(h:i<l.length)(y:AP β):gd (gI l (i:AA)) y=y:=by
 have:=qf h [] y;rw[Ce,xG]at this;exact this
end Nice
namespace Go.Proofs.YtkgejlchafionaaGreatDoor
open Tryz
open Nice Go.RowKit
abbrev bE:AE (AB×AE (AB×Sh)):=[(5,[(1,(.obj [(.dat .str),(.dat AW),.sym,.sym])),(2,(.one .sym)),(3,(.one .sym)),(4,(.one .sym))]),(9,[(1,(.obj [(.dat .str),(.dat AW),.sym,.sym])),(2,(.one .sym)),(3,(.one .sym)),(5,(.one .sym))]),(14,[(1,(.obj [(.dat .str),(.dat AW),.sym,.sym])),(2,(.one .sym)),(3,(.one .sym)),(5,(.one .sym)),(6,(.obj [.sym,(.dat A8)])),(7,(.one .sym))])]
abbrev ANn:Eng.Env:=Aj [(58,Ls),(31,HN),(30,W2)]
def lI(N:AB)(n:AE (L8))(l:AE AX)(b:AH)(x t:L8)(i:AA):BS:=rH prog ANn (AV bE) f32 [.str] N 0 [(1,.pointer (AC ⟨12,0,AF⟩)),(2,sy (.string (bs []))),(3,sy (.string (bs t))),(4,sy (.int .i64 i))] [.dat .str n,.dat AW l,.row [dt 10,dt 11,.bool b,sy (.string (bs x))] 94 AK]
def et(N:AB)(n:AE (L8))(l:AE AX)(b:AH)(x t:L8)(i:AA):BS:=rH prog ANn (AV bE) f32 [.str] N 1 [(1,.pointer (AC ⟨12,0,AF⟩)),(2,sy (.string (bs []))),(3,sy (.string (bs t))),(5,sy (.int .i64 i))] [.dat .str n,.dat AW l,.row [dt 10,dt 11,.bool b,sy (.string (bs x))] 94 AK]
def AOY(N:AB)(n:AE (L8))(l:AE AX)(b:AH)(x t:L8)(i:AA)(k:L8)(v:AE BE)(j:AA):BS:=rH prog ANn (AV bE) f32 [.str] N 2 [(1,.pointer (AC ⟨12,0,AF⟩)),(2,sy (.string (bs []))),(3,sy (.string (bs t))),(5,sy (.int .i64 i)),(6,.pointer (AC ⟨14,0,AF⟩)),(7,sy (.int .i64 j))] [.dat .str n,.dat AW l,.row [dt 10,dt 11,.bool b,sy (.string (bs x))] 94 AK,.dat A8 v,.row [sy (.string (bs k)),dt 13] 68 AK]
def orp(x:AM [K9]):BS:=fO prog ANn (AV bE) f32 [K9] [.str] x
theorem AIO(x:AM [K9]):orp x=Cy prog ANn (AV bE) f32 [K9] [.str] AU x:=AL
theorem AD7(N:AB)(n:AE (L8))(l:AE AX)(x:L8):Cy prog ANn (AV bE) f32 [K9] [.str] N ((n,l,AD,x,()),())=RB (n,l,AD,x,()) (λt=>lI N n l AD x t 0):=by kernel_rfl
theorem AD8(N:AB)(n:AE (L8))(l:AE AX)(x:L8):Cy prog ANn (AV bE) f32 [K9] [.str] N ((n,l,AK,x,()),())=RB (n,l,AK,x,()) (λt=>lI N n l AK x t 0):=by kernel_rfl
theorem AIP(N:AB)(n:AE (L8))(l:AE AX)(b:AH)(x t:L8)(i:AA):lI (N+1) n l b x t i=QK n t (n.length:AA) i (λa=>lI N n l b x a (i+1)) (et N n l b x t 0):=by kernel_rfl
theorem AIQ(N:AB)(n:AE (L8))(l:AE AX)(b:AH)(x t:L8)(i:AA):et (N+1) n l b x t i=YW l t i (λa k v=>AOY N n l b x a i k v ((v.length:AA)-1)) (exP b x t):=by kernel_rfl
theorem AIR(N:AB)(n:AE (L8))(l:AE AX)(b:AH)(x t:L8)(i:AA)(k:L8)(v:AE BE)(j:AA):AOY (N+1) n l b x t i k v j=YX v t i j (λa=>AOY N n l b x a i k v (j-1)) (λa=>et N n l b x a (i+1)):=by kernel_rfl
theorem AIS(n:AE (L8))(l:AE AX)(b:AH)(x:L8)(i:AB)(B:i<=20)(k:L8)(v:AE BE)(C:v.length<=12)(r:∀u,u∈v->DJ u=AD):∀(j N:AB) (t:L8),j<=v.length->j<N->t.length+100*j<=549755813888->AOY N n l b x t (i:AA) k v ((j:AA)-1)=et (N-j-1) n l b x (t++LJ (v.take j)++U1) ((i:AA)+1):=by
 intro j
 induction j with
 |zero=>
  intro N t _ hN s;obtain⟨N,rfl⟩:∃m,N=m+1:=⟨N-1,by omega⟩
  rw[AIR];unfold YX;rw[Bm (by omega),An (AZ.2 ⟨by omega,by omega⟩),An (by omega),xG,List.take_zero,show N+1-0-1=N by omega];show et N n l b x (t++U1) _=et N n l b x (t++[]++U1) _;rw[Ce]
 |succ j w=>
  intro N t D hN s;obtain⟨N,rfl⟩:∃m,N=m+1:=⟨N-1,by omega⟩
  have a:j<v.length:=by omega
  have y:v.getD j (A8).dflt∈v:=by
   rw[Bg,B4 a];exact EK a
  have o:=r _ y;have f:v.take (j+1)=v.take j++[v.getD j (A8).dflt]:=by
   rw[List.take_succ_eq_append_getElem a,Bg,B4 a];rfl
  have z:=SY o;have this:=w N (t++XA (v.getD j (A8).dflt)) (by omega) (by omega) (by rw[BA];omega);have d:=o;unfold DJ at d;rw[A0,A0,A0,A6,A6,A6]at d;obtain⟨E,p,F,_⟩:=d;have q:=fmt_len (n:=(v.getD j (A8).dflt).1) (by omega) p
  have g:=KR (n:=(v.getD j (A8).dflt).1) (by omega) p;have e:=XB (v.getD j (A8).dflt);have h:Aw (v.getD j (A8).dflt).2.2.1=true:=by unfold Aw;exact BK (by omega)
  have c:HN.pre ((v.getD j (A8).dflt).1,())=true:=by
   show(AG (-9223372036854775808<=(v.getD j (A8).dflt).1)&&AG ((v.getD j (A8).dflt).1<=9223372036854775807))=AD;rw[A0,A6,A6];omega
  rw[AIR];unfold YX;rw[Bn (by omega),show(((j+1:AB):AA)-1)=(j:AA) by omega,show(j:AA).toNat=j from AL,BG h,An a,An (by omega),An (by omega),xG,f,SZ,<-C9 t,show N+1-(j+1)-1=N-j-1 by omega,<-this,g];unfold XA mkV at e⊢;cases A:(v.getD j (A8).dflt).2.1
  ·rw[A]at e;rw[xF,fQ (by omega) (by omega) (by omega) q (by exact e),BG c,qf a,ep a];rfl
  ·rw[xT,fQ (by omega) (by omega) (by omega) q (by decide),BG c,qf a,ep a];rfl
theorem AIT(n:AE (L8))(l:AE AX)(b:AH)(x:L8)(h:x.length<=40)(w:l.length<=20)(j:∀e,e∈l->Cd e=AD):∀(r i N:AB) (t:L8),l.length=i+r->15*r<N->t.length+2000*r<=274877906944->et N n l b x t (i:AA)=AC (t++(l.drop i).flatMap NA++VV b x++W9,()):=by
 intro r
 induction r with
 |zero=>
  intro i N t k hN o;obtain⟨N,rfl⟩:∃m,N=m+1:=⟨N-1,by omega⟩
  rw[AIQ];unfold YW;rw[Bm (by omega),GY (by omega),yJ b h (by omega)];simp
 |succ r p=>
  intro i N t k hN o;obtain⟨N,rfl⟩:∃m,N=m+1:=⟨N-1,by omega⟩
  have a:i<l.length:=by omega
  have hd:l.drop i=l.getD i (AW).dflt::l.drop (i+1):=by
   rw[Ef a,Bg,B4 a];rfl
  have d:Cd (l.getD i (AW).dflt)=true:=j _ (by
   rw[Bg,B4 a];exact EK a)
  have q:=Yu d;obtain⟨q1,f,y,s⟩:=D4.1 d;have f:=D8 f;have c:=Gv _ _ q1;have u:(PU++(l.getD i (AW).dflt).1).length=11+(l.getD i (AW).dflt).1.length:=by rw[BA];rfl
  have v:(PU++(l.getD i (AW).dflt).1++H9).length=18+(l.getD i (AW).dflt).1.length:=by rw[BA,u,show H9.length=7 from AL];omega
  have g:=AIS n l b x i (by omega) (l.getD i (AW).dflt).1 (l.getD i (AW).dflt).2.1 s c (l.getD i (AW).dflt).2.1.length N (t++(PU++(l.getD i (AW).dflt).1++H9)) (Ak _) (by omega) (by rw[BA,v];omega);rw[List.take_length,show t++(PU++(l.getD i (AW).dflt).1++H9)++LJ (l.getD i (AW).dflt).2.1++U1=t++NA (l.getD i (AW).dflt) by unfold NA;simp only[C9]]at g
  have this:=p (i+1) (N-(l.getD i (AW).dflt).2.1.length-1) (t++NA (l.getD i (AW).dflt)) (by omega) (by omega) (by rw[BA];omega);simp only[Dz,Fb]at this;rw[AIQ];unfold YW;simp only[Gk,DN];rw[Bn (by omega),show(i:AA).toNat=i from AL,An (AZ.2 ⟨by omega,by omega⟩),An (by omega),An (by omega),An (by omega)]
  unfold gI;rw[show(i:AA).toNat=i from AL,An a,An (by omega),An (by omega),xG];refine FL g (FL this ?_);rw[hd,jD,C9 t]
theorem AIU(n:AE (L8))(l:AE AX)(b:AH)(x:L8)(c:x.length<=40)(d:l.length<=20)(f:∀e,e∈l->Cd e=AD)(q:n.length<=20)(g:∀k,k∈n->isKey k=AD):∀(r i N:AB) (t:L8),n.length=i+r->r+15*l.length+2<N->t.length+100*r<=137438953472->lI N n l b x t (i:AA)=AC (t++(n.drop i).flatMap JM++l.flatMap NA++VV b x++W9,()):=by
 intro r
 induction r with
 |zero=>
  intro i N t h hN j;obtain⟨N,rfl⟩:∃m,N=m+1:=⟨N-1,by omega⟩
  have:=AIT n l b x c d f l.length 0 N t (by omega) (by omega) (by omega);rw[AIP];unfold QK;rw[Bm (by omega),GY (by omega)];refine FL this ?_;simp
 |succ r o=>
  intro i N t h hN j;obtain⟨N,rfl⟩:∃m,N=m+1:=⟨N-1,by omega⟩
  have a:i<n.length:=by omega
  have hd:n.drop i=n.getD i []::n.drop (i+1):=by
   rw[Ef a,Bg,B4 a];rfl
  have p:=D8 (g (n.getD i []) (by
   rw[Bg,B4 a];exact EK a))
  have s:(JM (n.getD i [])).length=13+(n.getD i []).length:=by
   unfold JM;rw[BA,BA,show SU.length=6 from AL,show H9.length=7 from AL];omega
  have this:=o (i+1) N (t++JM (n.getD i [])) (by omega) (by omega) (by rw[BA];omega);simp only[Dz,Fb]at this;rw[AIP];unfold QK;rw[Bn (by omega),show(i:AA).toNat=i from AL,show n.getD i Ty.str.dflt=n.getD i []from AL,yI (by omega) (by omega) (by omega) p,ep a]
  refine FL this ?_;rw[hd,jD,C9 t]
theorem AIV{n:AE (L8)}{l:AE AX}{b:AH}{x:L8}(h:IW (n,l,b,x,())=AD):RB (n,l,b,x,()) (λt=>lI AU n l b x t 0)=AC (LK (n,l,b,x,()),()):=by
 unfold RB LK;rw[BG h,BG h,xG,xG];cases d:Kk (n,l,b,x,())
 ·rfl
 ·obtain⟨e,f,a,c,g⟩:=WV d;have a:n.length<=20:=a;have c:l.length<=20:=c;have:=AIU n l b x g c f a e n.length 0 AU jL (by omega) (by unfold AU;omega) (by rw[show jL.length=6 from AL];omega);rw[Do]at this;exact this
theorem v7:PC 32 VW:=(Ap (sh:=AV bE) (Ac (l:=[(58,Ls),(31,HN),(30,W2)]) ⟨vR,Sz,fL,A3⟩) Al func32 (by kernel_rfl) (by decide)).nice λ⟨⟨n,l,b,x,()⟩,()⟩ h=>by
 show orp _=AC (LK (n,l,b,x,()),());rw[AIO];cases b
 ·rw[AD8];exact AIV h
 ·rw[AD7];exact AIV h
end Go.Proofs.YtkgejlchafionaaGreatDoor
namespace Nice
def eqV(x y:BE):AH:=x.1==y.1&&x.2.1==y.2.1
def cN:AE BE->AE BE->AH
 |[],[]=>AD
 |x::a,y::b=>eqV x y&&cN a b
 |_,_=>AK
def Kd(n lo a k:AA)(nx:vI):vI:=bif AG (n>lo)then(bif AG (n<a)then AC (k,())else nx)else nx
def rhE(n:AA):vI:=Kd n 4294967296 8589934592 1 (Kd n 8589934592 12884901888 2 (Kd n 12884901888 17179869184 3 (Kd n 17179869184 21474836480 4 (Kd n 21474836480 25769803776 5 (AC (0,()))))))
theorem Jp{n lo a k:AA}{nx:vI}(c:lo<n)(b:n<a):Kd n lo a k nx=AC (k,()):=by
 unfold Kd;rw[Bn (by omega),Bn b]
theorem IZ{n lo a k:AA}{nx:vI}(h:n<=lo\/a<=n):Kd n lo a k nx=nx:=by
 unfold Kd;by_cases b:n>lo
 ·rw[Bn b,Bm (by omega)]
 ·rw[Bm b]
theorem Lz{n k:AA}(c:1<=k)(d:k<=5)(e:k*4294967296<n)(f:n<(k+1)*4294967296):A5 n=k:=by
 unfold A5;have a:n.tmod 4294967296=n%4294967296:=O7 (by omega);have b:n.tdiv 4294967296=n/4294967296:=Int.tdiv_eq_ediv_of_nonneg (by omega);rw[BP (show ¬n<4294967296 by omega),BP (show ¬n>=25769803776 by omega),a,b,show(n%4294967296==0)=AK from by rw[CE];omega]
 show n/4294967296=k;omega
theorem eu{n:AA}(h:n<=4294967296\/25769803776<=n\/n%4294967296=0):A5 n=0:=by
 unfold A5;by_cases a:n<4294967296
 ·rw[BK a];rfl
 rw[BP a];by_cases b:n>=25769803776
 ·rw[BK b];rfl
 rw[BP b];have c:n.tmod 4294967296=n%4294967296:=O7 (by omega);rw[c,show(n%4294967296==0)=AD from Be.2 (by omega)];rfl
theorem AIW(n:AA):rhE n=AC (A5 n,()):=by
 unfold rhE;by_cases a:4294967296<n/\n<8589934592
 ·rw[Jp a.1 a.2,Lz (k:=1) (by omega) (by omega) (by omega) (by omega)]
 rw[IZ (by omega)];by_cases b:8589934592<n/\n<12884901888
 ·rw[Jp b.1 b.2,Lz (k:=2) (by omega) (by omega) (by omega) (by omega)]
 rw[IZ (by omega)];by_cases c:12884901888<n/\n<17179869184
 ·rw[Jp c.1 c.2,Lz (k:=3) (by omega) (by omega) (by omega) (by omega)]
 rw[IZ (by omega)];by_cases d:17179869184<n/\n<21474836480
 ·rw[Jp d.1 d.2,Lz (k:=4) (by omega) (by omega) (by omega) (by omega)]
 rw[IZ (by omega)];by_cases e:21474836480<n/\n<25769803776
 ·rw[Jp e.1 e.2,Lz (k:=5) (by omega) (by omega) (by omega) (by omega)]
 rw[IZ (by omega),eu (by omega)]
abbrev gVe(e:AX):AE AH:=[AG (((e.2.1.length:AA)-1).toNat<e.2.1.length),AG (0<=(e.2.1.length:AA)-1),AG ((e.2.1.length:AA)-1<(e.2.1.length:AA)),AG (A4 .i64 ((e.2.1.length:AA)-1))]
def rbE(q:AA)(l:AE AX)(i:AA)(e:AX)(nx:BO):BO:=
 bif Cd (e.1,e.2.1,())then(bif AG (i>0)then(bif CG e.1 (l.getD (i-1).toNat (AW).dflt).1||e.1==(l.getD (i-1).toNat (AW).dflt).1 then gd (lS l i++(gI l i++(Dy (e.1,e.2.1,())::gI l i))) (bO AK)
     else bif AG ((e.2.1.getD ((e.2.1.length:AA)-1).toNat (A8).dflt).1>q)then gd (gVe e++(gI l i++(gI l i++(lS l i++(gI l i++(Dy (e.1,e.2.1,())::gI l i)))))) (bO AK)else gd (AG (A4 .i64 (i+1))::(gVe e++(gI l i++(gI l i++(lS l i++(gI l i++(Dy (e.1,e.2.1,())::gI l i))))))) nx)
  else bif AG ((e.2.1.getD ((e.2.1.length:AA)-1).toNat (A8).dflt).1>q)then gd (gVe e++(gI l i++(gI l i++(Dy (e.1,e.2.1,())::gI l i)))) (bO AK)else gd (AG (A4 .i64 (i+1))::(gVe e++(gI l i++(gI l i++(Dy (e.1,e.2.1,())::gI l i))))) nx)
 else gd (Dy (e.1,e.2.1,())::gI l i) (bO AK)
def ew(q:AA)(l:AE AX)(i:AA)(nx a:BO):BO:=bif AG (i<(l.length:AA))then rbE q l i (l.getD i.toNat (AW).dflt) nx else a
theorem Km{α β:Type}{l:AE α}{i:AB}(b:i<l.length)(y:AP β)(a:AE AH):gd (gI l (i:AA)++a) y=gd a y:=by
 unfold gI;simp only[Gk,DN];rw[An (by omega),An (by omega),An (by omega)]
theorem L1{α β:Type}{l:AE α}{i:AB}(a:i<l.length)(y:AP β):gd (gI l (i:AA)) y=y:=by
 have:=Km a y [];rw[Ce]at this;rw[this,xG]
theorem AIX{q:AA}{l:AE AX}{i:AB}{b:AH}{nx:BO}(w:l.length<=40)(a:i<l.length)(o:Dy (As l i)=AD)(h:nx=bO b):rbE q l (i:AA) (As l i) nx=bO (K8 q l i&&b):=by
 have k:A4 .i64 ((i:AA)+1):=AZ.2 ⟨by omega,by omega⟩;have c:Dy ((As l i).1,(As l i).2.1,())=true:=o;have p:Cd ((As l i).1,(As l i).2.1,())=Cd (As l i):=AL;unfold rbE K8;rw[p];cases r:Cd (As l i)
 ·rw[xF,BG c,L1 a];rfl
 ·obtain⟨x,z⟩:=Oi r;have s:(((As l i).2.1.length:AA)-1).toNat=(As l i).2.1.length-1:=by omega
  have f:∀(y:BO) j,gd (gVe (As l i)++j) y=gd j y:=λy j=>by
   unfold gVe;simp only[Gk,DN];rw[An (by omega),An (by omega),An (by omega),An (AZ.2 ⟨by omega,by omega⟩)]
  have t:(As l i).2.1.getD (((As l i).2.1.length:AA)-1).toNat (A8).dflt=B3 (As l i):=by rw[s];rfl
  rw[xT,t,Cz];by_cases m:i=0
  ·subst m;rw[Bm (by omega)];by_cases d:(B3 (As l 0)).1>q
   ·rw[Bn d,f,Km a,Km a,BG c,L1 a,BP (show ¬(B3 (As l 0)).1<=q by omega)];rfl
   ·rw[Bm d,An k,f,Km a,Km a,BG c,L1 a,BK (show(B3 (As l 0)).1<=q by omega),h];rfl
  ·have u:((i:AA)-1).toNat=i-1:=by omega
   have v:Af i 0=false:=by cases i with
    |zero=>exact absurd rfl m
    |succ n=>rfl
   rw[Bn (by omega),u,v,Iz];show(bif CG (As l i).1 (As l (i-1)).1||(As l i).1==(As l (i-1)).1 then _ else _)=_;have g:=Ol (As l (i-1)).1 (As l i).1;cases e:CG (As l i).1 (As l (i-1)).1||(As l i).1==(As l (i-1)).1
   ·rw[e]at g;rw[xF,g];by_cases d:(B3 (As l i)).1>q
    ·rw[Bn d,f,Km a,Km a,LD (by omega) a (by omega),Km a,BG c,L1 a,BP (show ¬(B3 (As l i)).1<=q by omega)];rfl
    ·rw[Bm d,An k,f,Km a,Km a,LD (by omega) a (by omega),Km a,BG c,L1 a,BK (show(B3 (As l i)).1<=q by omega),h];rfl
   ·rw[e]at g;rw[xT,LD (by omega) a (by omega),Km a,BG c,L1 a,g];cases AG ((B3 (As l i)).1<=q)<;>rfl
def YY(q:AA)(x:Ar)(i:AA)(G:AE AH)(nx:BO)(lo:AA):BO:=
 bif AG (x.1<lo)then gd (AG (A4 .i64 (A5 x.1-1))::G) (bO AK)else bif AG (x.2.1.1<0)then gd (AG (A4 .i64 (A5 x.1-1))::G) (bO AK)else bif AG (x.2.1.1>13)then gd (AG (A4 .i64 (A5 x.1-1))::G) (bO AK)
  else bif AG (x.2.1.2.1<0)then gd (AG (A4 .i64 (A5 x.1-1))::G) (bO AK)else bif AG (x.2.1.2.1>q)then gd (AG (A4 .i64 (A5 x.1-1))::G) (bO AK)else gd (AG (A4 .i64 (i+1))::AG (A4 .i64 (A5 x.1-1))::G) nx
theorem bF{q:AA}{x:Ar}{i lo:AA}{G:AE AH}{b:AH}{nx:BO}(k:A4 .i64 (i+1))(a:A4 .i64 (A5 x.1-1))(c:∀y:BO,gd G y=y)(h:nx=bO b):YY q x i G nx lo=bO (AG (lo<=x.1)&&(P6 q x&&b)):=by
 unfold YY P6;by_cases d:x.1<lo
 ·rw[Bn d,An a,c,BP (show ¬lo<=x.1 by omega)];rfl
 rw[Bm d,BK (show lo<=x.1 by omega)];by_cases e:x.2.1.1<0
 ·rw[Bn e,An a,c,BP (show ¬0<=x.2.1.1 by omega)];rfl
 rw[Bm e,BK (show 0<=x.2.1.1 by omega)];by_cases f:x.2.1.1>13
 ·rw[Bn f,An a,c,BP (show ¬x.2.1.1<=13 by omega)];rfl
 rw[Bm f,BK (show x.2.1.1<=13 by omega)];by_cases g:x.2.1.2.1<0
 ·rw[Bn g,An a,c,BP (show ¬0<=x.2.1.2.1 by omega)];rfl
 rw[Bm g,BK (show 0<=x.2.1.2.1 by omega)];by_cases j:x.2.1.2.1>q
 ·rw[Bn j,An a,c,BP (show ¬x.2.1.2.1<=q by omega)];rfl
 rw[Bm j,BK (show x.2.1.2.1<=q by omega),An k,An a,c,h];rfl
def rmE(q:AA)(L:HH)(m:AE Ar)(i:AA)(x:Ar)(nx:BO):BO:=
 bif A5 x.1==0 then bO AK else bif AG (i>0)then(bif AG (x.1<=(m.getD (i-1).toNat (BB).dflt).1)then gd (lS m i) (bO AK)else sg L (A5 x.1-1) (YY q x i (lS m i) nx))else sg L (A5 x.1-1) (YY q x i [] nx)
def ANo(q:AA)(L:HH)(m:AE Ar)(i:AA)(nx:BO):BO:=bif AG (i<(m.length:AA))then gd (gI m i) (rmE q L m i (m.getD i.toNat (BB).dflt) nx)else bO AD
theorem AIY{q:AA}{L:HH}{m:AE Ar}{i:AB}{b:AH}{nx:BO}(p:m.length<=100)(g:i<m.length)(h:nx=bO b):rmE q L m (i:AA) (Bv m i) nx=bO (Lp q L m i&&b):=by
 have c:A4 .i64 ((i:AA)+1):=AZ.2 ⟨by omega,by omega⟩;unfold rmE Lp;have r:=HZ (Bv m i).1;cases j:A5 (Bv m i).1==0
 ·have k:A5 (Bv m i).1≠0:=by simpa using j
  have d:A4 .i64 (A5 (Bv m i).1-1):=AZ.2 ⟨by omega,by omega⟩;rw[xF,cE (by omega),cE (by omega),show(!false)=AD from AL,Cz];by_cases a:i=0
  ·subst a;rw[Bm (by omega),bF c d (λy=>xG _) h];show bO _=bO _;rw[L5,show Af 0 0=AD from AL,Bool.true_or,Cz]
  ·have l:((i:AA)-1).toNat=i-1:=by omega
   have o:Af i 0=false:=by cases i with
    |zero=>exact absurd rfl a
    |succ n=>rfl
   have e:∀y:BO,gd (lS m (i:AA)) y=y:=λy=>by
    have:=LD (show 0<i by omega) g (by omega) y [];rw[Ce]at this;rw[this,xG]
   rw[Bn (by omega),l,o,Iz];show(bif AG ((Bv m i).1<=(Bv m (i-1)).1)then _ else _)=_;by_cases f:(Bv m i).1<=(Bv m (i-1)).1
   ·rw[Bn f,e,BP (show ¬(Bv m (i-1)).1<(Bv m i).1 by omega),Bool.false_and,Bool.and_false];rfl
   ·rw[Bm f,bF c d e h,BK (show(Bv m (i-1)).1<(Bv m i).1 by omega),Cz,L5]
 ·rw[xT];rfl
def smK(b is:AH)(p f:L8)(k:AA)(o:AE AX)(i:AA)(e:AX)(nx:AE AX->PO):PO:=
 bif AG ((e.1.length:AA)<(p.length:AA))then gd [AG (A4 .i64 (i+1))] (nx o)else bif !List.take (p.length:AA).toNat e.1==p then gd [AG (A4 .i64 (i+1)),AG ((p.length:AA)<=(e.1.length:AA))] (nx o)
  else bif CG e.1 f||e.1==f then gd [AG (A4 .i64 (i+1)),AG ((p.length:AA)<=(e.1.length:AA))] (nx o)
  else bif b&& !is then gd [AG (A4 .i64 (i+1)),AG ((p.length:AA)<=(e.1.length:AA))] (nx o)
  else gd [AG ((p.length:AA)<=(e.1.length:AA))] (bif (o.length:AA)==k then AC (o,AD,())else gd [AG (A4 .i64 (i+1)),AG ((2*(o.length+[(e.1,e.2.1,())].length)+400)*40<=281474976710656)] (nx (o++[(e.1,e.2.1,())])))
def UV(b:AH)(p f:L8)(k:AA)(l o:AE AX)(i:AA)(nx:AE AX->PO):PO:=
 bif AG (i<(l.length:AA))then gd (gI l i) (bif (D3 ((l.getD i.toNat (AW).dflt).1,(l.getD i.toNat (AW).dflt).2.1,())).2 then gd [AG ((l.getD i.toNat (AW).dflt).2.1.length<=140737488355328)] (smK b AD p f k o i (l.getD i.toNat (AW).dflt) nx)else gd [AG ((l.getD i.toNat (AW).dflt).2.1.length<=140737488355328)] (smK b AK p f k o i (l.getD i.toNat (AW).dflt) nx))else AC (o,AK,())
theorem AIZ{b:AH}{p f:L8}{k:AA}{l:AE AX}{h:AB->AE AX->AA->PO}(x:∀N o i,h (N+1) o i=UV b p f k l o i (λa=>h N a (i+1)))(D:0<=k)(E:l.length<=40)(y:∀e,e∈l->1<=e.2.1.length/\e.2.1.length<=12):
  ∀(r i N:AB) (o:AE AX),l.length=i+r->r<N->o.length<=i->(o.length:AA)<=k->h N o (i:AA)=AC ((o++(l.drop i).filter (Ep p f b)).take k.toNat,AG (k<((o++(l.drop i).filter (Ep p f b)).length:AA)),()):=by
 intro r
 induction r with
 |zero=>
  intro i N o z hN A m;obtain⟨N,rfl⟩:∃k,N=k+1:=⟨N-1,by omega⟩
  rw[x];unfold UV;rw[Bm (by omega),GY (by omega),List.filter_nil,Ce,List.take_of_length_le (by omega),BP (show ¬k<(o.length:AA) by omega)]
 |succ r B=>
  intro i N o z hN A m;obtain⟨N,rfl⟩:∃k,N=k+1:=⟨N-1,by omega⟩
  have c:i<l.length:=by omega
  have d:A4 .i64 ((i:AA)+1):=AZ.2 ⟨by omega,by omega⟩;have hd:l.drop i=As l i::l.drop (i+1):=by
   rw[Ef c];congr 1;unfold As;rw[Bg,B4 c];rfl
  obtain⟨F,v2⟩:=y (As l i) (by
   show l.getD i _∈l;rw[Bg,B4 c];exact EK c)
  have n:∀a:AE AX,a.length<=i+1->(a.length:AA)<=k->h N a ((i:AA)+1)=AC ((a++(l.drop (i+1)).filter (Ep p f b)).take k.toNat,AG (k<((a++(l.drop (i+1)).filter (Ep p f b)).length:AA)),()):=λa C v=>by
   have:=B (i+1) N a (by omega) (by omega) C v;simpa only[Dz,Fb]using this
  have skip:Ep p f b (As l i)=AK->h N o ((i:AA)+1)=AC ((o++(l.drop i).filter (Ep p f b)).take k.toNat,AG (k<((o++(l.drop i).filter (Ep p f b)).length:AA)),()):=λg=>by
   rw[hd,List.filter_cons_of_neg (by rw[g];exact Bool.false_ne_true)];exact n o (by omega) m
  have take:Ep p f b (As l i)=AD->(o.length:AA)<k->h N (o++[As l i]) ((i:AA)+1)=AC ((o++(l.drop i).filter (Ep p f b)).take k.toNat,AG (k<((o++(l.drop i).filter (Ep p f b)).length:AA)),()):=λg w=>by
   have:=n (o++[As l i]) (by rw[BA,EL];omega) (by rw[BA,EL];omega);rw[hd,AAS g];simpa only[C9,List.singleton_append]using this
  have q:Ep p f b (As l i)=AD->(o.length:AA)=k->AC (o,AD,())=(AC ((o++(l.drop i).filter (Ep p f b)).take k.toNat,AG (k<((o++(l.drop i).filter (Ep p f b)).length:AA)),()):PO):=λg w=>by
   rw[hd,AAS g,show k.toNat=o.length by omega,List.take_left,BK (by rw[BA,B7];omega)]
  have j:∀is:AH,(D3 (As l i)).2=is->smK b is p f k o (i:AA) (As l i) (λa=>h N a ((i:AA)+1))=AC ((o++(l.drop i).filter (Ep p f b)).take k.toNat,AG (k<((o++(l.drop i).filter (Ep p f b)).length:AA)),()):=λis s=>by
   unfold smK;by_cases c1:((As l i).1.length:AA)<(p.length:AA)
   ·rw[Bn c1,An d,xG];exact skip (by unfold Ep Bt;rw[BP (show ¬p.length<=(As l i).1.length by omega)];rfl)
   rw[Bm c1,show(p.length:AA).toNat=p.length from AL];have u:Bt (As l i).1 p=(Ko p.length (As l i).1==p):=by
    unfold Bt;rw[BK (show p.length<=(As l i).1.length by omega),Cz]
   cases c2:Ko p.length (As l i).1==p
   ·rw[show(!false)=AD from AL,xT,An d,An (by omega),xG];exact skip (by unfold Ep;rw[u,c2];rfl)
   rw[show(!true)=AK from AL,xF];cases c3:CG (As l i).1 f||(As l i).1==f
   ·rw[xF];cases c4:b&& !is
    ·have g:Ep p f b (As l i)=true:=by
      unfold Ep cG;rw[u,c2,c3,s];cases b
      ·rfl
      ·cases is
       ·cases c4
       ·rfl
     rw[xF,An (by omega),xG];by_cases c5:(o.length:AA)=k
     ·rw[show((o.length:AA)==k)=AD from Be.2 c5,xT];exact q g c5
     ·rw[show((o.length:AA)==k)=AK from CE.2 c5,xF,An d,An (by simp only[EL];omega),xG];exact take g (by omega)
    ·rw[xT,An d,An (by omega),xG];exact skip (by
      unfold Ep cG;rw[u,c2,c3,s];cases b
      ·cases c4
      ·cases is
       ·rfl
       ·cases c4)
   ·rw[xT,An d,An (by omega),xG];exact skip (by unfold Ep;rw[u,c2,c3];rfl)
  rw[x];unfold UV;rw[Bn (by omega),L1 c];show(bif (D3 (As l i)).2 then gd [AG ((As l i).2.1.length<=140737488355328)] (smK b AD p f k o (i:AA) (As l i) (λa=>h N a ((i:AA)+1)))else gd [AG ((As l i).2.1.length<=140737488355328)] (smK b AK p f k o (i:AA) (As l i) (λa=>h N a ((i:AA)+1))))=_
  cases t:(D3 (As l i)).2
  ·rw[xF,An (by omega),xG];exact j AK t
  ·rw[xT,An (by omega),xG];exact j AD t
def bG(b:AH):PSpec:=⟨[CY,.str,.str,IT,.bool],[.slice AW,.bool],λx=>Cv x.1&&x.2.2.2.2.1==b,λx=>(Cu x.1 x.2.1 x.2.2.1 x.2.2.2.1 x.2.2.2.2.1,ANG x.1 x.2.1 x.2.2.1 x.2.2.2.1 x.2.2.2.2.1,())⟩
theorem iE(k:AA):max 1 (min k 20)=EW k:=by unfold EW;omega
def ey:PSpec:=⟨[CY,BF],[K9],λx=>Cv x.1,λx=>(Fy x.1 x.2.1,())⟩
def ez(s:Bc)(a:BH):HO1:=bif a.1==4 then nmE s (JA s a.2.2.2.2.2.2.1 a.2.2.2.2.2.2.2.1 a.2.2.2.2.2.2.2.2.1 AD) (ANG s a.2.2.2.2.2.2.1 a.2.2.2.2.2.2.2.1 a.2.2.2.2.2.2.2.2.1 AD)
    else bif a.1==5 then enE s (Cu s a.2.2.2.2.2.2.1 a.2.2.2.2.2.2.2.1 a.2.2.2.2.2.2.2.2.1 AK) (ANG s a.2.2.2.2.2.2.1 a.2.2.2.2.2.2.2.1 a.2.2.2.2.2.2.2.2.1 AK)else AC (zSh,())
theorem qg{s:Bc}{a:BH}(c:Cv s=AD):ez s a=AC (Fy s a,()):=by
 unfold ez Fy;cases a.1==4
 ·rw[xF,xF];cases a.1==5
  ·rw[xF,xF]
  ·rw[xT,xT];refine wY c (Ea HO (by omega)) λb=> ?_
   have:=MM b;have:=Nn a.2.2.2.2.2.2.2.2.1;omega
 ·rw[xT,xT];refine wX c ?_ λb=> ?_
  ·unfold JA;rw[Eg];exact Ea HO (by omega)
  ·have:=MM b;have:=Nn a.2.2.2.2.2.2.2.2.1;unfold JA;rw[Eg];omega
def Nm(s:Bc):Bc:=(s.1,(s.2.1.take 42).map Oh,s.2.2.1.take 103,s.2.2.2.1,())
end Nice
namespace Go.Proofs.YtkgejlchafionaaGreatDoor
open Tryz
open Nice
def AD9(x:AM [IT]):vI:=fO prog (Aj []) (AV []) f25 [IT] [IT] x
theorem AEA(n:AA):AD9 (n,())=rhE n:=by kernel_rfl
theorem YZ:PC 25 Iv:=(Ap (Ac (l:=[]) trivial) Al func25 (by kernel_rfl) (by decide)).nice λ⟨n,()⟩ _=>(AEA n).trans (AIW n)
abbrev lJ:AE (AB×AE (AB×Sh)):=[(4,[(1,(.obj [.sym,(.dat AW),(.dat BB),.sym,.sym,.sym,.sym,.sym])),(2,(.one .sym)),(3,(.one .sym))]),(14,[(1,(.obj [.sym,(.dat AW),(.dat BB),.sym,.sym,.sym,.sym,.sym])),(2,(.one .sym)),(5,(.one .sym))])]
abbrev qh:Eng.Env:=Aj [(24,KQ),(25,Iv)]
def v8(N:AB)(q:AA)(l:AE AX)(m:AE Ar)(a b c d e i:AA):BO:=rH prog qh (AV lJ) f10 [.bool] N 0 [(1,.pointer (AC ⟨12,0,AF⟩)),(2,.bool AK),(3,sy (.int .i64 i))] [.dat AW l,.dat BB m,Yh q (a,b,c,d,e,())]
def wA(N:AB)(q:AA)(l:AE AX)(m:AE Ar)(a b c d e i:AA):BO:=rH prog qh (AV lJ) f10 [.bool] N 2 [(1,.pointer (AC ⟨12,0,AF⟩)),(2,.bool AK),(5,sy (.int .i64 i))] [.dat AW l,.dat BB m,Yh q (a,b,c,d,e,())]
def orb(x:AM [CY]):BO:=fO prog qh (AV lJ) f10 [CY] [.bool] x
theorem AIa(x:AM [CY]):orb x=Cy prog qh (AV lJ) f10 [CY] [.bool] AU x:=AL
theorem AIb(N:AB)(q:AA)(l:AE AX)(m:AE Ar)(a b c d e:AA):Cy prog qh (AV lJ) f10 [CY] [.bool] N ((q,l,m,(a,b,c,d,e,()),()),())=
 (bif AG (q<0)then bO AK else bif AG (q>1099511627776)then bO AK else bif AG ((l.length:AA)>40)then bO AK else bif AG ((m.length:AA)>100)then bO AK else v8 N q l m a b c d e 0):=by kernel_rfl
theorem yK(N:AB)(q:AA)(l:AE AX)(m:AE Ar)(a b c d e i:AA):v8 (N+1) q l m a b c d e i=ew q l i (v8 N q l m a b c d e (i+1)) (fD (a,b,c,d,e,()) (wA N q l m a b c d e 0)):=by kernel_rfl
theorem yL(N:AB)(q:AA)(l:AE AX)(m:AE Ar)(a b c d e i:AA):wA (N+1) q l m a b c d e i=ANo q (a,b,c,d,e,()) m i (wA N q l m a b c d e (i+1)):=by kernel_rfl
theorem AIc(q:AA)(l:AE AX)(m:AE Ar)(a b c d e:AA)(f:m.length<=100):∀(r i N:AB),m.length=i+r->r<N->wA N q l m a b c d e (i:AA)=bO (Ha (Lp q (a,b,c,d,e,()) m) r i):=by
 intro r
 induction r with
 |zero=>
  intro i N g hN;obtain⟨N,rfl⟩:∃k,N=k+1:=⟨N-1,by omega⟩
  rw[yL];unfold ANo;rw[Bm (by omega)];rfl
 |succ r h=>
  intro i N g hN;obtain⟨N,rfl⟩:∃k,N=k+1:=⟨N-1,by omega⟩
  have this:=h (i+1) N (by omega) (by omega);simp only[Dz,Fb]at this;rw[yL];unfold ANo;rw[Bn (by omega),L1 (by omega)];exact AIY f (by omega) this
theorem AId(q:AA)(l:AE AX)(m:AE Ar)(a b c d e:AA)(h:l.length<=40)(j:m.length<=100)(n:∀x,x∈l->Dy x=AD):∀(r i N:AB),l.length=i+r->r+101<N->v8 N q l m a b c d e (i:AA)=bO (Ha (K8 q l) r i&&(Kj (a,b,c,d,e,())&&Ha (Lp q (a,b,c,d,e,()) m) m.length 0)):=by
 intro r
 induction r with
 |zero=>
  intro i N o hN;obtain⟨N,rfl⟩:∃k,N=k+1:=⟨N-1,by omega⟩
  have this:=AIc q l m a b c d e j m.length 0 N (by omega) (by omega);rw[yK];unfold ew;rw[Bm (by omega)];exact fE this
 |succ r p=>
  intro i N o hN;obtain⟨N,rfl⟩:∃k,N=k+1:=⟨N-1,by omega⟩
  have f:i<l.length:=by omega
  have this:=p (i+1) N (by omega) (by omega);simp only[Dz,Fb]at this;have g:Dy (As l i)=true:=n _ (by
   show l.getD i _∈l;rw[Bg,B4 f];exact EK f)
  rw[yK];unfold ew;rw[Bn (by omega)];refine(AIX h f g this).trans ?_;show bO (_&&(_&&_))=bO ((_&&_)&&_);rw[L5]
theorem AL1(q:AA)(l:AE AX)(m:AE Ar)(a b c d e:AA)(h:l.all Dy=AD):orb ((q,l,m,(a,b,c,d,e,()),()),())=bO (C6 (q,l,m,(a,b,c,d,e,()),())):=by
 have k:=C8.1 h;show orb _=bO (AG (0<=q)&&(AG (q<=1099511627776)&&(AG (l.length<=40)&&(AG (m.length<=100)&&(Ha (K8 q l) l.length 0&&(Kj (a,b,c,d,e,())&&Ha (Lp q (a,b,c,d,e,()) m) m.length 0))))));rw[AIa,AIb];by_cases f:q<0
 ·rw[Bn f,BP (show ¬0<=q by omega)];rfl
 rw[Bm f,BK (show 0<=q by omega)];by_cases g:q>1099511627776
 ·rw[Bn g,BP (show ¬q<=1099511627776 by omega)];rfl
 rw[Bm g,BK (show q<=1099511627776 by omega)];by_cases i:(l.length:AA)>40
 ·rw[Bn i,BP (show ¬l.length<=40 by omega)];rfl
 rw[Bm i,BK (show l.length<=40 by omega)];by_cases j:(m.length:AA)>100
 ·rw[Bn j,BP (show ¬m.length<=100 by omega)];rfl
 rw[Bm j,BK (show m.length<=100 by omega)];exact AId q l m a b c d e (by omega) (by omega) k l.length 0 AU (by omega) (by unfold AU;omega)
theorem wB:PC 10 Q2:=(Ap (sh:=AV lJ) (Ac (l:=[(24,KQ),(25,Iv)]) ⟨xt,YZ,A3⟩) Al func10 (by kernel_rfl) (by decide)).nice λ⟨⟨q,l,m,⟨a,b,c,d,e,()⟩,()⟩,()⟩ h=>AL1 q l m a b c d e h
def yM(x:AM [AW]):AP (AM [A8,.bool]):=fO prog (Aj []) (AV []) f53 [AW] [A8,.bool] x
theorem AIe(k:L8)(l:AE BE):yM ((k,l,()),())=sl k l:=by kernel_rfl
theorem Ya:PC 53 K0:=(Ap (Ac (l:=[]) trivial) Al func53 (by kernel_rfl) (by decide)).nice λ⟨⟨k,l,()⟩,()⟩ h=>by
 show yM _=_;rw[AIe];exact AN3 (BL h)
abbrev lK:AE (AB×AE (AB×Sh)):=[(4,[(1,(.one .sym)),(2,(.one .sym)),(3,(.one .sym)),(4,(.one .sym)),(5,(.obj [.sym,(.dat AW),(.dat BB),.sym,.sym,.sym,.sym,.sym])),(10,(.one .any)),(11,(.one .sym)),(12,(.one (.vec AW 68))),(13,(.one .sym))])]
abbrev qi:Eng.Env:=Aj [(53,K0)]
def lL(g:AH)(N:AB)(p f:L8)(k q:AA)(l:AE AX)(m:AE Ar)(a b c d e:AA)(o:AE AX)(i:AA):PO:=rH prog qi (AV lK) f98 [.slice AW,.bool] N 0 [(1,sy (.string (bs p))),(2,sy (.string (bs f))),(3,sy (.int .i64 k)),(4,.bool g),(5,.pointer (AC ⟨12,0,AF⟩)),(10,RG AF 0 0),(11,.bool AK),(12,dt 13),(13,sy (.int .i64 i))] [.dat AW l,.dat BB m,Yh q (a,b,c,d,e,()),.vec AW o 68]
def osm(x:AM [CY,.str,.str,IT,.bool]):PO:=fO prog qi (AV lK) f98 [CY,.str,.str,IT,.bool] [.slice AW,.bool] x
theorem yN(x:AM [CY,.str,.str,IT,.bool]):osm x=Cy prog qi (AV lK) f98 [CY,.str,.str,IT,.bool] [.slice AW,.bool] AU x:=AL
theorem AEB(N:AB)(q:AA)(l:AE AX)(m:AE Ar)(a b c d e:AA)(p f:L8)(k:AA):Cy prog qi (AV lK) f98 [CY,.str,.str,IT,.bool] [.slice AW,.bool] N ((q,l,m,(a,b,c,d,e,()),()),p,f,k,AD,())=lL AD N p f (max 1 (min k 20)) q l m a b c d e [] 0:=by kernel_rfl
theorem AEC(N:AB)(q:AA)(l:AE AX)(m:AE Ar)(a b c d e:AA)(p f:L8)(k:AA):Cy prog qi (AV lK) f98 [CY,.str,.str,IT,.bool] [.slice AW,.bool] N ((q,l,m,(a,b,c,d,e,()),()),p,f,k,AK,())=lL AK N p f (max 1 (min k 20)) q l m a b c d e [] 0:=by kernel_rfl
theorem AED(N:AB)(p f:L8)(k q:AA)(l:AE AX)(m:AE Ar)(a b c d e:AA)(o:AE AX)(i:AA):lL AD (N+1) p f k q l m a b c d e o i=UV AD p f k l o i (λg=>lL AD N p f k q l m a b c d e g (i+1)):=by kernel_rfl
theorem AEE(N:AB)(p f:L8)(k q:AA)(l:AE AX)(m:AE Ar)(a b c d e:AA)(o:AE AX)(i:AA):lL AK (N+1) p f k q l m a b c d e o i=UV AK p f k l o i (λg=>lL AK N p f k q l m a b c d e g (i+1)):=by kernel_rfl
theorem AL2(g:AH){s:Bc}(h:Cv s=AD)(p f:L8)(k:AA):osm (s,p,f,k,g,())=AC (Cu s p f k g,ANG s p f k g,()):=by
 obtain⟨q,l,m,⟨a,b,c,d,e,⟨⟩⟩,⟨⟩⟩:=s;obtain⟨j,r⟩:=W0 h;have n:=Ri k;cases g
 ·rw[yN,AEC,iE];exact AIZ (b:=AK) (p:=p) (f:=f) (k:=EW k) (l:=l) (h:=λN o i=>lL AK N p f (EW k) q l m a b c d e o i) (λN o i=>AEE N p f (EW k) q l m a b c d e o i) n j r l.length 0 AU [] (by omega) (O8 j (by unfold AU;omega)) (Ak _) (by simpa using n)
 ·rw[yN,AEB,iE];exact AIZ (b:=AD) (p:=p) (f:=f) (k:=EW k) (l:=l) (h:=λN o i=>lL AD N p f (EW k) q l m a b c d e o i) (λN o i=>AED N p f (EW k) q l m a b c d e o i) n j r l.length 0 AU [] (by omega) (O8 j (by unfold AU;omega)) (Ak _) (by simpa using n)
theorem qj(a:AH):PC 98 (bG a):=(Ap (sh:=AV lK) (Ac (l:=[(53,K0)]) ⟨Ya,A3⟩) Al func98 (by kernel_rfl) (by decide)).nice λ⟨s,p,f,k,b,()⟩ h=>AL2 b (by
 have h:(Cv s&&b==a)=true:=h;rw[A0]at h;exact h.1) p f k
end Go.Proofs.YtkgejlchafionaaGreatDoor
namespace Nice
def Nj:BE:=(0,AK,[],())
abbrev vAt(l:AE BE)(i:AA):BE:=l.getD i.toNat (A8).dflt
abbrev VG(l:AE AX)(i:AA):AX:=l.getD i.toNat (AW).dflt
def Oz(e:AX)(n:AA):BE×AH:=bif AG (Db e.2.1 n<0)then(Nj,AK)else(vAt e.2.1 (Db e.2.1 n),AD)
def GA(e:AX):AH:=AG (e.2.1.length<=1000000)
def Kn(s:Bc):AH:=AG (s.2.1.length<=1000000)&&s.2.1.all GA
def Rg(v:BE)(is:AH):BE×AA:=bif is then(bif v.2.1 then(Nj,10)else(v,0))else(Nj,6)
def WW(e:AX)(n:AA):BE×AA:=bif n==0 then Rg (D3 e).1 (AG ((e.2.1.length:AA)>0))else Rg (Oz e n).1 (Oz e n).2
def FI(s:Bc)(key:L8)(n:AA):BE×AA:=bif AG (Oj s.2.1 key<0)then(Nj,6)else WW (VG s.2.1 (Oj s.2.1 key)) n
def UW:PSpec:=⟨[AW,IT],[IT],λx=>GA x.1,λx=>(Db x.1.2.1 x.2.1,())⟩
def AEF:PSpec:=⟨[AW,IT],[A8,.bool],λx=>GA x.1,λx=>((Oz x.1 x.2.1).1,(Oz x.1 x.2.1).2,())⟩
def qk:PSpec:=⟨[CY,.str,IT],[A8,IT],λx=>Kn x.1,λx=>((FI x.1 x.2.1 x.2.2.1).1,(FI x.1 x.2.1 x.2.2.1).2,())⟩
abbrev VO:=AP (AM [A8,IT])
def gtO(v:BE):VO:=bif v.2.1 then AC (Nj,10,())else AC (v,0,())
abbrev gX{α:Type}(l:AE α)(i:AA):AE AH:=[AG (i.toNat<l.length),AG (0<=i),AG (i<(l.length:AA))]
def gtL(l:AE AX)(i:AA)(e:AX):VO:=gd (AG (e.2.1.length<=140737488355328)::gX l i) (bif AG ((e.2.1.length:AA)>0)then gd (gX l i) (gtO (D3 e).1)else gd (gX l i) (AC (Nj,6,())))
def gtA(l:AE AX)(i:AA)(e:AX)(n:AA)(x:BE×AH):VO:=
 bif x.2 then gd (GA (e.1,e.2.1,())::gX l i) (bif n==0 then(bif (D3 e).2 then gtL l i e else gtL l i e)else gtO x.1)else gd (GA (e.1,e.2.1,())::gX l i) (bif n==0 then(bif (D3 e).2 then gtL l i e else gtL l i e)else AC (Nj,6,()))
def gtT(l:AE AX)(key:L8)(n:AA):VO:=gd [AG (l.length<=1000000)] (bif AG (Oj l key<0)then AC (Nj,6,())else gtA l (Oj l key) (VG l (Oj l key)) n (Oz (VG l (Oj l key)) n))
theorem Jq{α:Type}(p:α->AH):∀(l:AE α) (i:AB),(FH p l i= -1/\∀x,x∈l->p x=AK)\/∃k:AB,FH p l i=((i+k:AB):AA)/\k<l.length
 |[],i=>.inl ⟨rfl,λx h=>by cases h⟩
 |y::r,i=>by
  unfold FH;cases h:p y
  ·rw[if_neg (by decide)];rcases Jq p r (i+1)with⟨a,b⟩|⟨k,a,b⟩
   ·refine .inl ⟨a,λx hx=> ?_⟩;rcases Dv.1 hx with rfl|hx
    ·exact h
    ·exact b x hx
   ·exact .inr ⟨k+1,by rw[a,show i+1+k=i+(k+1) by omega],by rw[B7];omega⟩
  ·rw[if_pos rfl];exact .inr ⟨0,by rw[Nat.add_zero],by rw[B7];omega⟩
theorem ql{α β:Type}{l:AE α}{i:AB}(h:i<l.length)(a:AE AH)(y:AP β):gd (a++gX l (i:AA)) y=gd a y:=by
 induction a generalizing y with
 |nil=>
  show gd [AG ((i:AA).toNat<l.length),AG (0<=(i:AA)),AG ((i:AA)<(l.length:AA))] y=gd [] y;rw[An (by omega),An (by omega),An (by omega)]
 |cons q c b=>
  rw[Gk];exact b (bif q then y else AF)
theorem HL{α β:Type}{l:AE α}{i:AB}(h:i<l.length)(y:AP β):gd (gX l (i:AA)) y=y:=(ql h [] y).trans (xG y)
theorem L2{α β:Type}{l:AE α}{i:AB}(h:i<l.length){b:AH}(a:b=AD)(y:AP β):gd (b::gX l (i:AA)) y=y:=(ql h [b] y).trans ((BG a).trans (xG y))
end Nice
namespace Go.Proofs.YtkgejlchafionaaGreatDoor
open Tryz
open Nice
def AEG(x:AM [AW,IT]):AP (AM [IT]):=fO prog (Aj [(201,pA)]) (AV []) f162 [AW,IT] [IT] x
theorem AEH(key:L8)(vs:AE BE)(n:AA):AEG ((key,vs,()),n,())=gd [AG (vs.length<=1000000)] (AC (Db vs n,())):=by kernel_rfl
theorem iF:PC 162 UW:=(Ap (Ac (l:=[(201,pA)]) ⟨AC4,A3⟩) Al func162 (by kernel_rfl) (by decide)).nice λ⟨⟨key,vs,()⟩,n,()⟩ h=>by
 refine(AEH key vs n).trans ?_;have h:vs.length<=1000000:=BL h;rw[An h,xG]
def AL5(x:AM [AW,IT]):AP (AM [A8,.bool]):=fO prog (Aj [(162,UW)]) (AV []) f117 [AW,IT] [A8,.bool] x
theorem AL6(key:L8)(vs:AE BE)(n:AA):AL5 ((key,vs,()),n,())=gd [GA (key,vs,())] (bif AG (Db vs n<0)then AC (Nj,AK,())else gd (gX vs (Db vs n)) (AC (vAt vs (Db vs n),AD,()))):=by kernel_rfl
theorem AIf:PC 117 AEF:=(Ap (Ac (l:=[(162,UW)]) ⟨iF,A3⟩) Al func117 (by kernel_rfl) (by decide)).nice λ⟨⟨key,vs,()⟩,n,()⟩ h=>by
 refine(AL6 key vs n).trans ?_;have h:GA (key,vs,())=true:=h;show _=AC ((Oz (key,vs,()) n).1,(Oz (key,vs,()) n).2,());unfold Oz;rw[BG h,xG];rcases Jq (λy:BE=>y.1==n) vs 0 with⟨e, -⟩|⟨k,e,a⟩
 ·have e:Db vs n= -1:=e;rw[show((key,vs,()):AX).2.1=vs from AL,e];rfl
 ·have e:Db vs n=((0+k:AB):AA):=e;rw[CJ]at e;rw[show((key,vs,()):AX).2.1=vs from AL,e,Bm (by omega),Bm (by omega),HL a]
def AIg(x:AM [CY,.str,IT]):VO:=fO prog (Aj [(115,pB),(117,AEF),(118,K0)]) (AV []) f77 [CY,.str,IT] [A8,IT] x
theorem AIh(q:AA)(l:AE AX)(m:AE Ar)(a b c d e:AA)(key:L8)(n:AA):AIg ((q,l,m,(a,b,c,d,e,()),()),key,n,())=gtT l key n:=by kernel_rfl
theorem gtE{v:BE}{is:AH}:(bif is then gtO v else AC (Nj,6,()):VO)=AC ((Rg v is).1,(Rg v is).2,()):=by
 unfold gtO Rg;cases is
 ·rfl
 ·cases v.2.1<;>rfl
theorem AIi{l:AE AX}{i:AB}{e:AX}(a:i<l.length)(b:e.2.1.length<=1000000):gtL l (i:AA) e=AC ((Rg (D3 e).1 (AG ((e.2.1.length:AA)>0))).1,(Rg (D3 e).1 (AG ((e.2.1.length:AA)>0))).2,()):=by
 unfold gtL;rw[L2 a (BK (by omega)),HL a,HL a];exact gtE
theorem AIj{l:AE AX}{i:AB}{e:AX}{n:AA}(a:i<l.length)(b:e.2.1.length<=1000000):gtA l (i:AA) e n (Oz e n)=AC ((WW e n).1,(WW e n).2,()):=by
 have c:GA (e.1,e.2.1,())=true:=BK b;unfold gtA WW;rw[L2 a c,L2 a c,AIi a b];cases n==0
 ·rw[xF,xF,xF];exact gtE
 ·rw[xT,xT,xT];cases(D3 e).2<;>cases(Oz e n).2<;>rfl
theorem AEI{s:Bc}{key:L8}{n:AA}(h:Kn s=AD):gtT s.2.1 key n=AC ((FI s key n).1,(FI s key n).2,()):=by
 unfold Kn at h;rw[A0,A6]at h;unfold gtT FI;rw[An h.1,xG];rcases Jq (λy:AX=>y.1==key) s.2.1 0 with⟨e, -⟩|⟨k,e,a⟩
 ·have e:Oj s.2.1 key= -1:=e;rw[e];rfl
 ·have e:Oj s.2.1 key=((0+k:AB):AA):=e;rw[CJ]at e;have b:VG s.2.1 (k:AA)∈s.2.1:=by
   show s.2.1.getD k _∈s.2.1;rw[Bg,B4 a];exact EK a
  rw[e,Bm (by omega),Bm (by omega)];exact AIj a (BL (C8.1 h.2 _ b))
theorem AEJ:PC 77 qk:=(Ap (Ac (l:=[(115,pB),(117,AEF),(118,K0)]) ⟨AC5,AIf,fF,A3⟩) Al func77 (by kernel_rfl) (by decide)).nice λ⟨⟨q,l,m,⟨a,b,c,d,e,()⟩,()⟩,key,n,()⟩ h=>
 (AIh q l m a b c d e key n).trans (AEI (s:=(q,l,m,(a,b,c,d,e,()),())) h)
open Nice
abbrev bH:AE (AB×AE (AB×Sh)):=[(4,[(8,(.one .any)),(9,(.one .sym)),(10,(.one (.dat AW))),(11,(.one .sym)),(12,(.one (.vec .str 9))),(13,(.one .sym))])]
abbrev wC:Eng.Env:=Aj [(98,bG AD)]
def bI(N:AB)(g:AH)(o:AE (L8))(l:AE AX)(i:AA):KO:=rH prog wC (AV bH) f59 [.slice .str,.bool] N 0 [(8,RG AF 0 0),(9,.bool AK),(10,dt 10),(11,.bool g),(12,dt 11),(13,sy (.int .i64 i))] [.dat AW l,.vec .str o 9]
def AIk(x:AM [CY,.str,.str,IT]):KO:=fO prog wC (AV bH) f59 [CY,.str,.str,IT] [.slice .str,.bool] x
theorem AEK(x:AM [CY,.str,.str,IT]):AIk x=Cy prog wC (AV bH) f59 [CY,.str,.str,IT] [.slice .str,.bool] AU x:=AL
def AIl(N:AB)(s:Bc)(p f:L8)(k:AA):KO:=bif ANG s p f k AD then gd [Cv s&&AD==AD] (bI N AD [] (Cu s p f k AD) 0)else gd [Cv s&&AD==AD] (bI N AK [] (Cu s p f k AD) 0)
theorem AEL(N:AB)(q:AA)(l:AE AX)(m:AE Ar)(a b c d e:AA)(p f:L8)(k:AA):Cy prog wC (AV bH) f59 [CY,.str,.str,IT] [.slice .str,.bool] N ((q,l,m,(a,b,c,d,e,()),()),p,f,k,())=AIl N (q,l,m,(a,b,c,d,e,()),()) p f k:=by kernel_rfl
theorem wD(N:AB)(o:AE (L8))(l:AE AX)(i:AA):bI (N+1) AD o l i=M8 AD l o (l.length:AA) i (λa=>bI N AD a l (i+1)):=by kernel_rfl
theorem wE(N:AB)(o:AE (L8))(l:AE AX)(i:AA):bI (N+1) AK o l i=M8 AK l o (l.length:AA) i (λa=>bI N AK a l (i+1)):=by kernel_rfl
theorem AIm{s:Bc}(h:Cv s=AD)(p f:L8)(k:AA):AIk (s,p,f,k,())=AC (JA s p f k AD,ANG s p f k AD,()):=by
 obtain⟨q,l,m,⟨a,b,c,d,e,⟨⟩⟩,⟨⟩⟩:=s;rw[AEK,AEL];unfold AIl;have n:=HO (s:=(q,l,m,(a,b,c,d,e,()),())) (p:=p) (f:=f) (k:=k) (b:=AD);have g:(Cu (q,l,m,(a,b,c,d,e,()),()) p f k AD).length<AU:=O8 n (by unfold AU;omega);have j:(Cv (q,l,m,(a,b,c,d,e,()),())&&AD==AD)=true:=by rw[h];rfl
 cases ANG (q,l,m,(a,b,c,d,e,()),()) p f k AD
 ·rw[xF,BG j,xG];exact AOV (h:=λN o i=>bI N AK o (Cu (q,l,m,(a,b,c,d,e,()),()) p f k AD) i) (λN o i=>wE N o _ i) (by omega) _ 0 AU [] (CJ _).symm g (Ak _)
 ·rw[xT,BG j,xG];exact AOV (h:=λN o i=>bI N AD o (Cu (q,l,m,(a,b,c,d,e,()),()) p f k AD) i) (λN o i=>wD N o _ i) (by omega) _ 0 AU [] (CJ _).symm g (Ak _)
theorem qm:PC 59 PQ:=(Ap (sh:=AV bH) (Ac (l:=[(98,bG AD)]) ⟨qj AD,A3⟩) Al func59 (by kernel_rfl) (by decide)).nice λ⟨s,p,f,k,()⟩ h=>AIm h p f k
def AIn(x:AM [CY,.str,.str,IT]):PO:=fO prog (Aj [(98,bG AK)]) (AV []) f60 [CY,.str,.str,IT] [.slice AW,.bool] x
def AIo(s:Bc)(p f:L8)(k:AA):PO:=bif ANG s p f k AK then gd [Cv s&&AK==AK] (AC (Cu s p f k AK,AD,()))else gd [Cv s&&AK==AK] (AC (Cu s p f k AK,AK,()))
theorem AL7(q:AA)(l:AE AX)(m:AE Ar)(a b c d e:AA)(p f:L8)(k:AA):AIn ((q,l,m,(a,b,c,d,e,()),()),p,f,k,())=AIo (q,l,m,(a,b,c,d,e,()),()) p f k:=by kernel_rfl
theorem wF:PC 60 VJ:=(Ap (Ac (l:=[(98,bG AK)]) ⟨qj AK,A3⟩) Al func60 (by kernel_rfl) (by decide)).nice λ⟨⟨q,l,m,⟨a,b,c,d,e,()⟩,()⟩,p,f,k,()⟩ h=>by
 have h:Cv (q,l,m,(a,b,c,d,e,()),())=true:=h;have g:(Cv (q,l,m,(a,b,c,d,e,()),())&&AK==AK)=true:=by rw[h];rfl
 show AIn _=AC (Cu (q,l,m,(a,b,c,d,e,()),()) p f k AK,ANG (q,l,m,(a,b,c,d,e,()),()) p f k AK,());rw[AL7];unfold AIo;cases ANG (q,l,m,(a,b,c,d,e,()),()) p f k AK
 ·rw[xF,BG g,xG]
 ·rw[xT,BG g,xG]
def AEM(x:AM [CY,BF]):HO1:=fO prog (Aj [(59,PQ),(60,VJ)]) (AV []) f33 [CY,BF] [K9] x
theorem AEN(q:AA)(l:AE AX)(m:AE Ar)(a b c d e g:AA)(key:L8)(v:AA)(h:L8)(i:AA)(t p f:L8)(j:AA)(k:AH):AEM ((q,l,m,(a,b,c,d,e,()),()),(g,key,v,h,i,t,p,f,j,k,()),())=ez (q,l,m,(a,b,c,d,e,()),()) (g,key,v,h,i,t,p,f,j,k,()):=by kernel_rfl
theorem wG:PC 33 ey:=(Ap (Ac (l:=[(59,PQ),(60,VJ)]) ⟨qm,wF,A3⟩) Al func33 (by kernel_rfl) (by decide)).nice λ⟨⟨q,l,m,⟨a,b,c,d,e,()⟩,()⟩,⟨g,key,v,i,j,t,p,f,k,n,()⟩,()⟩ h=>(AEN q l m a b c d e g key v i j t p f k n).trans (qg h)
end Go.Proofs.YtkgejlchafionaaGreatDoor
namespace Nice
def O0(key:L8):AE AX->AB->AA×AH
 |[],i=>((i:AA),AK)
 |e::r,i=>bif CG e.1 key then O0 key r (i+1)else((i:AA),e.1==key)
def Fa(n:AA):AE BE->AB->AA×AH
 |[],_=>(0,AK)
 |v::r,i=>bif v.1==n then((i:AA),AD)else Fa n r (i+1)
def UX(e:AX)(n:AA):BE×AA:=bif n !=0 then Rg (vAt e.2.1 (Fa n e.2.1 0).1) (Fa n e.2.1 0).2 else Rg (D3 e).1 AD
def GX(s:Bc)(key:L8)(n:AA):BE×AA:=bif (O0 key s.2.1 0).2 then UX (VG s.2.1 (O0 key s.2.1 0).1) n else(Nj,6)
def qn:PSpec:=⟨[CY,.str],[IT,.bool],λx=>AG (x.1.2.1.length<=1000000),λx=>((O0 x.2.1 x.1.2.1 0).1,(O0 x.2.1 x.1.2.1 0).2,())⟩
def qo:PSpec:=⟨[AW,IT],[IT,.bool],λx=>GA x.1,λx=>((Fa x.2.1 x.1.2.1 0).1,(Fa x.2.1 x.1.2.1 0).2,())⟩
def qp:PSpec:=⟨[CY,.str,IT],[A8,IT],λx=>Kn x.1,λx=>((GX x.1 x.2.1 x.2.2.1).1,(GX x.1 x.2.1 x.2.2.1).2,())⟩
abbrev wH:=AP (AM [IT,.bool])
def plE(l:AE AX)(i:AA)(key:L8):wH:=bif AG (i<(l.length:AA))then(bif (VG l i).1==key then gd (gX l i) (AC (i,AD,()))else gd (gX l i) (AC (i,AK,())))else AC (i,AK,())
def e7(l:AE AX)(i:AA)(key:L8)(nx:wH):wH:=bif AG (i<(l.length:AA))then(bif CG (VG l i).1 key then gd (AG (A4 .i64 (i+1))::gX l i) nx else gd (gX l i) (plE l i key))else plE l i key
def Yb(vs:AE BE)(i n:AA)(nx:wH):wH:=bif AG (i<(vs.length:AA))then(bif (vAt vs i).1==n then gd (gX vs i) (AC (i,AD,()))else gd (AG (A4 .i64 (i+1))::gX vs i) nx)else AC (0,AK,())
def rgX(l:AE AX)(P:AA)(e:AX)(n:AA):VO:=gd (AG (e.2.1.length<=140737488355328)::gX l P) (bif n !=0 then(bif (Fa n e.2.1 0).2 then gd (gX e.2.1 (Fa n e.2.1 0).1++(gX l P++GA (e.1,e.2.1,())::gX l P)) (gtO (vAt e.2.1 (Fa n e.2.1 0).1))else gd (GA (e.1,e.2.1,())::gX l P) (AC (Nj,6,())))else gtO (D3 e).1)
def rgT(l:AE AX)(key:L8)(n:AA):VO:=bif (O0 key l 0).2 then gd [AG (l.length<=1000000)] (bif (D3 (VG l (O0 key l 0).1)).2 then rgX l (O0 key l 0).1 (VG l (O0 key l 0).1) n else rgX l (O0 key l 0).1 (VG l (O0 key l 0).1) n)else gd [AG (l.length<=1000000)] (AC (Nj,6,()))
end Nice
namespace Go.Proofs.YtkgejlchafionaaGreatDoor
open Tryz
open Nice
abbrev qq:AE (AB×AE (AB×Sh)):=[(2,[(1,.one .sym),(2,.obj [.sym,.dat AW,.dat BB,.sym,.sym,.sym,.sym,.sym]),(6,.one .sym)])]
abbrev bJ:AE (AB×AE (AB×Sh)):=[(2,[(1,.one .sym),(2,.obj [.sym,.dat A8]),(6,.one .sym)])]
def lb(N:AB)(s:Bc)(key:L8)(i:AA):wH:=rH prog (Aj []) (AV qq) f52 [IT,.bool] N 0 [(1,sy (.string (bs key))),(2,.pointer (AC ⟨12,0,AF⟩)),(6,sy (.int .i64 i))] [.dat AW s.2.1,.dat BB s.2.2.1,.row [sy (.int .i64 s.1),dt 10,dt 11,sy (.int .i64 s.2.2.2.1.1),sy (.int .i64 s.2.2.2.1.2.1),sy (.int .i64 s.2.2.2.1.2.2.1),sy (.int .i64 s.2.2.2.1.2.2.2.1),sy (.int .i64 s.2.2.2.1.2.2.2.2.1)] 28 AK]
def hat(N:AB)(key:L8)(vs:AE BE)(n i:AA):wH:=rH prog (Aj []) (AV bJ) f54 [IT,.bool] N 0 [(1,sy (.int .i64 n)),(2,.pointer (AC ⟨11,0,AF⟩)),(6,sy (.int .i64 i))] [.dat A8 vs,.row [sy (.string (bs key)),dt 10] 68 AK]
def opl(x:AM [CY,.str]):wH:=fO prog (Aj []) (AV qq) f52 [CY,.str] [IT,.bool] x
def oat(x:AM [AW,IT]):wH:=fO prog (Aj []) (AV bJ) f54 [AW,IT] [IT,.bool] x
theorem AIp(x:AM [CY,.str]):opl x=Cy prog (Aj []) (AV qq) f52 [CY,.str] [IT,.bool] AU x:=AL
theorem AIq(x:AM [AW,IT]):oat x=Cy prog (Aj []) (AV bJ) f54 [AW,IT] [IT,.bool] AU x:=AL
theorem AIr(N:AB)(q:AA)(l:AE AX)(m:AE Ar)(a b c d e:AA)(key:L8):Cy prog (Aj []) (AV qq) f52 [CY,.str] [IT,.bool] N ((q,l,m,(a,b,c,d,e,()),()),key,())=lb N (q,l,m,(a,b,c,d,e,()),()) key 0:=by kernel_rfl
theorem AOe(N:AB)(s:Bc)(key:L8)(i:AA):lb (N+1) s key i=e7 s.2.1 i key (lb N s key (i+1)):=by kernel_rfl
theorem AIs(N:AB)(key:L8)(vs:AE BE)(n:AA):Cy prog (Aj []) (AV bJ) f54 [AW,IT] [IT,.bool] N ((key,vs,()),n,())=hat N key vs n 0:=by kernel_rfl
theorem yP(N:AB)(key:L8)(vs:AE BE)(n i:AA):hat (N+1) key vs n i=Yb vs i n (hat N key vs n (i+1)):=by kernel_rfl
def AIt(x:AM [CY,.str,IT]):VO:=fO prog (Aj [(52,qn),(53,K0),(54,qo)]) (AV []) f29 [CY,.str,IT] [A8,IT] x
theorem AIu(q:AA)(l:AE AX)(m:AE Ar)(a b c d e:AA)(key:L8)(n:AA):AIt ((q,l,m,(a,b,c,d,e,()),()),key,n,())=rgT l key n:=by kernel_rfl
theorem AIv{s:Bc}{key:L8}(f:s.2.1.length<=1000000):∀(L:AE AX) (i N:AB),s.2.1.drop i=L->i+L.length=s.2.1.length->L.length<N->lb N s key (i:AA)=AC ((O0 key L i).1,(O0 key L i).2,())
 |[],i,N,hd,c,hN=>by
  obtain⟨N,rfl⟩:∃k,N=k+1:=⟨N-1,by omega⟩
  simp only[E8]at c;rw[AOe];unfold e7 plE;rw[Bm (by omega),Bm (by omega)];rfl
 |e::r,i,N,hd,c,hN=>by
  simp only[B7]at c hN;obtain⟨N,rfl⟩:∃k,N=k+1:=⟨N-1,by omega⟩
  have a:i<s.2.1.length:=by omega
  have b:=Ef a;rw[hd]at b;have d:VG s.2.1 (i:AA)=e:=by
   show s.2.1.getD i _=e;rw[Bg,B4 a];exact(FP b).1.symm
  have g:s.2.1.drop (i+1)=r:=(FP b).2.symm;have h:=AIv (key:=key) f r (i+1) N g (by omega) (by omega);rw[AOe];unfold e7 O0;rw[Bn (by omega),d];cases CG e.1 key
  ·rw[xF,xF,HL a];unfold plE;rw[Bn (by omega),d,HL a,HL a];cases e.1==key<;>rfl
  ·rw[xT,xT,L2 a (BK (AZ.2 ⟨by omega,by omega⟩))];exact h
theorem yQ:PC 52 qn:=(Ap (sh:=AV qq) (Ac (l:=[]) trivial) Al func52 (by kernel_rfl) (by decide)).nice λ⟨⟨q,l,m,⟨a,b,c,d,e,()⟩,()⟩,key,()⟩ h=>by
 have h:l.length<=1000000:=BL h;show opl _=_;rw[AIp,AIr];exact AIv (s:=(q,l,m,(a,b,c,d,e,()),())) h l 0 AU rfl (CJ _) (O8 h (by unfold AU;omega))
theorem AIw{key:L8}{vs:AE BE}{n:AA}(d:vs.length<=1000000):∀(L:AE BE) (i N:AB),vs.drop i=L->i+L.length=vs.length->L.length<N->hat N key vs n (i:AA)=AC ((Fa n L i).1,(Fa n L i).2,())
 |[],i,N,hd,c,hN=>by
  obtain⟨N,rfl⟩:∃k,N=k+1:=⟨N-1,by omega⟩
  simp only[E8]at c;rw[yP];unfold Yb;rw[Bm (by omega)];rfl
 |e::r,i,N,hd,c,hN=>by
  simp only[B7]at c hN;obtain⟨N,rfl⟩:∃k,N=k+1:=⟨N-1,by omega⟩
  have a:i<vs.length:=by omega
  have b:=Ef a;rw[hd]at b;have f:vAt vs (i:AA)=e:=by
   show vs.getD i _=e;rw[Bg,B4 a];exact(FP b).1.symm
  have g:vs.drop (i+1)=r:=(FP b).2.symm;have h:=AIw (key:=key) (n:=n) d r (i+1) N g (by omega) (by omega);rw[yP];unfold Yb Fa;rw[Bn (by omega),f];cases e.1==n
  ·rw[xF,xF,L2 a (BK (AZ.2 ⟨by omega,by omega⟩))];exact h
  ·rw[xT,xT,HL a]
theorem yS:PC 54 qo:=(Ap (sh:=AV bJ) (Ac (l:=[]) trivial) Al func54 (by kernel_rfl) (by decide)).nice λ⟨⟨key,vs,()⟩,n,()⟩ h=>by
 have h:vs.length<=1000000:=BL h;show oat _=_;rw[AIq,AIs];exact AIw h vs 0 AU rfl (CJ _) (O8 h (by unfold AU;omega))
theorem qs(key:L8):∀(l:AE AX) (i:AB),(O0 key l i).2=AD->∃k:AB,(O0 key l i).1=((i+k:AB):AA)/\k<l.length
 |[],i,h=>by cases h
 |e::r,i,h=>by
  unfold O0 at h⊢;cases a:CG e.1 key
  ·rw[xF];exact⟨0,rfl,by rw[B7];omega⟩
  ·rw[a,xT]at h;obtain⟨k,b,c⟩:=qs key r (i+1) h;rw[xT];exact⟨k+1,by rw[b,show i+1+k=i+(k+1) by omega],by rw[B7];omega⟩
theorem iG(n:AA):∀(l:AE BE) (i:AB),(Fa n l i).2=AD->∃k:AB,(Fa n l i).1=((i+k:AB):AA)/\k<l.length
 |[],i,h=>by cases h
 |e::r,i,h=>by
  unfold Fa at h⊢;cases a:e.1==n
  ·rw[a,xF]at h;obtain⟨k,b,c⟩:=iG n r (i+1) h;rw[xF];exact⟨k+1,by rw[b,show i+1+k=i+(k+1) by omega],by rw[B7];omega⟩
  ·rw[xT];exact⟨0,rfl,by rw[B7];omega⟩
theorem AIx{l:AE AX}{i:AB}{e:AX}{n:AA}(a:i<l.length)(d:e.2.1.length<=1000000):rgX l (i:AA) e n=AC ((UX e n).1,(UX e n).2,()):=by
 have b:GA (e.1,e.2.1,())=true:=BK d;unfold rgX UX;rw[L2 a (BK (by omega))];cases n !=0
 ·rw[xF,xF];exact gtE (is:=AD)
 ·rw[xT,xT];cases f:(Fa n e.2.1 0).2
  ·rw[xF,L2 a b];rfl
  ·obtain⟨k,c,g⟩:=iG n e.2.1 0 f;rw[CJ]at c;rw[xT,c,show gX e.2.1 (k:AA)++(gX l (i:AA)++GA (e.1,e.2.1,())::gX l (i:AA))=(gX e.2.1 (k:AA)++gX l (i:AA)++[GA (e.1,e.2.1,())])++gX l (i:AA)from by simp only[Gk,DN],ql a];rw[show gX e.2.1 (k:AA)++gX l (i:AA)++[GA (e.1,e.2.1,())]=AG ((k:AA).toNat<e.2.1.length)::AG (0<=(k:AA))::AG ((k:AA)<(e.2.1.length:AA))::AG ((i:AA).toNat<l.length)::AG (0<=(i:AA))::AG ((i:AA)<(l.length:AA))::[GA (e.1,e.2.1,())]from AL,
    An (by omega),An (by omega),An (by omega),An (by omega),An (by omega),An (by omega),BG b,xG]
   exact gtE (is:=AD)
theorem AEO{s:Bc}{key:L8}{n:AA}(h:Kn s=AD):rgT s.2.1 key n=AC ((GX s key n).1,(GX s key n).2,()):=by
 unfold Kn at h;rw[A0,A6]at h;unfold rgT GX;rw[An h.1,An h.1,xG,xG];cases b:(O0 key s.2.1 0).2
 ·rfl
 ·obtain⟨k,e,a⟩:=qs key s.2.1 0 b;rw[CJ]at e;have c:VG s.2.1 (k:AA)∈s.2.1:=by
   show s.2.1.getD k _∈s.2.1;rw[Bg,B4 a];exact EK a
  rw[e,AIx a (BL (C8.1 h.2 _ c)),xT,xT];cases(D3 (VG s.2.1 (k:AA))).2<;>rfl
theorem AEP:PC 29 qp:=(Ap (Ac (l:=[(52,qn),(53,K0),(54,qo)]) ⟨yQ,Ya,yS,A3⟩) Al func29 (by kernel_rfl) (by decide)).nice λ⟨⟨q,l,m,⟨a,b,c,d,e,()⟩,()⟩,key,n,()⟩ h=>
 (AIu q l m a b c d e key n).trans (AEO (s:=(q,l,m,(a,b,c,d,e,()),())) h)
