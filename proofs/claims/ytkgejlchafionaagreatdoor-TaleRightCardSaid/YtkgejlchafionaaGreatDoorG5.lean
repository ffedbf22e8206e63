/-
  Part of the proof. No condition.
-/
import Derived.Test.YtkgejlchafionaaGreatDoorBegD
import Derived.Deep.LoopGhost
open Array renaming getElem?_eq_getElem->CX,getElem?_eq_some_iff->Uu,getElem?_setIfInBounds_ne->FG,getElem?_setIfInBounds_self_of_lt->Ig,getElem?_toList->Bf,length_toList->D0,size_push->I9,size_setIfInBounds->GK,toList_inj->I1
open Bool renaming and_assoc->L5,and_eq_true->A0,and_false->Gl,false->AK,false_eq_true->CI,not_false->FU,not_true->GG,true->AD,true_and->Cz
open Decidable renaming decide->AG
open Eq renaming trans->FL
open Go renaming Aside->Gf,Calls->BU,Value->AJ,World->AN,callFunc->FO,undef->Bi
open Go.Builtin renaming zeroCells->Ch
open Go.Lib renaming decDigits->MG,idxBy->zu,idxByFrom->zv,itoa->Cr
open Go.Op renaming bytesLess->CG
open Go.Value renaming string->E9
open Go.World renaming cell?->C0
open Int renaming natCast_add->Dz,natCast_one->Fb
open List renaming all_eq_true->C8,append_assoc->C9,append_nil->Ce,cons_append->Gk,cons_beq_cons->zw,drop_eq_getElem_cons->Ef,drop_eq_nil_of_le->GY,drop_zero->Do,eq_nil_of_length_eq_zero->zx,filter_append->sH,filter_eq_self->zy,findIdx_eq->zz,findIdx_eq_length->z1,getD_eq_getElem?_getD->Bg,getElem?_eq_getElem->B4,getElem?_eq_none->DA,getElem?_eq_some_iff->MJ,getElem?_map->Fe,getElem?_take->CB,getElem_mem->EK,getElem_of_mem->M5,length_append->BA,length_cons->B7,length_map->Eg,length_range->RQ,length_take->Bw,map_cons->PM,nil_append->DN,range->iy,singleton_append->Gq,take_length->bh,take_of_length_le->GB,take_add_one->sJ
open List.cons renaming inj->FP
open Nat renaming beq->Af,eq_zero_or_pos->br,le_refl->Ak,le_trans->Ea,lt_irrefl->iz,lt_or_ge->Cf,mul_one->Gd
open Option renaming isSome_none->Df,none->AF,some->AC
open Option.some renaming inj->Dw
open UInt8 renaming lt_iff_toNat_lt->Ul
open _root_ renaming Array->Aa,Bool->AH,ByteArray->Cg,Int->AA,List->AE,Nat->AB,Option->AP,Unit->ET,absurd->Aq,beq_eq_false_iff_ne->CE,beq_self_eq_true->GD,decide_eq_false->BP,decide_eq_true->BK,decide_eq_true_eq->A6,getElem!_pos->sK,if_false->BR,if_neg->AY,of_decide_eq_true->BL,rfl->AL,trivial->A3
set_option maxRecDepth 1000000
open Go Go.Eng
noncomputable section
namespace Nice
theorem xT{α:Type}(a b:α):(bif AD then a else b)=a:=FL (cond_true a b) rfl
theorem xF{α:Type}(a b:α):(bif AK then a else b)=b:=FL (cond_false a b) rfl
theorem xG{α:Type}(r:AP α):gd [] r=r:=FL Cm rfl
abbrev BO:=AP (AM [.bool])
def bO(b:AH):AP (AM [.bool]):=AC (b,())
abbrev A8:Ty:=.pair (.int .i64) (.pair .bool (.pair .str .unit))
abbrev AW:Ty:=.pair .str (.pair (.slice A8) .unit)
abbrev BE:Type:=AA×AH×L8×ET
abbrev AX:Type:=L8×AE BE×ET
def DJ(v:BE):AH:=AG (1<=v.1)&&(AG (v.1<=1099511627776)&&(AG (v.2.2.1.length<=300)&&(!v.2.1||v.2.2.1==[])))
def IR:AA->AE BE->AH
 |_,[]=>AD
 |last,v::r=>DJ v&&(AG (last<v.1)&&IR v.1 r)
theorem NV(a:AA)(v:BE)(r:AE BE):IR a (v::r)=(DJ v&&(AG (a<v.1)&&IR v.1 r)):=AL
def Cd(e:AX):AH:=IR 0 e.2.1&&(isKey e.1&&(AG (1<=e.2.1.length)&&AG (e.2.1.length<=12)))
def Dy(e:AX):AH:=Aw e.1&&AG (e.2.1.length<=140737488355328)
def kn:PSpec:=⟨[A8],[.bool],λ_=>AD,λx=>(DJ x.1,())⟩
def KQ:PSpec:=⟨[AW],[.bool],λx=>Dy x.1,λx=>(Cd x.1,())⟩
def ACy(v:BE):BE:=(v.1,v.2.1,cut v.2.2.1 302,())
def Oh(e:AX):AX:=(cut e.1 42,(e.2.1.take 14).map ACy,())
def ACz(n:AA)(g:AH)(b:L8):BO:=bif AG (n>=1)then(bif AG (n<=1099511627776)then(bif AG ((b.length:AA)<=300)then(bif g then(bif b==[]then bO AD else bO AK)else bO AD)else bO AK)else bO AK)else bO AK
theorem AC0(n:AA)(g:AH)(b:L8):ACz n g b=AC (DJ (n,g,b,()),()):=by
 unfold ACz DJ;dsimp only;by_cases a:n>=1
 ·rw[Bn a,BK (show 1<=n from a),Cz];by_cases c:n<=1099511627776
  ·rw[Bn c,BK c,Cz];by_cases d:b.length<=300
   ·rw[Bn (show(b.length:AA)<=300 by omega),BK d,Cz];cases g
    ·rfl
    ·cases b==[]<;>rfl
   ·rw[Bm (show ¬(b.length:AA)<=300 by omega),BP d];rfl
  ·rw[Bm c,BP c];rfl
 ·rw[Bm a,BP (show ¬1<=n from a)];rfl
def vE(k:L8)(l:AE BE):BO:=bif isKey k then(bif AG ((l.length:AA)>=1)then(bif AG ((l.length:AA)<=12)then gd [Aw k] (bO AD)else gd [Aw k] (bO AK))else gd [Aw k] (bO AK))else gd [Aw k] (bO AK)
theorem o7{k:L8}{l:AE BE}(h:Aw k=AD):vE k l=AC (isKey k&&(AG (1<=l.length)&&AG (l.length<=12)),()):=by
 unfold vE;cases isKey k
 ·rw[xF,BG h,xG];rfl
 ·rw[xT];by_cases a:1<=l.length
  ·rw[Bn (by omega),BK a];by_cases b:l.length<=12
   ·rw[Bn (by omega),BK b,BG h,xG];rfl
   ·rw[Bm (by omega),BP b,BG h,xG];rfl
  ·rw[Bm (by omega),BP a,BG h,xG];rfl
def eE(k:L8)(l:AE BE)(a:AA)(b:AE BE)(m i:AA)(nx:BO):BO:=
 bif AG (i<m)then gd [AG (i.toNat<b.length),AG (0<=i),AG (i<(b.length:AA))] (bif DJ (b.getD i.toNat (A8).dflt)then(bif AG ((b.getD i.toNat (A8).dflt).1<=a)then bO AK else gd [AG (A4 .i64 (i+1))] nx)else bO AK)else vE k l
abbrev gP(l:AE BE)(i:AA):AE AH:=[AG ((i-1).toNat<l.length),AG (0<=i-1),AG (i-1<(l.length:AA)),AG (A4 .i64 (i-1))]
def gw(v:BE)(b a:BO):BO:=bif AG ((v.2.2.1.length:AA)>300)then b else bif v.2.1 then(bif !v.2.2.1==[]then b else a)else a
def eF(k:L8)(l:AE BE)(i:AA)(nx:BO):BO:=
 bif AG (i<(l.length:AA))then gd [AG (i.toNat<l.length),AG (0<=i),AG (i<(l.length:AA))] (bif AG ((l.getD i.toNat (A8).dflt).1<1)then bO AK else bif AG ((l.getD i.toNat (A8).dflt).1>1099511627776)then bO AK
  else bif AG (i>0)then(bif AG ((l.getD i.toNat (A8).dflt).1<=(l.getD (i-1).toNat (A8).dflt).1)then gd (gP l i) (bO AK)else gw (l.getD i.toNat (A8).dflt) (gd (gP l i) (bO AK)) (gd (AG (A4 .i64 (i+1))::gP l i) nx))
  else gw (l.getD i.toNat (A8).dflt) (bO AK) (gd [AG (A4 .i64 (i+1))] nx))else vE k l
end Nice
namespace Go.Proofs.YtkgejlchafionaaGreatDoor
open Tryz
open Nice Go.RowKit
def over(x:AM [A8]):BO:=fO prog (Aj []) (AV []) f147 [A8] [.bool] x
theorem ALR(n:AA)(g:AH)(b:L8):over ((n,g,b,()),())=ACz n g b:=by kernel_rfl
theorem AG8:PC 147 kn:=(Ap (Ac (l:=[]) trivial) Al func147 (by kernel_rfl) (by decide)).nice λ⟨⟨n,g,b,()⟩,()⟩ _=>by
 show over _=_;rw[ALR];exact AC0 n g b
abbrev Tw:AE (AB×AE (AB×Sh)):=[(3,[(1,(.obj [.sym,(.dat A8)])),(2,(.one .sym)),(3,(.one .sym)),(7,(.one (.dat A8))),(8,(.one .sym)),(9,(.one .sym))])]
def gx(N:AB)(k:L8)(l:AE BE)(c:AH)(a:AA)(b:AE BE)(m i:AA):BO:=rH prog (Aj [(100,Bx),(147,kn)]) (AV Tw) f99 [.bool] N 0 [(1,.pointer (AC ⟨11,0,AF⟩)),(2,.bool c),(3,sy (.int .i64 a)),(7,dt 12),(8,sy (.int .i64 m)),(9,sy (.int .i64 i))] [.dat A8 l,.row [sy (.string (bs k)),dt 10] 68 AK,.dat A8 b]
def xr(x:AM [AW]):BO:=fO prog (Aj [(100,Bx),(147,kn)]) (AV Tw) f99 [AW] [.bool] x
theorem vF(x:AM [AW]):xr x=Cy prog (Aj [(100,Bx),(147,kn)]) (AV Tw) f99 [AW] [.bool] AU x:=AL
theorem vG(N:AB)(k:L8)(l:AE BE):Cy prog (Aj [(100,Bx),(147,kn)]) (AV Tw) f99 [AW] [.bool] N ((k,l,()),())=gx N k l AK 0 l (l.length:AA) 0:=by kernel_rfl
theorem gy(N:AB)(k:L8)(l:AE BE)(c:AH)(a:AA)(b:AE BE)(m i:AA):gx (N+1) k l c a b m i=eE k l a b m i (gx N k l c (b.getD i.toNat (A8).dflt).1 b m (i+1)):=by kernel_rfl
theorem AC1(k:L8)(l:AE BE)(d:Aw k=AD)(g:l.length<=140737488355328):∀(r i N:AB) (a:AA),l.length=i+r->r<N->gx N k l AK a l (l.length:AA) (i:AA)=AC (IR a (l.drop i)&&(isKey k&&(AG (1<=l.length)&&AG (l.length<=12))),()):=by
 intro r
 induction r with
 |zero=>
  intro i N a e hN;obtain⟨N,rfl⟩:∃m,N=m+1:=⟨N-1,by omega⟩
  rw[gy];unfold eE;rw[Bm (by omega),o7 d,GY (by omega)];rfl
 |succ r f=>
  intro i N a e hN;obtain⟨N,rfl⟩:∃m,N=m+1:=⟨N-1,by omega⟩
  have b:i<l.length:=by omega
  have hd:l.drop i=l.getD i (A8).dflt::l.drop (i+1):=by
   rw[Ef b,Bg,B4 b];rfl
  have this:=f (i+1) N (l.getD i (A8).dflt).1 (by omega) (by omega);simp only[Dz,Fb]at this;rw[gy];unfold eE;rw[Bn (by omega),show(i:AA).toNat=i from AL,An b,An (by omega),An (by omega),xG,hd,this,NV];have c:A4 .i64 ((i:AA)+1):=AZ.2 ⟨by omega,by omega⟩
  cases DJ (l.getD i (A8).dflt)
  ·rfl
  ·rw[xT,Cz];by_cases h:(l.getD i (A8).dflt).1<=a
   ·rw[Bn h,BP (show ¬a<(l.getD i (A8).dflt).1 by omega)];rfl
   ·rw[Bm h,BK (show a<(l.getD i (A8).dflt).1 by omega),An c,xG,Cz]
theorem o8:PC 99 KQ:=(Ap (sh:=AV Tw) (Ac (l:=[(100,Bx),(147,kn)]) ⟨Sy,AG8,A3⟩) Al func99 (by kernel_rfl) (by decide)).nice λ⟨⟨k,l,()⟩,()⟩ h=>by
 have h:(Aw k&&AG (l.length<=140737488355328))=true:=h;rw[A0,A6]at h;show xr _=AC (Cd (k,l,()),());rw[vF,vG];exact AC1 k l h.1 h.2 l.length 0 AU 0 (by omega) (by unfold AU;omega)
abbrev aH:AE (AB×AE (AB×Sh)):=[(2,[(1,(.obj [.sym,(.dat A8)])),(2,(.one .sym)),(3,(.one .sym))])]
def vH(N:AB)(k:L8)(l:AE BE)(c:AH)(i:AA):BO:=rH prog (Aj [(26,Bx)]) (AV aH) f24 [.bool] N 0 [(1,.pointer (AC ⟨11,0,AF⟩)),(2,.bool c),(3,sy (.int .i64 i))] [.dat A8 l,.row [sy (.string (bs k)),dt 10] 68 AK]
def AG9(x:AM [AW]):BO:=fO prog (Aj [(26,Bx)]) (AV aH) f24 [AW] [.bool] x
theorem AC2(x:AM [AW]):AG9 x=Cy prog (Aj [(26,Bx)]) (AV aH) f24 [AW] [.bool] AU x:=AL
theorem AC3(N:AB)(k:L8)(l:AE BE):Cy prog (Aj [(26,Bx)]) (AV aH) f24 [AW] [.bool] N ((k,l,()),())=vH N k l AK 0:=by kernel_rfl
theorem o9(N:AB)(k:L8)(l:AE BE)(c:AH)(i:AA):vH (N+1) k l c i=eF k l i (vH N k l c (i+1)):=by kernel_rfl
theorem gz{v:BE}{a:AA}{e c:BO}{b:AH}(f:¬v.1<1)(i:¬v.1>1099511627776)(d:a<v.1)(j:e=bO AK)(k:c=bO b):gw v e c=AC (DJ v&&(AG (a<v.1)&&b),()):=by
 obtain⟨n,g,t,⟨⟩⟩:=v;have f:¬n<1:=f;have i:¬n>1099511627776:=i;have d:a<n:=d;unfold gw DJ;dsimp only;rw[BK (show 1<=n by omega),BK (show n<=1099511627776 by omega),BK d,j,k];by_cases h:t.length<=300
 ·rw[Bm (by omega),BK h];cases g
  ·rfl
  ·cases t==[]<;>rfl
 ·rw[Bn (by omega),BP h];rfl
theorem AHA(k:L8)(l:AE BE)(p:Aw k=AD)(z:l.length<=140737488355328):∀(r i N:AB) (a:AA),l.length=i+r->r<N->(i=0->a=0)->(0<i->a=(l.getD (i-1) (A8).dflt).1)->vH N k l AK (i:AA)=AC (IR a (l.drop i)&&(isKey k&&(AG (1<=l.length)&&AG (l.length<=12))),()):=by
 intro r
 induction r with
 |zero=>
  intro i N a q hN _ _;obtain⟨N,rfl⟩:∃m,N=m+1:=⟨N-1,by omega⟩
  rw[o9];unfold eF;rw[Bm (by omega),o7 p,GY (by omega)];rfl
 |succ r s=>
  intro i N a q hN t u;obtain⟨N,rfl⟩:∃m,N=m+1:=⟨N-1,by omega⟩
  have b:i<l.length:=by omega
  have hd:l.drop i=l.getD i (A8).dflt::l.drop (i+1):=by
   rw[Ef b,Bg,B4 b];rfl
  have this:=s (i+1) N (l.getD i (A8).dflt).1 (by omega) (by omega) (λh=>by omega) (λ_=>rfl);simp only[Dz,Fb]at this;have c:A4 .i64 ((i:AA)+1):=AZ.2 ⟨by omega,by omega⟩;have d:(IR a (l.getD i (A8).dflt::l.drop (i+1))&&(isKey k&&(AG (1<=l.length)&&AG (l.length<=12))))=(DJ (l.getD i (A8).dflt)&&(AG (a<(l.getD i (A8).dflt).1)&&(IR (l.getD i (A8).dflt).1 (l.drop (i+1))&&(isKey k&&(AG (1<=l.length)&&AG (l.length<=12)))))):=by
   show((DJ _&&(AG _&&IR _ _))&&_)=_;rw[L5,L5]
  rw[o9];unfold eF;rw[Bn (by omega),show(i:AA).toNat=i from AL,An b,An (by omega),An (by omega),xG,hd,d,this];generalize A:l.getD i (A8).dflt=v;have lo:v.1<1->DJ v=false:=λh=>by unfold DJ;rw[BP (show ¬1<=v.1 by omega)];rfl
  have up:v.1>1099511627776->DJ v=false:=λh=>by unfold DJ;rw[BP (show ¬v.1<=1099511627776 by omega)];exact Gl _
  by_cases f:v.1<1
  ·rw[Bn f,lo f];rfl
  rw[Bm f];by_cases g:v.1>1099511627776
  ·rw[Bn g,up g];rfl
  rw[Bm g];by_cases w:i=0
  ·have y:=t w;rw[Bm (show ¬(i:AA)>0 by omega)];exact gz f g (by omega) rfl (by rw[An c,xG];rfl)
  ·have j:=u (by omega);have e:((i:AA)-1).toNat=i-1:=by omega
   have n:∀x:BO,gd (gP l (i:AA)) x=x:=λx=>by
    unfold gP;rw[e,An (by omega),An (by omega),An (by omega),An (AZ.2 ⟨by omega,by omega⟩),xG]
   rw[Bn (show(i:AA)>0 by omega),e,<-j,n];by_cases o:v.1<=a
   ·rw[Bn o,BP (show ¬a<v.1 by omega),Bool.false_and,Gl];rfl
   ·rw[Bm o];exact gz f g (by omega) rfl (by rw[An c,n];rfl)
theorem xt:PC 24 KQ:=(Ap (sh:=AV aH) (Ac (l:=[(26,Bx)]) ⟨ck,A3⟩) Al func24 (by kernel_rfl) (by decide)).nice λ⟨⟨k,l,()⟩,()⟩ h=>by
 have h:(Aw k&&AG (l.length<=140737488355328))=true:=h;rw[A0,A6]at h;show AG9 _=AC (Cd (k,l,()),());rw[AC2,AC3];exact AHA k l h.1 h.2 l.length 0 AU 0 (by omega) (by unfold AU;omega) (λ_=>rfl) (λh=>Aq h (by decide))
end Go.Proofs.YtkgejlchafionaaGreatDoor
namespace Nice
abbrev IT:Ty:=.int .i64
abbrev JI:Ty:=.pair IT (.pair IT .unit)
abbrev BB:Ty:=.pair IT (.pair JI .unit)
abbrev ALS:Ty:=.pair IT (.pair IT (.pair IT (.pair IT (.pair IT .unit))))
abbrev CY:Ty:=.pair IT (.pair (.slice AW) (.pair (.slice BB) (.pair ALS .unit)))
abbrev Ar:=AA×(AA×AA×ET)×ET
abbrev HH:=AA×AA×AA×AA×AA×ET
abbrev Bc:=AA×AE AX×AE Ar×HH×ET
abbrev vI:=AP (AM [IT])
def A5(n:AA):AA:=bif AG (n<4294967296)then 0 else bif AG (n>=25769803776)then 0 else bif n.tmod 4294967296==0 then 0 else n.tdiv 4294967296
theorem HZ(n:AA):A5 n=0\/A5 n=1\/A5 n=2\/A5 n=3\/A5 n=4\/A5 n=5:=by
 unfold A5;by_cases a:n<4294967296
 ·rw[BK a];exact .inl rfl
 rw[BP a];by_cases b:n>=25769803776
 ·rw[BK b];exact .inl rfl
 rw[BP b];cases n.tmod 4294967296==0
 ·right;have e:n.tdiv 4294967296=n/4294967296:=Int.tdiv_eq_ediv_of_nonneg (by omega);show n.tdiv 4294967296=1\/n.tdiv 4294967296=2\/n.tdiv 4294967296=3\/n.tdiv 4294967296=4\/n.tdiv 4294967296=5;rw[e];omega
 ·exact .inl rfl
def Iv:PSpec:=⟨[IT],[IT],λ_=>AD,λx=>(A5 x.1,())⟩
def Ha(p:AB->AH):AB->AB->AH
 |0,_=>AD
 |r+1,i=>p i&&Ha p r (i+1)
theorem H6{p:AB->AH}:∀{r i:AB},Ha p r i=AD↔∀k,i<=k->k<i+r->p k=AD
 |0,i=>⟨λ_ k b a=>Aq a (by omega),λ_=>rfl⟩
 |r+1,i=>by
  show(p i&&Ha p r (i+1))=AD↔_;rw[A0,H6];constructor
  ·rintro⟨b,a⟩ k c d;by_cases e:k=i
   ·subst e;exact b
   ·exact a k (by omega) (by omega)
  ·exact λh=>⟨h i (Ak _) (by omega),λk c d=>h k (by omega) (by omega)⟩
def As(l:AE AX)(i:AB):AX:=l.getD i (AW).dflt
def B3(e:AX):BE:=e.2.1.getD (e.2.1.length-1) (A8).dflt
def K8(q:AA)(l:AE AX)(i:AB):AH:=Cd (As l i)&&(AG ((B3 (As l i)).1<=q)&&(Af i 0||Op.bytesLess (As l (i-1)).1 (As l i).1))
def X9(x k:AA):AH:=x==0||A5 x==k
def Kj(L:HH):AH:=X9 L.1 1&&(X9 L.2.1 2&&(X9 L.2.2.1 3&&(X9 L.2.2.2.1 4&&X9 L.2.2.2.2.1 5)))
def E2(L:HH)(h:AA):AA:=bif h==1 then L.1 else bif h==2 then L.2.1 else bif h==3 then L.2.2.1 else bif h==4 then L.2.2.2.1 else L.2.2.2.2.1
def Bv(m:AE Ar)(i:AB):Ar:=m.getD i (BB).dflt
def P6(q:AA)(m:Ar):AH:=AG (0<=m.2.1.1)&&(AG (m.2.1.1<=13)&&(AG (0<=m.2.1.2.1)&&AG (m.2.1.2.1<=q)))
def Lp(q:AA)(L:HH)(m:AE Ar)(i:AB):AH:= !(A5 (Bv m i).1==0)&&(AG (E2 L (A5 (Bv m i).1)<=(Bv m i).1)&&((Af i 0||AG ((Bv m (i-1)).1<(Bv m i).1))&&P6 q (Bv m i)))
def C6(s:Bc):AH:=AG (0<=s.1)&&(AG (s.1<=1099511627776)&&(AG (s.2.1.length<=40)&&(AG (s.2.2.1.length<=100)&&(Ha (K8 s.1 s.2.1) s.2.1.length 0&&(Kj s.2.2.2.1&&Ha (Lp s.1 s.2.2.2.1 s.2.2.1) s.2.2.1.length 0)))))
def IU(s:Bc):AH:=s.2.1.all Dy
def Q2:PSpec:=⟨[CY],[.bool],λx=>IU x.1,λx=>(C6 x.1,())⟩
theorem Oi{e:AX}(h:Cd e=AD):1<=e.2.1.length/\e.2.1.length<=12:=by
 unfold Cd at h;simp only[A0,A6]at h;exact h.2.2
theorem gdL{α:Type}{a:AE AH}{x:AP α}(h:∀p,p∈a->p=AD):gd a x=x:=by
 induction a with
 |nil=>exact xG _
 |cons p r b=>
  rw[h p (List.mem_cons_self ..)];exact(BG rfl).trans (b λp c=>h p (List.mem_cons_of_mem _ c))
end Nice
namespace Nice
def FH{α:Type}(p:α->AH):AE α->AB->AA
 |[],_=> -1
 |y::r,i=>if p y then(i:AA)else FH p r (i+1)
def Db(l:AE BE)(a:AA):AA:=FH (λy=>y.1==a) l 0
def Oj(l:AE AX)(key:L8):AA:=FH (λy=>y.1==key) l 0
def pA:PSpec:=⟨[.slice A8,.clo 202 (.pair (.ref IT) .unit)],[IT],λx=>AG (x.1.length<=1000000),λx=>(Db x.1 x.2.1.1,())⟩
def pB:PSpec:=⟨[.slice AW,.clo 116 (.pair (.ref .str) .unit)],[IT],λx=>AG (x.1.length<=1000000),λx=>(Oj x.1 x.2.1.1,())⟩
theorem eG{α β : Type}[Inhabited β](p : β → AH)(q : α → AH)(d : β) : ∀(l : AE α) (a : AE β) (i : AB), a.length = l.length → (∀j (h : j < l.length), p a[j]! = q l[j]) → zv (fun _ y => p y) d a i = FH q l i
  | [], [], _, _, _ => rfl
  | [], _ :: _, _, h, _ => by simp at h
  | _ :: _, [], _, h, _ => by simp at h
  | x :: l, z :: a, i, h, b => by
    have e : p z = q x := b 0 (by simp)
    show(if p z = AD then(i : AA)else zv _ d a (i + 1)) = if q x = AD then(i : AA)else FH q l (i + 1)
    have f : ∀j (c : j < l.length), p a[j]! = q l[j] := fun j c => by
      have := b (j + 1) (by simpa using c)
      rw [List.getElem_cons_succ]at this
      rw [← this]; simp
    rw [e, eG p q d l a (i + 1) (by simpa using h) f]
end Nice
namespace Go.Proofs.YtkgejlchafionaaGreatDoor
open Tryz
open Nice Go.RowKit
theorem hB{fz:AB->AP (Aa AJ)}{w:AN}(g:DK fz w){f:AB}{t:Ty}{x:t.Den}{v:AJ}(i:t.sz=1)(h:xz fz (.clo f (.pair (.ref t) .unit)) (x,()) v):
  ∃(b o:AB) (u:AJ),v=.func (.func f) #[] #[.pointer (AC ⟨b,o,AF⟩)]/\b<w.heap.size/\w.cell? ⟨b,o,AF⟩=AC u/\Cw fz t x [u]:=by
 rcases h with⟨h, -⟩|⟨-,us,j,c1,c2,rfl,⟨b,o,a,rfl,k,l,c⟩,m⟩
 ·cases h
 obtain rfl:c2=[]:=m;obtain⟨el,fr,d⟩:=g b a k;rw[i]at l c;have e:o<a.size:=by omega
 have n:(a.toList.drop o).take 1=[a[o]]:=by
  rw[Ef (by simpa using e),List.take_succ_cons,List.take_zero];simp
 rw[n]at c;refine⟨b,o,a[o],?_,(Uu.1 d).1,?_,c⟩
 ·have:=FP j;simpa using this.1
 ·simp only[C0,d,Df,CI,BR];exact CX e
theorem Tx{fz:AB->AP (Aa AJ)}{w:AN}(f:DK fz w){t:Ty}{d:AE t.Den}{v:AJ}(h:xz fz (.slice t) d v):
  ((∃q c,v=.slice q 0 c)/\d=[])\/∃(b o c:AB) (a:Aa AJ),v=.slice (AC ⟨b,o,AF⟩) d.length c/\b<w.heap.size/\o+d.length*t.sz<=a.size/\(∀i x,d[i]?=AC x->Cw fz t x ((a.toList.drop (o+i*t.sz)).take t.sz))/\∀k u,a[k]?=AC u->w.cell? ⟨b,k,AF⟩=AC u:=by
 rcases h with⟨h, -⟩|⟨-,sv,g,h⟩
 ·cases h
 obtain rfl:v=sv:=(FP g).1;rcases h with⟨⟨q,c,rfl⟩,rfl⟩|⟨b,o,c,a,rfl,j,l, -,m⟩
 ·exact .inl ⟨⟨q,c,rfl⟩,rfl⟩
 ·obtain⟨el,fr,e⟩:=f b a j;refine .inr ⟨b,o,c,a,rfl,(Uu.1 e).1,l,m,λk u n=> ?_⟩;simp only[C0,e,Df,CI,BR];exact n
theorem Mp{a:Aa AJ}{p n i:AB}{u:AJ}(h:((a.toList.drop p).take n)[i]?=AC u):a[p+i]?=AC u:=by
 rw[CB]at h
 split at h
 ·rw[List.getElem?_drop,Bf]at h;exact h
 ·cases h
open Go.Shelf in
theorem eH(a:AP Addr)(c:AB)(fv:AJ)(w:AN):BU prog 201 #[.slice a 0 c,fv] w λe w'=>e=.returned (.int .i64 (-1))/\w'=w:=by
 have mixed:=Tryz.laysIdxV.mixed
 go_enter func201,ntmps201
 go_wp2
 go_loopg [5,8] 0 (λ_ _ b wr=>b=.int .i64 0/\wr=w)
 case atStart=>exact⟨rfl,rfl⟩
 case round=>
  obtain⟨rfl,rfl⟩:=hrel
  go_wp2
  go_ret
  exact⟨rfl,rfl⟩
open Go.Shelf in
theorem eI(a:AP Addr)(c:AB)(fv:AJ)(w:AN):BU prog 115 #[.slice a 0 c,fv] w λe w'=>e=.returned (.int .i64 (-1))/\w'=w:=by
 have mixed:=Tryz.laysIdxE.mixed
 go_enter func115,ntmps115
 go_wp2
 go_loopg [5,8] 0 (λ_ _ b wr=>b=.int .i64 0/\wr=w)
 case atStart=>exact⟨rfl,rfl⟩
 case round=>
  obtain⟨rfl,rfl⟩:=hrel
  go_wp2
  go_ret
  exact⟨rfl,rfl⟩
theorem pC{f:FuncId}{S:PSpec}(h:∀(fz:AB->AP (Aa AJ)) (w:AN) (args:Aa AJ) (x:AM S.ts),DK fz w->NP IP w->CN fz S.ts x args.toList->S.pre x=AD->
  BU prog f args w λe w'=>∃vs,e=.returned (Er vs)/\CN fz S.rs (S.g x) vs/\DU w w'):PC f S:=by
 intro fz w args x a d l m;refine(h fz w args x a d l m).mono ?_;rintro e w' ⟨vs,rfl,n,k⟩;have i:∀b c,fz b=AC c->b<w.heap.size:=λb c j=>by
  obtain⟨e,fr,h⟩:=a b c j;exact(Uu.1 h).1
 exact⟨vs,fz,rfl,λ_ _ h=>h,a.keep λb c j=>k.2.2.2 b (i b c j),λ_ _ h=>.inl h,n,k⟩
theorem WH(w:AN):DU w w:=⟨Ak _,rfl,rfl,λ_ _=>rfl⟩
theorem YA{fz:AB->AP (Aa AJ)}(n:AA):CN fz [IT] (n,()) [.int .i64 n]:=⟨_,_,rfl,.inr ⟨rfl,rfl⟩,rfl⟩
open Go.Shelf in
theorem AC4 : PC 201 pA := pC fun fz w args x f D m E => by
  obtain⟨l, ⟨a, ⟨⟩⟩, ⟨⟩⟩ := x
  have S : l.length ≤ 1000000 := BL E
  obtain⟨F, T, k, G, n⟩ := m
  obtain⟨v2, H, rfl, I, p⟩ := n
  obtain rfl : H = [] := p
  obtain⟨b, o, u, rfl, J, K, L⟩ := hB f (t := IT) rfl I
  obtain rfl : u = .int .i64 a := (FP L).1
  have M : args = #[F, .func (.func 202) #[] #[.pointer (AC ⟨b, o, AF⟩)]] := I1.1 k
  subst M
  rcases Tx f G with⟨⟨q, c, rfl⟩, rfl⟩ | ⟨B, O, C, r, rfl, N, P, s, d⟩
  · refine(eH q c _ w).mono ?_
    rintro e w' ⟨rfl, rfl⟩
    exact⟨[_], rfl, YA _, WH _⟩
  · have g := AnyQ.slices_IndexFunc Tryz.laysIdxV 3 isAgg72 sizeOf72 AA7 (fun _ => rfl) (fun x => x.1 == a) 202 #[.pointer (AC ⟨b, o, AF⟩)] (enters_of func202 (by kernel_rfl) rfl) B O l.length C
      (l.map fun v => (v.1, v.2.1, bs v.2.2.1)) w (Tryz.isVer a b o w J K) (by rw [Eg]; exact Ak _) (by omega) N (fun j h i v z => by
        rw [Eg]at h
        have Q : (l.map fun v => (v.1, v.2.1, bs v.2.2.1))[j]! = ((l[j]).1, (l[j]).2.1, bs (l[j]).2.2.1) := by
          rw [sK _ _ (by rw [Eg]; exact h)]; simp
        rw [Q]at z
        have m := s j l[j] (B4 h)
        have R : (r.toList.drop (O + j * 3)).take 3 = AA7 ((l[j]).1, (l[j]).2.1, bs (l[j]).2.2.1) := by
          obtain⟨c1, c2, k, f1, U, V, rfl, f2, W, X, rfl, f3, f4⟩ := m
          rw [show A8.sz = 3 from AL]at k
          rw [k, f1, f2, f3, f4]; rfl
        rw [← R]at z
        exact d _ _ (Mp z))
    refine g.mono ?_
    rintro e w' ⟨rfl, A⟩
    refine⟨[_], rfl, ?_, Iq A⟩
    have : zu (fun _ (y : AA × AH × Cg) => y.1 == a) ((l.map fun v => (v.1, v.2.1, bs v.2.2.1)).take l.length) default = Db l a := by
      rw [GB (by rw [Eg]; exact Ak _)]
      refine eG (fun (y : AA × AH × Cg) => y.1 == a) (fun y => y.1 == a) default l _ 0 (Eg ..) fun j h => ?_
      rw [sK _ _ (by rw [Eg]; exact h)]; simp
    rw [this]
    exact YA _
open Go.Shelf in
theorem AC5 : PC 115 pB := pC fun fz w args x h E n F => by
  obtain⟨l, ⟨key, ⟨⟩⟩, ⟨⟩⟩ := x
  have S : l.length ≤ 1000000 := BL F
  obtain⟨G, T, m, H, p⟩ := n
  obtain⟨v2, I, rfl, J, r⟩ := p
  obtain rfl : I = [] := r
  obtain⟨b, o, u, rfl, K, L, M⟩ := hB h (t := .str) rfl J
  obtain rfl : u = .string (bs key) := (FP M).1
  have N : args = #[G, .func (.func 116) #[] #[.pointer (AC ⟨b, o, AF⟩)]] := I1.1 m
  subst N
  rcases Tx h H with⟨⟨q, c, rfl⟩, rfl⟩ | ⟨B, O, C, a, rfl, P, Q, s, g⟩
  · refine(eI q c _ w).mono ?_
    rintro e w' ⟨rfl, rfl⟩
    exact⟨[_], rfl, YA _, WH _⟩
  · have D : ∀j (d : j < l.length), ((iy l.length).map fun j => (bs (l.getD j (AW).dflt).1, ((a.toList.drop (O + j * 2)).take 2).getD 1 Bi))[j]! = (bs (l[j]).1, ((a.toList.drop (O + j * 2)).take 2).getD 1 Bi) := fun j d => by
      rw [sK _ _ (by rw [Eg, RQ]; exact d)]
      simp only [List.getElem_map, List.getElem_range]
      rw [Bg, B4 d]; rfl
    have f : ((iy l.length).map fun j => (bs (l.getD j (AW).dflt).1, ((a.toList.drop (O + j * 2)).take 2).getD 1 Bi)).length = l.length := by rw [Eg, RQ]
    have k := AnyQ.slices_IndexFunc Tryz.laysIdxE 2 isAgg68 sizeOf68 AA8 (fun _ => rfl) (fun x => x.1.toList == (bs key).toList) 116 #[.pointer (AC ⟨b, o, AF⟩)] (enters_of func116 (by kernel_rfl) rfl) B O l.length C
      ((iy l.length).map fun j => (bs (l.getD j (AW).dflt).1, ((a.toList.drop (O + j * 2)).take 2).getD 1 Bi)) w (Tryz.isKey (bs key) b o w K L) (by rw [f]; exact Ak _) (by omega) P (fun j d i v z => by
        rw [f]at d
        rw [D j d]at z
        have n := s j l[j] (B4 d)
        have R : (a.toList.drop (O + j * 2)).take 2 = AA8 (bs (l[j]).1, ((a.toList.drop (O + j * 2)).take 2).getD 1 Bi) := by
          obtain⟨c1, c2, m, f1, U, V, rfl, ⟨sv, f2, -⟩, f3⟩ := n
          rw [show AW.sz = 2 from AL]at m
          rw [m, f1, f2, f3]; rfl
        rw [← R]at z
        exact g _ _ (Mp z))
    refine k.mono ?_
    rintro e w' ⟨rfl, A⟩
    refine⟨[_], rfl, ?_, Iq A⟩
    have : zu (fun _ (y : Cg × AJ) => y.1.toList == (bs key).toList) (((iy l.length).map fun j => (bs (l.getD j (AW).dflt).1, ((a.toList.drop (O + j * 2)).take 2).getD 1 Bi)).take l.length) default = Oj l key := by
      rw [GB (by rw [f]; exact Ak _)]
      refine eG (fun (y : Cg × AJ) => y.1.toList == (bs key).toList) (fun y => y.1 == key) default l _ 0 f fun j d => ?_
      rw [D j d]
      show((bs (l[j]).1).toList == (bs key).toList) = _
      rw [II, II, mh, mh]
    rw [this]
    exact YA _
end Go.Proofs.YtkgejlchafionaaGreatDoor
namespace Nice
def Lq:PSpec:=⟨[.int .i64,.int .i64],[.str],λx=>C4 x.1&&x.2.1==10,λx=>(GE x.1,())⟩
def Lr:OSpec:=⟨AK,0,.unit,0,[.d (.slice .str)],[.vec .str 9],λ_ y=>AG (y.1.length<=8796093022208),λx y=>(x,y.1,())⟩
end Nice
namespace Go.Proofs.YtkgejlchafionaaGreatDoor
open Tryz
open Nice Go.RowKit
theorem pD:PC 48 Lq:=Ta λfz w args x a g h=>by
 obtain⟨n,b,⟨⟩⟩:=x;have f:(C4 n&&b==10)=true:=h;rw[A0,beq_iff_eq]at f;obtain⟨i,rfl⟩:=f;obtain⟨j,l⟩:=Od.1 i;obtain⟨_,_,m,g1,c⟩:=EY rfl g;obtain⟨_,o,rfl,p,d⟩:=EY rfl c;obtain rfl:o=[]:=d;cases g1;cases p;have q:args=#[.int .i64 n,.int .i64 10]:=I1.1 m
 subst q;refine(Tryz.strconv_FormatInt_10 n j l w (oh a)).mono ?_;rintro e w' ⟨rfl,k,os,rfl⟩;exact⟨[.string (bs (Cr n))],rfl,⟨_,_,rfl,.inr ⟨rfl,rfl⟩,rfl⟩,P5 _ _ _⟩
theorem AHB:(Tryz.prog.info? 9).map (·.size)=AC 1:=by kernel_rfl
theorem AC6{w:AN}{B n:AB}{v:AJ}{l:AE (L8)}(q:n=l.length)(h:w.ownsRow B 9 1 v n (l.map λs=>E9 (bs s))):∃r:Reg,r.sv=v/\(∀b,b∈(bif r.own then [r.blk]else []:AE AB)->B<=b)/\BI prog (λ_=>r) 0 w (.vec .str l 9)/\∀b,r.fz b=none:=by
 subst q;obtain⟨E,h⟩:=h;rcases h with⟨rfl,t⟩|⟨g,cap,a,rfl,F,u,e,_,f,j⟩
 ·have:l=[]:=zx t;subst this;refine⟨⟨0,0,0,1,AK,λ_=>AF,.slice AF 0 0⟩,rfl,λb d=>(by cases d),?_,λ_=>rfl⟩;exact⟨rfl,λb c d=>(nomatch d),.inl ⟨rfl,rfl,AF,rfl⟩⟩
 ·refine⟨⟨g,0,a.size,1,AD,λ_=>AF,.slice (AC ⟨g,0,AF⟩) l.length cap⟩,rfl,λb d=> ?_,?_,λ_=>rfl⟩
  ·have:b=g:=by simpa using d
   omega
  refine⟨rfl,?_,.inr ⟨rfl,?_,cap,a,(0,0),rfl,e,u,Nat.zero_add _,?_,λi m=> ?_,?_,?_⟩⟩
  ·intro b c d;cases d
  ·rintro⟨c,e⟩;cases e
  ·show cap*1<=a.size;omega
  ·have:=AHB;rw[m]at this;have:i.size=1:=Dw this;rw[this];exact⟨rfl,rfl,Nat.mod_one _⟩
  ·intro o _ y;have:=y.2;omega
  ·show Et (λ_=>AF) .str l (a.toList.drop 0);rw[Do];intro i x p;have m:i<l.length:=(MJ.1 p).1;have z:a.toList.length=cap:=by rw[D0,f,Gd]
   refine⟨by show i*1+1<=_;omega,?_⟩;have A:a.toList[i]?=AC (.string (bs x)):=by
    have k:(a.toList.take (l.length*1))[i]?=AC (.string (bs x)):=by
     rw[j,Fe,p];rfl
    rw[CB]at k;rw[if_pos (by omega)]at k;exact k
   obtain⟨C,D⟩:=MJ.1 A;show(a.toList.drop (i*1)).take 1=[E9 (bs x)];rw[Gd,Ef C,D];rfl
theorem vJ:OC 203 Lr:=by
 intro fz w r t I args x y B L hN M N _ C D u;obtain⟨l,⟨⟩⟩:=y;have T:l.length<=8796093022208:=BL u;have O:t=[]:=C rfl;obtain⟨v,J,P,U,rfl,rfl,z,k,E⟩:=D;subst k E O;have z:P=[]/\Cw fz (.slice .str) l [v]:=by
  rcases z with⟨h,_⟩|⟨_,h⟩
  ·cases h
  ·exact h
 obtain⟨rfl,sv,F,z⟩:=z;cases F;show BU prog 203 #[v] w _;have fin:∀(v':AJ) (w':AN),w'.ownsRow w.heap.size 9 1 v' l.length (l.map λs=>E9 (bs s))->Below w.heap.size w w'->uF prog Lr fz w r ([]++([]++[])) (x,l,()) (.returned v') w':=λv' w' n d=>by
  obtain⟨i,rfl,K,Q,R⟩:=AC6 rfl n;have f:∀b c,fz b=AC c->b<w.heap.size:=λb c d=>by
   obtain⟨e,fr,h⟩:=B b c d;exact(Uu.1 h).1
  refine⟨[i.sv],fz,[],(bif i.own then [i.blk]else []),rfl,λ_ _ h=>h,B.keep λb c h=>d.block b (f b c h),λ_ _ h=>.inl h,?_,λb d=> ?_,λb d=>.inr (K b (by simpa using d)),λh=>(by cases h),λ_=>rfl,⟨i.sv,[],_,[],rfl,(Ce _).symm,.inr ⟨rfl,i,rfl,rfl,Q,λb c h=>by rw[R b]at h;cases h⟩,rfl,rfl⟩,d.size,d.os,d.output,λb f _=>d.block b f⟩
  ·show([]++([]++(bif i.own then [i.blk]else []))).Nodup;cases i.own
   ·exact List.nodup_nil
   ·simp
  ·have d:b∈(bif i.own then [i.blk]else []:AE AB):=by simpa[Iw,Lr]using d
   have:=K b d;cases G:fz b with
   |none=>rfl
   |some c=>have:=f b c G;omega
 rcases z with⟨⟨q,c,rfl⟩,rfl⟩|⟨b,o,c,g,rfl,d,A,V,S⟩
 ·cases q with
  |none=>
   refine(Tryz.slices_Clone_string_nil 0 c w).mono ?_;rintro e w' ⟨rfl,rfl⟩;exact fin _ _ ⟨rfl,.inl ⟨rfl,rfl⟩⟩ (Below.refl _ _)
  |some a=>
   refine(Tryz.slices_Clone_string_zero a c w).mono ?_;rintro e w' ⟨v',rfl,n,_,d⟩;exact fin _ _ n d
 ·obtain⟨e,fr,m⟩:=B b g d;refine(Tryz.slices_Clone_string b o l.length c (l.map bs) w (by rw[Eg];exact Ak _) (by omega) (λj H=> ?_)).mono ?_
  ·rw[Eg]at H;have p:=S j l[j] (B4 H);have p:(g.toList.drop (o+j*1)).take 1=[E9 (bs l[j])]:=p;have A:o+l.length*1<=g.size:=A;have f:o+j<g.toList.length:=by rw[D0];omega
   rw[Gd,Ef f]at p;have p:g.toList[o+j]=E9 (bs l[j]):=(FP p).1;simp only[C0,m,Df,CI,BR];rw[Bg,Fe,B4 H];show g[o+j]?=AC (.string (bs l[j]))
   rw[<-p,<-Bf,B4 f]
  ·rintro e w' ⟨v',rfl,n,_,d⟩;have:((l.map bs).take l.length).map E9=l.map λs=>E9 (bs s):=by
    rw[GB (by rw[Eg];exact Ak _),List.map_map];rfl
   rw[this]at n;exact fin _ _ n d
end Go.Proofs.YtkgejlchafionaaGreatDoor
namespace Nice
abbrev K9:Ty:=.pair (.slice .str) (.pair (.slice AW) (.pair .bool (.pair .str .unit)))
abbrev U0:Type:=AE (L8)×AE AX×AH×L8×ET
def IV(l:AE AX):AH:=AG (l.length<=1099511627776)&&l.all Dy
def Tz(l:AE AX):AH:=l.any λe=> !Cd e
def WI(l:AE AX):AA:=bif Tz l then((l.takeWhile Cd).length:AA)else -1
def WJ:PSpec:=⟨[AW],[.bool],λx=>Dy x.1,λx=>(!Cd x.1,())⟩
def pE:PSpec:=⟨[.slice AW,.fn 165],[.int .i64],λx=>IV x.1,λx=>(WI x.1,())⟩
def T0:PSpec:=⟨[.slice AW,.fn 165],[.bool],λx=>IV x.1,λx=>(Tz x.1,())⟩
def Dc(n:AE (L8))(l:AE AX):AE (L8):=n++l.map (·.1)
def aI(s:U0):AH:=AG (s.1.length<=1099511627776)&&AG (s.2.1.length<=1099511627776)
def T1:PSpec:=⟨[K9],[.slice .str],λx=>aI x.1,λx=>(Dc x.1.1 x.1.2.1,())⟩
def Je:L8->AE (L8)->AH
 |_,[]=>AD
 |last,k::r=>isKey k&&(CG last k&&Je k r)
theorem ANJ(a k:L8)(r:AE (L8)):Je a (k::r)=(isKey k&&(CG a k&&Je k r)):=AL
def Hq(t:L8):AE (L8)->L8
 |[]=>t
 |k::r=>Hq k r
def WK:L8->AE AX->AH
 |_,[]=>AD
 |last,e::r=>Cd e&&(CG last e.1&&WK e.1 r)
theorem T2(a:L8)(e:AX)(r:AE AX):WK a (e::r)=(Cd e&&(CG a e.1&&WK e.1 r)):=AL
def Kk(s:U0):AH:= !(AG (0<s.1.length)&&AG (0<s.2.1.length))&&(Je [] (Dc s.1 s.2.1)&&(s.2.1.all Cd&&(AG ((Dc s.1 s.2.1).length<=20)&&(bif s.2.2.1 then AG (0<(Dc s.1 s.2.1).length)&&s.2.2.2.1==Hq [] (Dc s.1 s.2.1)else s.2.2.2.1==[]))))
def IW(s:U0):AH:=AG (s.1.length<=1099511627776)&&(s.1.all Aw&&IV s.2.1)
def Ls:PSpec:=⟨[K9],[.bool],λx=>IW x.1,λx=>(Kk x.1,())⟩
theorem Ol:∀(a b:L8),CG a b= !(CG b a||b==a)
 |[],[]=>by simp[CG]
 |[],_::_=>by simp[CG]
 |_::_,[]=>by simp[CG]
 |x::a,y::b=>by
  have f:=Ol a b;simp only[CG];rcases Nat.lt_trichotomy x.toNat y.toNat with h|h|h
  ·have c:x<y:=Ul.2 h;have d:¬y<x:=λh=>by have:=Ul.1 h;omega
   have e:(y==x)=false:=by
    rw[CE];rintro rfl;exact Aq h (iz _)
   simp[c,d,e,zw]
  ·have c:x=y:=UInt8.toNat_inj.1 h;subst c;simp[f,zw]
  ·have c:y<x:=Ul.2 h;have d:¬x<y:=λh=>by have:=Ul.1 h;omega
   have e:x≠y:=by rintro rfl;exact Aq h (iz _)
   simp[c,d,e]
theorem pF{k:L8}(h:isKey k=AD):CG [] k=true:=by
 cases k with
 |nil=>exact Aq h (by decide)
 |cons a b=>simp[CG]
theorem D8{k:L8}(h:isKey k=AD):k.length<=40:=by
 unfold isKey at h;rw[A0,A0,A6,A6]at h;exact h.2.2
theorem pG{e:AX}(h:Cd e=AD):isKey e.1=true:=by
 unfold Cd at h;rw[A0,A0]at h;exact h.2.1
theorem WL:∀(n m:AE (L8)) (t:L8),Je t (n++m)=(Je t n&&Je (Hq t n) m)
 |[],_,_=>by rw[DN];exact(Cz _).symm
 |k::n,m,t=>by rw[Gk,ANJ,ANJ,WL n m k,L5,L5];rfl
theorem WM:∀(n m:AE (L8)) (t:L8),Hq t (n++m)=Hq (Hq t n) m
 |[],_,_=>rfl
 |k::n,m,_=>WM n m k
theorem aJ:∀(l:AE AX) (t:L8),WK t l=(Je t (l.map (·.1))&&l.all Cd)
 |[],_=>rfl
 |e::l,t=>by
  rw[T2,PM,ANJ,aJ l e.1,List.all_cons];cases h:Cd e
  ·simp
  ·rw[pG h];cases CG t e.1
   ·rfl
   ·cases Je e.1 (l.map (·.1))<;>rfl
theorem T3:∀(k:AE (L8)) (t:L8),0<k.length->Hq t k=k.getD (k.length-1) []
 |[],_,h=>Aq h (by decide)
 |[a],_,_=>rfl
 |a::b::k,t,_=>by
  have:=T3 (b::k) a (by simp);show Hq a (b::k)=_;rw[this];rfl
def eJ(l:AE AX)(b i:AA)(nx:AP (AM [.int .i64])):AP (AM [.int .i64]):=
 bif AG (i<b)then(bif !Cd ((l.getD i.toNat (AW).dflt).1,(l.getD i.toNat (AW).dflt).2.1,())then gd [Dy ((l.getD i.toNat (AW).dflt).1,(l.getD i.toNat (AW).dflt).2.1,()),AG (i.toNat<l.length),AG (0<=i),AG (i<(l.length:AA))] (AC (i,()))
  else gd [AG (A4 .i64 (i+1)),Dy ((l.getD i.toNat (AW).dflt).1,(l.getD i.toNat (AW).dflt).2.1,()),AG (i.toNat<l.length),AG (0<=i),AG (i<(l.length:AA))] nx)
 else AC (-1,())
end Nice
namespace Go.Proofs.YtkgejlchafionaaGreatDoor
open Tryz
open Nice Go.RowKit
def xu(x:AM [AW]):BO:=fO prog (Aj [(99,KQ)]) (AV []) f165 [AW] [.bool] x
theorem AHC(k:L8)(l:AE BE):xu ((k,l,()),())=(bif Cd (k,l,())then gd [Dy (k,l,())] (bO AK)else gd [Dy (k,l,())] (bO AD)):=by kernel_rfl
theorem AC7:PC 165 WJ:=(Ap (Ac (l:=[(99,KQ)]) ⟨o8,A3⟩) Al func165 (by kernel_rfl) (by decide)).nice λ⟨⟨k,l,()⟩,()⟩ h=>by
 have h:Dy (k,l,())=true:=h;show xu _=AC (!Cd (k,l,()),());rw[AHC,BG h,BG h,xG,xG];cases Cd (k,l,())<;>rfl
abbrev T4:AE (AB×AE (AB×Sh)):=[(2,[(0,(.one (.dat AW))),(1,(.one .any)),(4,(.one .sym)),(7,(.one .sym)),(8,(.one .sym))])]
def hF(n:AB)(l:AE AX)(a b i:AA):AP (AM [.int .i64]):=rH prog (Aj [(165,WJ)]) (AV T4) f115 [.int .i64] n 0 [(0,dt 10),(1,Value.func (Fn.func 165) #[] #[]),(4,sy (.int .i64 a)),(7,sy (.int .i64 b)),(8,sy (.int .i64 i))] [.dat AW l]
def xv(x:AM [.slice AW,.fn 165]):AP (AM [.int .i64]):=fO prog (Aj [(165,WJ)]) (AV T4) f115 [.slice AW,.fn 165] [.int .i64] x
theorem vK(x:AM [.slice AW,.fn 165]):xv x=Cy prog (Aj [(165,WJ)]) (AV T4) f115 [.slice AW,.fn 165] [.int .i64] AU x:=AL
theorem vL(N:AB)(l:AE AX):Cy prog (Aj [(165,WJ)]) (AV T4) f115 [.slice AW,.fn 165] [.int .i64] N (l,(),())=hF N l 0 (l.length:AA) 0:=by kernel_rfl
theorem ANt(n:AB)(l:AE AX)(a b i:AA):hF (n+1) l a b i=eJ l b i (hF n l a b (i+1)):=by kernel_rfl
theorem AC8(l:AE AX)(g:l.length<=1099511627776)(c:∀h,h∈l->Dy h=AD):∀(r i n:AB),l.length=i+r->r<n->hF n l 0 (l.length:AA) (i:AA)=AC ((bif (l.drop i).any (λh=> !Cd h)then(i:AA)+((l.drop i).takeWhile Cd).length else -1),()):=by
 intro r
 induction r with
 |zero=>
  intro i n d e;obtain⟨n,rfl⟩:∃k,n=k+1:=⟨n-1,by omega⟩
  rw[ANt];unfold eJ;rw[Bm (by omega),GY (by omega)];rfl
 |succ r f=>
  intro i n d e;obtain⟨n,rfl⟩:∃k,n=k+1:=⟨n-1,by omega⟩
  have a:i<l.length:=by omega
  have hd:l.drop i=l.getD i (AW).dflt::l.drop (i+1):=by
   rw[Ef a,Bg,B4 a];rfl
  have b:Dy (l.getD i (AW).dflt)=true:=c _ (by
   rw[Bg,B4 a];exact EK a)
  rw[ANt];unfold eJ;rw[Bn (by omega),show(i:AA).toNat=i from AL,hd,List.any_cons,List.takeWhile_cons,show((l.getD i (AW).dflt).1,(l.getD i (AW).dflt).2.1,())=l.getD i (AW).dflt from AL];cases j:Cd (l.getD i (AW).dflt)
  ·rw[FU,xT,BG b,An (by omega),An (by omega),An (by omega),xG,Bool.true_or,xT];simp
  ·have:=f (i+1) n (by omega) (by omega);simp only[Dz,Fb]at this;rw[GG,xF,An (AZ.2 ⟨by omega,by omega⟩),BG b,An (by omega),An (by omega),An (by omega),xG,this,Bool.false_or];cases(l.drop (i+1)).any λh=> !Cd h
   ·rfl
   ·simp only[xT,if_true,B7,Dz,Fb];congr 2;omega
theorem P7{l:AE AX}:IV l=AD↔l.length<=1099511627776/\∀h,h∈l->Dy h=true:=by
 unfold IV;rw[A0,A6,C8]
theorem AC9:PC 115 pE:=(Ap (sh:=AV T4) (Ac (l:=[(165,WJ)]) ⟨AC7,A3⟩) Al func115 (by kernel_rfl) (by decide)).nice λ⟨l,(),()⟩ h=>by
 obtain⟨a,b⟩:=P7.1 h;have a:l.length<=1099511627776:=a;show xv _=AC (WI l,());rw[vK,vL];refine FL (AC8 l a b l.length 0 AU (by omega) (by unfold AU;omega)) ?_;unfold WI Tz;rw[Do];cases l.any λh=> !Cd h
 ·rfl
 ·simp
def xw(x:AM [.slice AW,.fn 165]):BO:=fO prog (Aj [(115,pE)]) (AV []) f164 [.slice AW,.fn 165] [.bool] x
theorem AHD(l:AE AX):xw (l,(),())=(bif AG (WI l>=0)then gd [IV l] (bO AD)else gd [IV l] (bO AK)):=by kernel_rfl
theorem pH(l:AE AX):AG (WI l>=0)=Tz l:=by
 unfold WI;cases Tz l
 ·rfl
 ·exact BK (by show(0:AA)<=_;rw[xT];omega)
theorem ADA:PC 164 T0:=(Ap (Ac (l:=[(115,pE)]) ⟨AC9,A3⟩) Al func164 (by kernel_rfl) (by decide)).nice λ⟨l,(),()⟩ h=>by
 have h:IV l=true:=h;show xw _=AC (Tz l,());rw[AHD,pH,BG h,BG h,xG,xG];cases Tz l<;>rfl
abbrev T5:AE (AB×AE (AB×Sh)):=[(3,[(2,(.one .any)),(3,(.one (.vec .str 9))),(10,(.one (.dat AW))),(11,(.one .sym)),(12,(.one .sym))])]
def hI(N:AB)(o:AE (L8))(l:AE AX)(m i:AA):AP (AM [.slice .str]):=rH prog (GF [] [(203,Lr)]) (AV T5) f163 [.slice .str] N 0 [(2,Value.slice AF 0 0),(3,dt 10),(10,dt 11),(11,sy (.int .i64 m)),(12,sy (.int .i64 i))] [.vec .str o 9,.dat AW l]
def xx(x:AM [K9]):AP (AM [.slice .str]):=fO prog (GF [] [(203,Lr)]) (AV T5) f163 [K9] [.slice .str] x
theorem vM(x:AM [K9]):xx x=Cy prog (GF [] [(203,Lr)]) (AV T5) f163 [K9] [.slice .str] AU x:=AL
theorem vN(N:AB)(n:AE (L8))(l:AE AX)(m:AH)(x:L8):Cy prog (GF [] [(203,Lr)]) (AV T5) f163 [K9] [.slice .str] N ((n,l,m,x,()),())=
 gd [AG (n.length<=8796093022208)] (hI N n l (l.length:AA) 0):=by kernel_rfl
theorem hJ(N:AB)(o:AE (L8))(l:AE AX)(m i:AA):hI (N+1) o l m i=
 (bif AG (i<m)then gd [AG (A4 .i64 (i+1)),AG ((2*(o.length+[(l.getD i.toNat (AW).dflt).1].length)+400)*16<=281474976710656),AG (i.toNat<l.length),AG (0<=i),AG (i<(l.length:AA))] (hI N (o++[(l.getD i.toNat (AW).dflt).1]) l m (i+1))else AC (o,())):=by kernel_rfl
theorem ADB(l:AE AX)(e:l.length<=1099511627776):∀(r i N:AB) (o:AE (L8)),l.length=i+r->r<N->o.length<=1099511627776+i->hI N o l (l.length:AA) (i:AA)=AC (o++(l.drop i).map (·.1),()):=by
 intro r
 induction r with
 |zero=>
  intro i N o c hN _;obtain⟨N,rfl⟩:∃m,N=m+1:=⟨N-1,by omega⟩
  rw[hJ,Bm (by omega),GY (by omega)];simp
 |succ r d=>
  intro i N o c hN f;obtain⟨N,rfl⟩:∃m,N=m+1:=⟨N-1,by omega⟩
  have b:i<l.length:=by omega
  have hd:l.drop i=l.getD i (AW).dflt::l.drop (i+1):=by
   rw[Ef b,Bg,B4 b];rfl
  have a:([(l.getD i (AW).dflt).1]:AE (L8)).length=1:=AL;have this:=d (i+1) N (o++[(l.getD i (AW).dflt).1]) (by omega) (by omega) (by rw[BA,a];omega);simp only[Dz,Fb]at this;rw[hJ,Bn (by omega),show(i:AA).toNat=i from AL,a,An (AZ.2 ⟨by omega,by omega⟩),An (by omega),An b,An (by omega),An (by omega),xG,this,hd,PM,C9];rfl
theorem ADC:PC 163 T1:=(Ap (sh:=AV T5) (Cb (l:=[]) (o:=[(203,Lr)]) trivial ⟨vJ,A3⟩) Al func163 (by kernel_rfl) (by decide)).nice λ⟨⟨n,l,m,x,()⟩,()⟩ h=>by
 have h:(AG (n.length<=1099511627776)&&AG (l.length<=1099511627776))=true:=h;rw[A0,A6,A6]at h;show xx _=AC (Dc n l,());rw[vM,vN,An (by omega),xG];exact ADB l h.2 l.length 0 AU n (by omega) (by unfold AU;omega) (by omega)
end Go.Proofs.YtkgejlchafionaaGreatDoor
namespace Nice
def T6(k:AE (L8))(m i:AA)(nx a:BO):BO:=
 bif AG (i<m)then gd [AG (i.toNat<k.length),AG (0<=i),AG (i<(k.length:AA))] (bif isKey (k.getD i.toNat Ty.str.dflt)then
     (bif AG (i>0)then(bif !Op.bytesLess (k.getD (i-1).toNat Ty.str.dflt) (k.getD i.toNat Ty.str.dflt)then gd [AG ((i-1).toNat<k.length),AG (0<=i-1),AG (i-1<(k.length:AA)),AG (A4 .i64 (i-1)),Aw (k.getD i.toNat Ty.str.dflt)] (bO AK)
      else gd [AG (A4 .i64 (i+1)),AG ((i-1).toNat<k.length),AG (0<=i-1),AG (i-1<(k.length:AA)),AG (A4 .i64 (i-1)),Aw (k.getD i.toNat Ty.str.dflt)] nx)
     else gd [AG (A4 .i64 (i+1)),Aw (k.getD i.toNat Ty.str.dflt)] nx)
  else gd [Aw (k.getD i.toNat Ty.str.dflt)] (bO AK))else a
abbrev gL(k:AE (L8)):AE AH:=[AG (((k.length:AA)-1).toNat<k.length),AG (0<=(k.length:AA)-1),AG ((k.length:AA)-1<(k.length:AA)),AG (A4 .i64 ((k.length:AA)-1))]
def exT(l:AE AX)(x:L8)(k:AE (L8)):BO:=
 bif Tz l then gd [IV l] (bif AG ((k.length:AA)>0)then gd (gL k) (bO AK)else bO AK)
 else gd [IV l] (bif AG ((k.length:AA)>0)then gd (gL k) (bif AG ((k.length:AA)<=20)then(bif x==k.getD ((k.length:AA)-1).toNat Ty.str.dflt then(bif AG ((k.length:AA)>0)then bO AD else bO AK)else bO AK)else bO AK)
  else(bif AG ((k.length:AA)<=20)then(bif x==[]then(bif AG ((k.length:AA)>0)then bO AD else bO AK)else bO AK)else bO AK))
def exF(l:AE AX)(x:L8)(k:AE (L8)):BO:=
 bif Tz l then gd [IV l] (bO AK)else gd [IV l] (bif AG ((k.length:AA)<=20)then(bif x==[]then bO AD else bO AK)else bO AK)
def exB(b:AH)(l:AE AX)(x:L8)(k:AE (L8)):BO:=match b with
 |true=>exT l x k
 |false=>exF l x k
theorem AHF(b:AH){l:AE AX}(x:L8){k:AE (L8)}(h:IV l=AD)(g:k.length<=4398046511104):exB b l x k=AC (l.all Cd&&(AG (k.length<=20)&&(bif b then AG (0<k.length)&&x==Hq [] k else x==[])),()):=by
 have d:Tz l= !l.all Cd:=by
  unfold Tz;rw[List.not_all_eq_any_not]
 cases b
 ·show exF l x k=_;unfold exF;rw[BG h,BG h,d];cases l.all Cd
  ·rfl
  ·by_cases a:k.length<=20
   ·rw[Bn (show(k.length:AA)<=20 by omega),BK a];cases x==[]<;>rfl
   ·rw[Bm (show ¬(k.length:AA)<=20 by omega),BP a];rfl
 ·show exT l x k=_;unfold exT;rw[BG h,BG h,d];by_cases e:0<k.length
  ·have c:∀y:BO,gd (gL k) y=y:=λy=>by
    unfold gL;rw[An (by omega),An (by omega),An (by omega),An (AZ.2 ⟨by omega,by omega⟩),xG]
   have f:k.getD ((k.length:AA)-1).toNat Ty.str.dflt=Hq [] k:=by
    rw[T3 k [] e,show((k.length:AA)-1).toNat=k.length-1 by omega];rfl
   rw[Bn (show(k.length:AA)>0 by omega),f,BK e,Cz,c];cases l.all Cd
   ·rfl
   ·by_cases a:k.length<=20
    ·rw[Bn (show(k.length:AA)<=20 by omega),Bn (show(k.length:AA)>0 by omega),BK a,c];cases x==Hq [] k<;>first|rfl|(rw[Bn (show(k.length:AA)>0 by omega)];rfl)
    ·rw[Bm (show ¬(k.length:AA)<=20 by omega),BP a,c];first|rfl|(rw[Bn (show(k.length:AA)>0 by omega)];rfl)
  ·have:k=[]:=zx (by omega);subst this;cases l.all Cd
   ·rfl
   ·cases x==[]<;>rfl
def aK(s:U0)(y:BO):BO:=bif AG ((s.1.length:AA)>0)then(bif AG ((s.2.1.length:AA)>0)then bO AK else gd [aI s] y)else gd [aI s] y
theorem vO{s:U0}{b:AH}{y:BO}(h:aI s=AD)(d:y=AC (b,())):aK s y=AC (!(AG (0<s.1.length)&&AG (0<s.2.1.length))&&b,()):=by
 subst d;unfold aK;rw[BG h,xG];by_cases a:0<s.1.length
 ·rw[Bn (by omega),BK a];by_cases c:0<s.2.1.length
  ·rw[Bn (by omega),BK c];rfl
  ·rw[Bm (by omega),BP c];rfl
 ·rw[Bm (by omega),BP a];rfl
theorem WN{s:U0}:IW s=AD↔s.1.length<=1099511627776/\(∀k,k∈s.1->Aw k=AD)/\IV s.2.1=true:=by
 unfold IW;rw[A0,A0,A6,C8]
end Nice
namespace Go.Proofs.YtkgejlchafionaaGreatDoor
open Tryz
open Nice Go.RowKit
abbrev P8:AE (AB×AE (AB×Sh)):=[(5,[(1,(.obj [(.dat .str),(.dat AW),.sym,.sym])),(2,(.one .sym)),(3,(.one (.dat .str))),(20,(.one (.dat .str))),(21,(.one .sym)),(22,(.one .sym))])]
def Mq(N:AB)(n:AE (L8))(l:AE AX)(b:AH)(x:L8)(k:AE (L8))(m i:AA):BO:=rH prog (Aj [(163,T1),(100,Bx),(164,T0)]) (AV P8) f119 [.bool] N 0 [(1,.pointer (AC ⟨12,0,AF⟩)),(2,.bool AK),(3,dt 13),(20,dt 14),(21,sy (.int .i64 m)),(22,sy (.int .i64 i))] [.dat .str n,.dat AW l,.row [dt 10,dt 11,.bool b,sy (.string (bs x))] 139 AK,.dat .str k,.dat .str k]
def xy(x:AM [K9]):BO:=fO prog (Aj [(163,T1),(100,Bx),(164,T0)]) (AV P8) f119 [K9] [.bool] x
theorem vP(x:AM [K9]):xy x=Cy prog (Aj [(163,T1),(100,Bx),(164,T0)]) (AV P8) f119 [K9] [.bool] AU x:=AL
theorem pI(N:AB)(n:AE (L8))(l:AE AX)(x:L8):Cy prog (Aj [(163,T1),(100,Bx),(164,T0)]) (AV P8) f119 [K9] [.bool] N ((n,l,AD,x,()),())=aK (n,l,AD,x,()) (Mq N n l AD x (Dc n l) ((Dc n l).length:AA) 0):=by kernel_rfl
theorem pJ(N:AB)(n:AE (L8))(l:AE AX)(x:L8):Cy prog (Aj [(163,T1),(100,Bx),(164,T0)]) (AV P8) f119 [K9] [.bool] N ((n,l,AK,x,()),())=aK (n,l,AK,x,()) (Mq N n l AK x (Dc n l) ((Dc n l).length:AA) 0):=by kernel_rfl
theorem pK(N:AB)(n:AE (L8))(l:AE AX)(x:L8)(k:AE (L8))(m i:AA):Mq (N+1) n l AD x k m i=T6 k m i (Mq N n l AD x k m (i+1)) (exB AD l x k):=by kernel_rfl
theorem pL(N:AB)(n:AE (L8))(l:AE AX)(x:L8)(k:AE (L8))(m i:AA):Mq (N+1) n l AK x k m i=T6 k m i (Mq N n l AK x k m (i+1)) (exB AK l x k):=by kernel_rfl
theorem ANu(N:AB)(n:AE (L8))(l:AE AX)(b:AH)(x:L8)(k:AE (L8))(m i:AA):Mq (N+1) n l b x k m i=T6 k m i (Mq N n l b x k m (i+1)) (exB b l x k):=by
 cases b
 ·exact pL N n l x k m i
 ·exact pK N n l x k m i
theorem ADD(n:AE (L8))(l:AE AX)(b:AH)(x:L8)(k:AE (L8))(q:k.length<=4398046511104)(h:∀s,s∈k->Aw s=AD)(c:AH)(j:exB b l x k=AC (c,())):∀(r i N:AB),k.length=i+r->r<N->Mq N n l b x k (k.length:AA) (i:AA)=AC (Je (bif i==0 then []else k.getD (i-1) []) (k.drop i)&&c,()):=by
 intro r
 induction r with
 |zero=>
  intro i N o hN;obtain⟨N,rfl⟩:∃m,N=m+1:=⟨N-1,by omega⟩
  rw[ANu];unfold T6;rw[Bm (by omega),GY (by omega),j];rfl
 |succ r p=>
  intro i N o hN;obtain⟨N,rfl⟩:∃m,N=m+1:=⟨N-1,by omega⟩
  have a:i<k.length:=by omega
  have hd:k.drop i=k.getD i []::k.drop (i+1):=by
   rw[Ef a,Bg,B4 a];rfl
  have f:Aw (k.getD i [])=true:=h _ (by
   rw[Bg,B4 a];exact EK a)
  have this:=p (i+1) N (by omega) (by omega);rw[show((i+1:AB)==0)=AK from AL,xF,Nat.add_sub_cancel]at this;simp only[Dz,Fb]at this;have d:A4 .i64 ((i:AA)+1):=AZ.2 ⟨by omega,by omega⟩;rw[ANu];unfold T6;rw[Bn (by omega),show(i:AA).toNat=i from AL,show k.getD i Ty.str.dflt=k.getD i []from AL,An a,An (by omega),An (by omega),xG,hd,ANJ,this]
  cases e:isKey (k.getD i [])
  ·rw[xF,BG f,xG];rfl
  ·rw[xT,Cz];rcases br i with g|g
   ·subst g;rw[Bm (by omega),An d,BG f,xG,show((0:AB)==0)=AD from AL,xT,pF e,Cz]
   ·rw[Bn (by omega),show((i:AA)-1).toNat=i-1 by omega,show(i==0)=AK from by rw[CE];omega,xF,show k.getD (i-1) Ty.str.dflt=k.getD (i-1) []from AL];cases CG (k.getD (i-1) []) (k.getD i [])
    ·rw[FU,xT,An (by omega),An (by omega),An (by omega),An (AZ.2 ⟨by omega,by omega⟩),BG f,xG];rfl
    ·rw[GG,xF,An d,An (by omega),An (by omega),An (by omega),An (AZ.2 ⟨by omega,by omega⟩),BG f,xG,Cz]
theorem pM{n:AE (L8)}{l:AE AX}{b:AH}{x:L8}(h:IW (n,l,b,x,())=AD):aK (n,l,b,x,()) (Mq AU n l b x (Dc n l) ((Dc n l).length:AA) 0)=AC (Kk (n,l,b,x,()),()):=by
 obtain⟨c,g,d⟩:=WN.1 h;have f:=P7.1 d;have c:n.length<=1099511627776:=c;have i:l.length<=1099511627776:=f.1;have j:(Dc n l).length=n.length+l.length:=by unfold Dc;rw[BA,Eg]
 have k:∀s,s∈Dc n l->Aw s=true:=λs a=>by
  rcases List.mem_append.1 a with a|a
  ·exact g s a
  ·obtain⟨e,m,rfl⟩:=List.mem_map.1 a;have:=f.2 e m;unfold Dy at this;rw[A0]at this;exact this.1
 have:=ADD n l b x (Dc n l) (by omega) k _ (AHF b x d (by omega)) (Dc n l).length 0 AU (by omega) (by unfold AU;omega);refine vO (s:=(n,l,b,x,())) (by unfold aI;rw[A0];exact⟨BK c,BK i⟩) ?_;exact this
theorem ADE:PC 119 Ls:=(Ap (sh:=AV P8) (Ac (l:=[(163,T1),(100,Bx),(164,T0)]) ⟨ADC,Sy,ADA,A3⟩) Al func119 (by kernel_rfl) (by decide)).nice λ⟨⟨n,l,b,x,()⟩,()⟩ h=>by
 show xy _=AC (Kk (n,l,b,x,()),());rw[vP];cases b
 ·rw[pJ];exact pM h
 ·rw[pI];exact pM h
end Go.Proofs.YtkgejlchafionaaGreatDoor
namespace Nice
def mcN(b:AH)(s:U0):AH:=match b with
 |true=>((s.1.length:AA)+(s.2.1.length:AA)==0)
 |false=> !s.2.2.2.1==[]
def aL(b:AH)(s:U0)(y:BO):BO:=gd [AG (A4 .i64 ((s.1.length:AA)+(s.2.1.length:AA)))] (bif AG ((s.1.length:AA)>0)then(bif AG ((s.2.1.length:AA)>0)then bO AK else(bif AG ((s.1.length:AA)+(s.2.1.length:AA)>20)then bO AK else bif mcN b s then bO AK else y))
 else(bif AG ((s.1.length:AA)+(s.2.1.length:AA)>20)then bO AK else bif mcN b s then bO AK else y))
abbrev gI{α:Type}(l:AE α)(i:AA):AE AH:=[AG (i.toNat<l.length),AG (0<=i),AG (i<(l.length:AA))]
def T7(n:AE (L8))(t:L8)(i:AA)(nx a:BO):BO:=
 bif AG (i<(n.length:AA))then(bif isKey (n.getD i.toNat Ty.str.dflt)then(bif CG (n.getD i.toNat Ty.str.dflt) t||n.getD i.toNat Ty.str.dflt==t then gd (gI n i++[Aw (n.getD i.toNat Ty.str.dflt)]++gI n i) (bO AK)
     else gd (AG (A4 .i64 (i+1))::(gI n i++gI n i++[Aw (n.getD i.toNat Ty.str.dflt)]++gI n i)) nx)
  else gd (Aw (n.getD i.toNat Ty.str.dflt)::gI n i) (bO AK))else a
def T8(l:AE AX)(t:L8)(i:AA)(nx a:BO):BO:=
 bif AG (i<(l.length:AA))then(bif Cd ((l.getD i.toNat (AW).dflt).1,(l.getD i.toNat (AW).dflt).2.1,())then(bif CG (l.getD i.toNat (AW).dflt).1 t||(l.getD i.toNat (AW).dflt).1==t then gd (gI l i++[Dy ((l.getD i.toNat (AW).dflt).1,(l.getD i.toNat (AW).dflt).2.1,())]++gI l i) (bO AK)
     else gd (AG (A4 .i64 (i+1))::(gI l i++gI l i++[Dy ((l.getD i.toNat (AW).dflt).1,(l.getD i.toNat (AW).dflt).2.1,())]++gI l i)) nx)
  else gd (Dy ((l.getD i.toNat (AW).dflt).1,(l.getD i.toNat (AW).dflt).2.1,())::gI l i) (bO AK))else a
def exR(b:AH)(x t:L8):BO:=match b with
 |true=>bif x==t then bO AD else bO AK
 |false=>bO AD
def pN(b:AH)(x t:L8):AH:=bif b then x==t else AD
theorem AHG(b:AH)(x t:L8):exR b x t=AC (pN b x t,()):=by
 cases b
 ·rfl
 ·show(bif x==t then bO AD else bO AK)=_;unfold pN;cases x==t<;>rfl
theorem aM{a b:L8}:(CG a b||a==b)= !Op.bytesLess b a:=by
 rw[Ol b a,Bool.not_not]
theorem ALX:∀(e a a2 a3 a4 a5 c d b:AH),(e&&(a4&&((bif b then a5 else d)&&(a&&(a2&&a3&&bif b then c else AD)))))=(e&&(a&&a2&&(a3&&(a4&&bif b then a5&&c else d)))):=by
 intro e a a2 a3 a4 a5 c d b;cases b<;>cases a4<;>cases a5<;>cases d<;>cases a<;>cases a2<;>cases a3<;>cases c<;>rfl
theorem vQ{s:U0}{c:AH}{y:BO}(a:s.1.length<=1099511627776)(b:s.2.1.length<=1099511627776)(f:y=AC (c,())):aL s.2.2.1 s y=AC (!(AG (0<s.1.length)&&AG (0<s.2.1.length))&&(AG ((Dc s.1 s.2.1).length<=20)&&((bif s.2.2.1 then AG (0<(Dc s.1 s.2.1).length)else s.2.2.2.1==[])&&c)),()):=by
 have e:(Dc s.1 s.2.1).length=s.1.length+s.2.1.length:=by unfold Dc;rw[BA,Eg]
 have g:mcN s.2.2.1 s= !(bif s.2.2.1 then AG (0<(Dc s.1 s.2.1).length)else s.2.2.2.1==[]):=by
  cases s.2.2.1
  ·rfl
  ·show((s.1.length:AA)+(s.2.1.length:AA)==0)= !decide (0<(Dc s.1 s.2.1).length);rw[e];by_cases h:s.1.length+s.2.1.length=0
   ·rw[BP (show ¬0<s.1.length+s.2.1.length by omega),beq_iff_eq.2 (show(s.1.length:AA)+(s.2.1.length:AA)=0 by omega)];rfl
   ·rw[BK (show 0<s.1.length+s.2.1.length by omega),CE.2 (show(s.1.length:AA)+(s.2.1.length:AA)≠0 by omega)];rfl
 subst f;unfold aL;rw[g,An (AZ.2 ⟨by omega,by omega⟩),xG];have d:(bif AG ((s.1.length:AA)+(s.2.1.length:AA)>20)then bO AK else bif !(bif s.2.2.1 then AG (0<(Dc s.1 s.2.1).length)else s.2.2.2.1==[])then bO AK else AC (c,()))=AC (AG ((Dc s.1 s.2.1).length<=20)&&((bif s.2.2.1 then AG (0<(Dc s.1 s.2.1).length)else s.2.2.2.1==[])&&c),()):=by
  generalize (bif s.2.2.1 then AG (0<(Dc s.1 s.2.1).length)else s.2.2.2.1==[])=q;rw[e];by_cases h:s.1.length+s.2.1.length<=20
  ·rw[Bm (by omega),BK h];cases q<;>rfl
  ·rw[Bn (by omega),BP h];rfl
 rw[d];by_cases a:0<s.1.length
 ·rw[Bn (by omega),BK a];by_cases b:0<s.2.1.length
  ·rw[Bn (by omega),BK b];rfl
  ·rw[Bm (by omega),BP b];rfl
 ·rw[Bm (by omega),BP a];rfl
end Nice
namespace Go.Proofs.YtkgejlchafionaaGreatDoor
open Tryz
open Nice Go.RowKit
abbrev ANl:AE (AB×AE (AB×Sh)):=[(6,[(1,(.obj [(.dat .str),(.dat AW),.sym,.sym])),(2,(.one .sym)),(4,(.one .sym)),(5,(.one .sym))]),(12,[(1,(.obj [(.dat .str),(.dat AW),.sym,.sym])),(2,(.one .sym)),(4,(.one .sym)),(6,(.one .sym))])]
def U9(N:AB)(n:AE (L8))(l:AE AX)(b:AH)(x t:L8)(i:AA):BO:=rH prog (Aj [(26,Bx),(24,KQ)]) (AV ANl) f58 [.bool] N 0 [(1,.pointer (AC ⟨12,0,AF⟩)),(2,.bool AK),(4,sy (.string (bs t))),(5,sy (.int .i64 i))] [.dat .str n,.dat AW l,.row [dt 10,dt 11,.bool b,sy (.string (bs x))] 94 AK]
def VA(N:AB)(n:AE (L8))(l:AE AX)(b:AH)(x t:L8)(i:AA):BO:=rH prog (Aj [(26,Bx),(24,KQ)]) (AV ANl) f58 [.bool] N 1 [(1,.pointer (AC ⟨12,0,AF⟩)),(2,.bool AK),(4,sy (.string (bs t))),(6,sy (.int .i64 i))] [.dat .str n,.dat AW l,.row [dt 10,dt 11,.bool b,sy (.string (bs x))] 94 AK]
def orm(x:AM [K9]):BO:=fO prog (Aj [(26,Bx),(24,KQ)]) (AV ANl) f58 [K9] [.bool] x
theorem AHH(x:AM [K9]):orm x=Cy prog (Aj [(26,Bx),(24,KQ)]) (AV ANl) f58 [K9] [.bool] AU x:=AL
theorem ADF(N:AB)(n:AE (L8))(l:AE AX)(x:L8):Cy prog (Aj [(26,Bx),(24,KQ)]) (AV ANl) f58 [K9] [.bool] N ((n,l,AD,x,()),())=aL AD (n,l,AD,x,()) (U9 N n l AD x [] 0):=by kernel_rfl
theorem ADG(N:AB)(n:AE (L8))(l:AE AX)(x:L8):Cy prog (Aj [(26,Bx),(24,KQ)]) (AV ANl) f58 [K9] [.bool] N ((n,l,AK,x,()),())=aL AK (n,l,AK,x,()) (U9 N n l AK x [] 0):=by kernel_rfl
theorem AHI(N:AB)(n:AE (L8))(l:AE AX)(x t:L8)(i:AA):U9 (N+1) n l AD x t i=T7 n t i (U9 N n l AD x (n.getD i.toNat Ty.str.dflt) (i+1)) (VA N n l AD x t 0):=by kernel_rfl
theorem AHJ(N:AB)(n:AE (L8))(l:AE AX)(x t:L8)(i:AA):U9 (N+1) n l AK x t i=T7 n t i (U9 N n l AK x (n.getD i.toNat Ty.str.dflt) (i+1)) (VA N n l AK x t 0):=by kernel_rfl
theorem AHK(N:AB)(n:AE (L8))(l:AE AX)(x t:L8)(i:AA):VA (N+1) n l AD x t i=T8 l t i (VA N n l AD x (l.getD i.toNat (AW).dflt).1 (i+1)) (exR AD x t):=by kernel_rfl
theorem AHL(N:AB)(n:AE (L8))(l:AE AX)(x t:L8)(i:AA):VA (N+1) n l AK x t i=T8 l t i (VA N n l AK x (l.getD i.toNat (AW).dflt).1 (i+1)) (exR AK x t):=by kernel_rfl
theorem AHM(N:AB)(n:AE (L8))(l:AE AX)(b:AH)(x t:L8)(i:AA):U9 (N+1) n l b x t i=T7 n t i (U9 N n l b x (n.getD i.toNat Ty.str.dflt) (i+1)) (VA N n l b x t 0):=by
 cases b
 ·exact AHJ N n l x t i
 ·exact AHI N n l x t i
theorem AHN(N:AB)(n:AE (L8))(l:AE AX)(b:AH)(x t:L8)(i:AA):VA (N+1) n l b x t i=T8 l t i (VA N n l b x (l.getD i.toNat (AW).dflt).1 (i+1)) (exR b x t):=by
 cases b
 ·exact AHL N n l x t i
 ·exact AHK N n l x t i
theorem AHO(n:AE (L8))(l:AE AX)(b:AH)(x:L8)(p:l.length<=1099511627776)(h:∀e,e∈l->Dy e=AD):∀(r i N:AB) (t:L8),l.length=i+r->r<N->VA N n l b x t (i:AA)=AC (WK t (l.drop i)&&pN b x (Hq t ((l.drop i).map (·.1))),()):=by
 intro r
 induction r with
 |zero=>
  intro i N t j hN;obtain⟨N,rfl⟩:∃m,N=m+1:=⟨N-1,by omega⟩
  rw[AHN];unfold T8;rw[Bm (by omega),GY (by omega),AHG];rfl
 |succ r k=>
  intro i N t j hN;obtain⟨N,rfl⟩:∃m,N=m+1:=⟨N-1,by omega⟩
  have a:i<l.length:=by omega
  have hd:l.drop i=l.getD i (AW).dflt::l.drop (i+1):=by
   rw[Ef a,Bg,B4 a];rfl
  have f:Dy (l.getD i (AW).dflt)=true:=h _ (by
   rw[Bg,B4 a];exact EK a)
  have this:=k (i+1) N (l.getD i (AW).dflt).1 (by omega) (by omega);simp only[Dz,Fb]at this;have g:A4 .i64 ((i:AA)+1):=AZ.2 ⟨by omega,by omega⟩;have g1:AG (i<l.length)=true:=BK a;have o:AG ((0:AA)<=(i:AA))=true:=BK (by omega);have g3:AG ((i:AA)<(l.length:AA))=true:=BK (by omega)
  have d:∀(q:AE AH) (y:BO),gd (gI l (i:AA)++q) y=gd q y:=λq y=>by
   unfold gI;rw[show(i:AA).toNat=i from AL,Gk,Gk,Gk,DN,BG g1,BG o,BG g3]
  have c:∀(y:BO),gd (gI l (i:AA)) y=y:=λy=>by have:=d [] y;rw[Ce]at this;rw[this,xG]
  rw[AHN];unfold T8;rw[Bn (by omega),show(i:AA).toNat=i from AL,hd,T2,PM,this,aM,show((l.getD i (AW).dflt).1,(l.getD i (AW).dflt).2.1,())=l.getD i (AW).dflt from AL];cases Cd (l.getD i (AW).dflt)
  ·rw[xF,BG f,c];rfl
  ·rw[xT,Cz];cases CG t (l.getD i (AW).dflt).1
   ·rw[FU,xT,C9,d,Gq,BG f,c];rfl
   ·rw[GG,xF,An g,C9,C9,d,d,Gq,BG f,c,Cz];rfl
theorem AHP(n:AE (L8))(l:AE AX)(b:AH)(x:L8)(v:n.length<=1099511627776)(h:∀k,k∈n->Aw k=AD)(j:l.length<=1099511627776)(o:∀e,e∈l->Dy e=AD):∀(r i N:AB) (t:L8),n.length=i+r->r+l.length+2<N->U9 N n l b x t (i:AA)=AC (Je t (n.drop i)&&(WK (Hq t (n.drop i)) l&&pN b x (Hq (Hq t (n.drop i)) (l.map (·.1)))),()):=by
 intro r
 induction r with
 |zero=>
  intro i N t p hN;obtain⟨N,rfl⟩:∃m,N=m+1:=⟨N-1,by omega⟩
  have:=AHO n l b x j o l.length 0 N t (by omega) (by omega);rw[AHM];unfold T7;rw[Bm (by omega),GY (by omega)];exact this
 |succ r s=>
  intro i N t p hN;obtain⟨N,rfl⟩:∃m,N=m+1:=⟨N-1,by omega⟩
  have a:i<n.length:=by omega
  have hd:n.drop i=n.getD i []::n.drop (i+1):=by
   rw[Ef a,Bg,B4 a];rfl
  have f:Aw (n.getD i [])=true:=h _ (by
   rw[Bg,B4 a];exact EK a)
  have this:=s (i+1) N (n.getD i []) (by omega) (by omega);simp only[Dz,Fb]at this;have g:A4 .i64 ((i:AA)+1):=AZ.2 ⟨by omega,by omega⟩;have g1:AG (i<n.length)=true:=BK a;have u:AG ((0:AA)<=(i:AA))=true:=BK (by omega);have g3:AG ((i:AA)<(n.length:AA))=true:=BK (by omega)
  have d:∀(q:AE AH) (y:BO),gd (gI n (i:AA)++q) y=gd q y:=λq y=>by
   unfold gI;rw[show(i:AA).toNat=i from AL,Gk,Gk,Gk,DN,BG g1,BG u,BG g3]
  have c:∀(y:BO),gd (gI n (i:AA)) y=y:=λy=>by have:=d [] y;rw[Ce]at this;rw[this,xG]
  rw[AHM];unfold T7;rw[Bn (by omega),show(i:AA).toNat=i from AL,show n.getD i Ty.str.dflt=n.getD i []from AL,hd,ANJ,this,aM];cases isKey (n.getD i [])
  ·rw[xF,BG f,c];rfl
  ·rw[xT,Cz];cases CG t (n.getD i [])
   ·rw[FU,xT,C9,d,Gq,BG f,c];rfl
   ·rw[GG,xF,An g,C9,C9,d,d,Gq,BG f,c,Cz];rfl
theorem AHQ{n:AE (L8)}{l:AE AX}{b:AH}{x:L8}(h:IW (n,l,b,x,())=AD):aL b (n,l,b,x,()) (U9 AU n l b x [] 0)=AC (Kk (n,l,b,x,()),()):=by
 obtain⟨a,e,f⟩:=WN.1 h;have c:=P7.1 f;have a:n.length<=1099511627776:=a;have d:l.length<=1099511627776:=c.1;have:=AHP n l b x a e d c.2 n.length 0 AU [] (by omega) (by unfold AU;omega);rw[Do]at this;refine(vQ (s:=(n,l,b,x,())) a d this).trans ?_;unfold Kk pN
 dsimp only;rw[show Dc n l=n++l.map (·.1)from AL,WL,WM,aJ];exact congrArg (λq=>AC (q,())) (ALX _ _ _ _ _ _ _ _ _)
theorem vR:PC 58 Ls:=(Ap (sh:=AV ANl) (Ac (l:=[(26,Bx),(24,KQ)]) ⟨ck,xt,A3⟩) Al func58 (by kernel_rfl) (by decide)).nice λ⟨⟨n,l,b,x,()⟩,()⟩ h=>by
 show orm _=AC (Kk (n,l,b,x,()),());rw[AHH];cases b
 ·rw[ADG];exact AHQ h
 ·rw[ADF];exact AHQ h
end Go.Proofs.YtkgejlchafionaaGreatDoor
namespace Nice
theorem pO(u:AB):GE (u:AA)=MG u:=by
 show Cr (u:AA)=_;unfold Cr;rw[AY (by omega)];rfl
theorem WO:∀(f u:AB) (a:L8),u<10^f->0<f->Oo f u a=MG u++a
 |0,_,_,_,h=>Aq h (iz 0)
 |f+1,u,a,c,_=>by
  unfold Oo;by_cases h:u<10
  ·rw[if_pos (by omega),Lib.decDigits_one h,Nat.mod_eq_of_lt h];rfl
  ·have d:0<f:=by
    rcases br f with b|b
    ·subst b;simp at c;omega
    ·exact b
   rw[AY (by omega),WO f (u/10) _ (by rw[Nat.pow_succ]at c;omega) d]
   conv=>rhs;rw[MG,dif_neg h]
   rw[C9];rfl
theorem KR{n:AA}(a:0<=n)(b:n<=1099511627776):D9 n=GE n:=by
 obtain⟨u,rfl⟩:∃u:AB,n=(u:AA):=⟨n.toNat,by omega⟩
 unfold D9 Oq;rw[AY (by omega),pO,show((u:AA)).toNat=u from AL,WO 20 u [] (by omega) (by decide),Ce]
end Nice
namespace Go.Proofs.YtkgejlchafionaaGreatDoor
open Tryz
open Nice Go.RowKit
theorem fmt_len{n:AA}(a:0<=n)(b:n<=1099511627776):(GE n).length<=20:=by
 rw[<-KR a b];unfold D9;rw[AY (by omega)];exact ZA n
end Go.Proofs.YtkgejlchafionaaGreatDoor
namespace Go.Eng
open Go
abbrev M3:=AA×AA×AA
def T9(m:M3):AE AJ:=[.int .i64 m.1,.int .i64 m.2.1,.int .i64 m.2.2]
structure DfW(w wr:AN)(b:AB)(C:Aa AJ)(e:TypeId)(fr:AB×AB):Prop where
 size:w.heap.size<=wr.heap.size
 old:∀x,x<w.heap.size->x≠b->wr.heap[x]?=w.heap[x]?
 row:wr.heap[b]?=AC (.cells C e fr)
 os:wr.os=w.os
 out:wr.output=w.output
section
variable {w wr:AN} {b:AB} {C:Aa AJ} {e:TypeId} {fr:AB×AB}
theorem DfW.same(h:DfW w wr b C e fr){w':AN}(a:DU wr w'):DfW w w' b C e fr:=by
 have d:=BX h.row;exact⟨Ea h.size a.1,λx f c=>by rw[a.2.2.2 x (by have:=h.size;omega)];exact h.old x f c,by rw[a.2.2.2 b d];exact h.row,a.2.1.trans h.os,a.2.2.1.trans h.out⟩
theorem DfW.set(h:DfW w wr b C e fr)(o:AB)(v:AJ):DfW w (wr.setCell ⟨b,o,AF⟩ v) b (C.setIfInBounds o v) e fr:=by
 have c:=BX h.row;have d:wr.setCell ⟨b,o,AF⟩ v=wr.setCells b o [v]:=AL;rw[d,Bs b e fr [v] o C wr h.row];refine⟨?_,λx f a=> ?_,?_,h.os,h.out⟩
 ·show _<=(wr.heap.setIfInBounds _ _).size;rw[GK];exact h.size
 ·show(wr.heap.setIfInBounds _ _)[x]?=_;rw[FG (Ne.symm a)];exact h.old x f a
 ·show(wr.heap.setIfInBounds _ _)[b]?=_;rw[Ig c];rfl
theorem DfW.cell(h:DfW w wr b C e fr){o:AB}{v:AJ}(a:C[o]?=AC v):wr.cell? ⟨b,o,AF⟩=AC v:=by
 simp only[C0,h.row,Df,CI,BR];exact a
theorem DfW.frz(h:DfW w wr b C e fr){o:AB}(a:∀o,o<C.size->¬(fr.1<=o/\o<fr.2))(c:o<C.size):wr.frozen? ⟨b,o,AF⟩=false:=by
 have:=a o c;simp only[World.frozen?,h.row];simpa using this
end
structure KI(p:M3->AH)(M:AE M3)(C:Aa AJ)(off sz i j:AB):Prop where
 szC:C.size=sz
 fit:off+M.length*3<=sz
 lt:i<j
 le:j<=M.length
 len:((M.take j).filter λx=> !p x).length=i
 low:∀t s,s<3->t<i->∀m,((M.take j).filter λx=> !p x)[t]?=AC m->C[off+t*3+s]?=(T9 m)[s]?
 hi:∀t s,s<3->j<=t->∀m,M[t]?=AC m->C[off+t*3+s]?=(T9 m)[s]?
theorem KI.skip{p:M3->AH}{M:AE M3}{C:Aa AJ}{off sz i j:AB}(h:KI p M C off sz i j){m:M3}(a:M[j]?=AC m)(d:p m=AD):KI p M C off sz i (j+1):=by
 have f:j<M.length:=by
  rcases Cf j M.length with h|h
  ·exact h
  ·rw[DA h]at a;cases a
 have e:((M.take (j+1)).filter λx=> !p x)=(M.take j).filter λx=> !p x:=by
  rw[sJ,a,sH];simp[d]
 exact⟨h.szC,h.fit,by have:=h.lt;omega,by omega,by rw[e];exact h.len,λt s b c m a=>h.low t s b c m (by rwa[e]at a),λt s b c=>h.hi t s b (by omega)⟩
theorem KI.keep{p:M3->AH}{M:AE M3}{C:Aa AJ}{off sz i j:AB}(h:KI p M C off sz i j){m:M3}(g:M[j]?=AC m)(n:p m=AK):
  KI p M (((C.setIfInBounds (off+i*3) (.int .i64 m.1)).setIfInBounds (off+i*3+1) (.int .i64 m.2.1)).setIfInBounds (off+i*3+2) (.int .i64 m.2.2)) off sz (i+1) (j+1):=by
 have q:j<M.length:=by
  rcases Cf j M.length with h|h
  ·exact h
  ·rw[DA h]at g;cases g
 have e:((M.take (j+1)).filter λx=> !p x)=((M.take j).filter λx=> !p x)++[m]:=by
  rw[sJ,g,sH];simp[n]
 have o:=h.lt;have d:=h.fit;have a:=h.len;have k:=h.szC;have gt:∀t s,s<3->(t<i\/i<t)->(((C.setIfInBounds (off+i*3) (.int .i64 m.1)).setIfInBounds (off+i*3+1) (.int .i64 m.2.1)).setIfInBounds (off+i*3+2) (.int .i64 m.2.2))[off+t*3+s]?=C[off+t*3+s]?:=λt s b l=>by
  rw[FG (by omega),FG (by omega),FG (by omega)]
 refine⟨by simp[k],d,by omega,by omega,by rw[e,BA,a];rfl,λt s b l x c=> ?_,λt s b l x c=> ?_⟩
 ·rw[e]at c;by_cases f:t<i
  ·rw[List.getElem?_append_left (by omega)]at c;rw[gt t s b (.inl f)];exact h.low t s b f x c
  ·obtain rfl:t=i:=by omega
   rw[List.getElem?_append_right (by omega),a,Nat.sub_self]at c;cases c
   match s,b with
   |0,_=>
    rw[FG (by omega),FG (by omega)];exact Ig (by omega)
   |1,_=>
    rw[FG (by omega)];exact Ig (by rw[GK];omega)
   |2,_=>exact Ig (by rw[GK,GK];omega)
 ·rw[gt t s b (.inr (by omega))];exact h.hi t s b (by omega) x c
end Go.Eng
namespace Go.Proofs.YtkgejlchafionaaGreatDoor
open Tryz
open Go.RowKit Go.Shelf Go.Lib
set_option maxHeartbeats 4000000
def hU(w:AN)(b:AB)(a:Aa AJ)(p:M3->AH):Prop:=
 ∀(W:AN) (m:M3),w.heap.size<=W.heap.size->(∀x,x<w.heap.size->x≠b->W.heap[x]?=w.heap[x]?)->BU prog 72 (#[.agg (T9 m).toArray]++a) W λe w'=>e=.returned (.bool (p m))/\DU W w'
def YB(p:M3->AH)(M:AE M3):AA:=bif AG (M.findIdx p<M.length)then(M.findIdx p:AA)else -1
theorem hX{a b c:AN}(h:DU a b)(k:DU b c):DU a c:=⟨Ea h.1 k.1,k.2.1.trans h.2.1,k.2.2.1.trans h.2.2.1,λx d=>(k.2.2.2 x (Nat.lt_of_lt_of_le d h.1)).trans (h.2.2.2 x d)⟩
theorem pP{p:M3->AH}{M:AE M3}{k:AB}{y:M3}(a:k<M.length)(h:∀j m,j<k->M[j]?=AC m->p m=AK)(b:M[k]?=AC y)(c:p y=AD):YB p M=(k:AA):=by
 have e:M.findIdx p=k:=by
  refine(zz a).2 ⟨?_,λj d=> ?_⟩
  ·rw[B4 a]at b;cases b;exact c
  ·exact h j _ d (B4 (by omega))
 unfold YB;rw[e,BK a];rfl
theorem ko{p:M3->AH}{M:AE M3}(h:∀j m,j<M.length->M[j]?=AC m->p m=AK):YB p M= -1:=by
 have e:M.findIdx p=M.length:=z1.2 λx b=>by
  obtain⟨i,a,rfl⟩:=M5 b;exact h i _ a (B4 a)
 unfold YB;rw[e,BP (iz _)];rfl
theorem eL(p:M3->AH)(M:AE M3):(YB p M= -1/\∀m,m∈M->p m=AK)\/∃(k:AB) (y:M3),k<M.length/\YB p M=(k:AA)/\M[k]?=AC y/\p y=AD/\∀j m,j<k->M[j]?=AC m->p m=false:=by
 by_cases h:M.findIdx p<M.length
 ·have b:=(zz h (p:=p)).1 rfl;refine .inr ⟨M.findIdx p,_,h,by unfold YB;rw[BK h];rfl,B4 h,b.1,λj m c a=> ?_⟩;rw[B4 (by omega)]at a;cases a;exact b.2 j c
 ·refine .inl ⟨by unfold YB;rw[BP h];rfl,λm a=> ?_⟩;have e:M.findIdx p=M.length:=Nat.le_antisymm List.findIdx_le_length (by omega);exact z1.1 e m a
theorem pQ(b off c:AB)(z:Aa AJ)(p:M3->AH)(M:AE M3)(w:AN)(C:hU w b z p)(F:b<w.heap.size)(D:M.length<=1000000)(q:∀t s,s<3->∀m,M[t]?=AC m->∀v,(T9 m)[s]?=AC v->w.cell? ⟨b,off+t*3+s,AF⟩=AC v):
  BU prog 113 #[.slice (AC ⟨b,off,AF⟩) M.length c,.func (.func 72) #[] z] w λe w'=>e=.returned (.int .i64 (YB p M))/\DU w w':=by
 have mixed:Tryz.prog.follows .mixedOrders=true:=by kernel_rfl
 have K:∀args w,(FO 72 args).run prog w=.ok (.enter 72 args) w:=enters_of func72 (by kernel_rfl) rfl
 go_enter func113,ntmps113
 go_wp2
 go_loopg [5,8] M.length (λG _ H wr=>∃kk:AB,kk<=M.length/\M.length-kk<=G/\H=.int .i64 kk/\Gf (DU w wr)/\Gf (∀j m,j<kk->M[j]?=AC m->p m=AK))
 case atStart=>exact⟨0,Nat.zero_le _,by omega,rfl,⟨Ak _,rfl,rfl,λ_ _=>rfl⟩,λj m E=>Aq E (Nat.not_lt_zero _)⟩
 case round=>
  obtain⟨kk,I,L,rfl,BW,A⟩:=hrel;by_cases k:kk<M.length
  ·have l:(kk:AA)<(M.length:AA):=by omega
   obtain⟨⟨f,g,i⟩,n⟩:∃y,M[kk]?=AC y:=⟨_,B4 k⟩
   have a:=C wr (f,g,i) BW.out.1 (λx J _=>BW.out.2.2.2 x J);have r:∀o v,w.cell? ⟨b,o,AF⟩=AC v->wr.cell? ⟨b,o,AF⟩=AC v:=λo v h=>by
    simp only[C0,BW.out.2.2.2 b F]at h⊢;exact h
   have N:wr.cell? ⟨b,off+kk*3,AF⟩=AC (.int .i64 f):=r _ _ (q kk 0 (by omega) _ n _ rfl);have O:wr.cell? ⟨b,off+kk*3+1,AF⟩=AC (.int .i64 g):=r _ _ (q kk 1 (by omega) _ n _ rfl);have P:wr.cell? ⟨b,off+kk*3+2,AF⟩=AC (.int .i64 i):=r _ _ (q kk 2 (by omega) _ n _ rfl);have HM:Gf (M[kk]?=AC (f,g,i)):=n
   have a:BU prog 72 (#[.agg #[.int .i64 f,.int .i64 g,.int .i64 i]]++z) wr λe w'=>e=.returned (.bool (p (f,g,i)))/\DU wr w':=a
   clear C r q n;cases u:p (f,g,i)with
   |true=>
    rw[u]at a
    go_wp2_with (go_at_fn 72;refine a.mono ?_;rintro e w' ⟨rfl,d⟩)
    go_ret
    rw[pP k A.out HM.out u];exact⟨rfl,hX BW.out d⟩
   |false=>
    rw[u]at a
    go_wp2_with (go_at_fn 72;refine a.mono ?_;rintro e w' ⟨rfl,d⟩)
    go_roundg (M.length-(kk+1))
    case measure=>omega
    case rel=>
     refine⟨kk+1,by omega,by omega,by go_num,(show Gf _ from hX BW.out d),(show Gf _ from λj m E B=> ?_)⟩;by_cases e:j=kk
     ·subst e;rw[HM.out]at B;cases B;exact u
     ·exact A.out j m (by omega) B
  ·have l:¬(kk:AA)<(M.length:AA):=by omega
   have:kk=M.length:=by omega
   subst this
   go_wp2
   go_ret
   rw[ko A.out];exact⟨rfl,BW.out⟩
theorem z3:Tryz.prog.underlying 25=AC (.slice 75):=underlying25
theorem pR(b off c:AB)(R:Aa AJ)(p:M3->AH)(M:AE M3)(w:AN)(c0:Aa AJ)(fr:AB×AB)(X:hU w b R p)(n:w.heap[b]?=AC (.cells c0 75 fr))(N:∀o,o<c0.size->¬(fr.1<=o/\o<fr.2))(S:M.length<=1000000)(hcap:M.length<=c)(K:off+M.length*3<=c0.size)(P:∀t s,s<3->∀m,M[t]?=AC m->c0[off+t*3+s]?=(T9 m)[s]?):
  BU prog 71 #[.slice (AC ⟨b,off,AF⟩) M.length c,.func (.func 72) #[] R] w λe w'=>∃C,e=.returned (.slice (AC ⟨b,off,AF⟩) (M.filter λx=> !p x).length c)/\DfW w w' b C 75 fr/\C.size=c0.size/\
   ∀t s,s<3->∀m,(M.filter λx=> !p x)[t]?=AC m->C[off+t*3+s]?=(T9 m)[s]?:=by
 have mixed:Tryz.prog.follows .mixedOrders=true:=by kernel_rfl
 have eg:∀args w,(FO 72 args).run prog w=.ok (.enter 72 args) w:=enters_of func72 (by kernel_rfl) rfl;have ei:∀args w,(FO 113 args).run prog w=.ok (.enter 113 args) w:=enters_of func113 (by kernel_rfl) rfl;have hb:=BX n;have B:DfW w w b c0 75 fr:=⟨Ak _,λ_ _ _=>rfl,n,rfl,rfl⟩
 have G:=pQ b off c R p M w X hb S (λt s D m F v Q=>B.cell ((P t s D m F).trans Q));rcases eL p M with⟨e1,hall⟩|⟨H,y,hk0,e1,hy,hpy,hall⟩
 ·rw[e1]at G;have e3:(M.filter λx=> !p x)=M:=zy.2 λx I=>by rw[hall x I];rfl
  rw[e3];have HC:Gf (∀t s,s<3->∀m,M[t]?=AC m->c0[off+t*3+s]?=(T9 m)[s]?):=P;have HD:Gf (DfW w w b c0 75 fr):=B;clear X n N P B hall
  go_enter func71,ntmps71
  go_wp2_with (go_at_fn 113;refine G.mono ?_;rintro e w' ⟨rfl,D⟩)
  go_ret
  exact⟨c0,rfl,HD.out.same D,rfl,HC.out⟩
 ·rw[e1]at G;have hne1:((H:AA)== -1)=false:=CE.2 (by omega);have L:((M.take H).filter λx=> !p x)=M.take H:=zy.2 λx I=>by
   obtain⟨i,Y,rfl⟩:=M5 I;rw[Bw]at Y;rw[List.getElem_take,hall i _ (by omega) (B4 (by omega))];rfl
  have HK0:Gf (KI p M c0 off c0.size H (H+1)):=by
   have e:((M.take (H+1)).filter λx=> !p x)=M.take H:=by
    rw[sJ,hy,sH,L];simp[hpy]
   refine⟨rfl,K,by omega,by omega,by rw[e,Bw];omega,λt s D Z m F=> ?_,λt s D Z m F=>P t s D m F⟩;rw[e,CB,if_pos Z]at F;exact P t s D m F
  have HP:Gf (hU w b R p):=X;have HD0:Gf (DfW w w b c0 75 fr):=B;have HF:Gf (∀o,o<c0.size->¬(fr.1<=o/\o<fr.2)):=N;have HB:Gf (b<w.heap.size):=hb;clear X n N P B hall hy L hb
  go_enter func71,ntmps71
  go_wp2_with (go_at_fn 113;refine G.mono ?_;rintro e w' ⟨rfl,D⟩)
  go_loopg [5,6,7] M.length (λgg s5 s6 _ wr=>∃(i j:AB) (C:Aa AJ),s5=.int .i64 i/\s6=.int .i64 j/\j<=M.length/\M.length-j<=gg/\Gf (DfW w wr b C 75 fr)/\Gf (KI p M C off c0.size i j))
  case atStart=>exact⟨H,H+1,c0,rfl,by go_num,by omega,by omega,HD0.out.same D,HK0.out⟩
  case round=>
   obtain⟨i,j,C,rfl,rfl,hjd,hgg,DW,I2⟩:=hrel;by_cases hlt:j<M.length
   ·have T:(j:AA)<(M.length:AA):=by omega
    obtain⟨⟨q,r,u⟩,U⟩:∃y,M[j]?=AC y:=⟨_,B4 hlt⟩
    have l0:wr.cell? ⟨b,off+j*3,AF⟩=AC (.int .i64 q):=DW.out.cell (I2.out.hi j 0 (by omega) (Ak _) _ U);have l1:wr.cell? ⟨b,off+j*3+1,AF⟩=AC (.int .i64 r):=DW.out.cell (I2.out.hi j 1 (by omega) (Ak _) _ U);have l2:wr.cell? ⟨b,off+j*3+2,AF⟩=AC (.int .i64 u):=DW.out.cell (I2.out.hi j 2 (by omega) (Ak _) _ U)
    have a:=DW.out;have hij:=I2.out.lt;have g:=I2.out.fit;have f:=I2.out.szC;have hbr:b<wr.heap.size:=BX a.row;have J:DU wr (wr.alloc (.cells #[.int .i64 q,.int .i64 r,.int .i64 u] 75)):=⟨by show _<=(wr.heap.push _).size;rw[I9];omega,rfl,rfl,λx I=>BD wr _ I⟩
    have d:=HP.out (wr.alloc (.cells #[.int .i64 q,.int .i64 r,.int .i64 u] 75)) (q,r,u) (Ea a.size J.1) (λx I E=>by rw[J.2.2.2 x (by have:=a.size;omega)];exact a.old x I E);have d:BU prog 72 (#[.agg #[.int .i64 q,.int .i64 r,.int .i64 u]]++R) (wr.alloc (.cells #[.int .i64 q,.int .i64 r,.int .i64 u] 75)) λe w'=>e=.returned (.bool (p (q,r,u)))/\Gf (DfW w w' b C 75 fr)/\
      w'.cell? ⟨wr.heap.size,0,AF⟩=AC (.int .i64 q)/\w'.cell? ⟨wr.heap.size,1,AF⟩=AC (.int .i64 r)/\w'.cell? ⟨wr.heap.size,2,AF⟩=AC (.int .i64 u)/\
      (∃v,w'.cell? ⟨b,off+i*3,AF⟩=AC v)/\(∃v,w'.cell? ⟨b,off+i*3+1,AF⟩=AC v)/\(∃v,w'.cell? ⟨b,off+i*3+2,AF⟩=AC v)/\
      w'.frozen? ⟨b,off+i*3,AF⟩=AK/\w'.frozen? ⟨b,off+i*3+1,AF⟩=AK/\w'.frozen? ⟨b,off+i*3+2,AF⟩=false:=by
     refine d.mono ?_;rintro e w' ⟨he,V⟩;have l:=(a.same J).same V;have hn:w'.heap[wr.heap.size]?=AC (.cells #[.int .i64 q,.int .i64 r,.int .i64 u] 75):=by
      rw[V.2.2.2 _ (by show _<(wr.heap.push _).size;rw[I9];omega)];exact BN wr _
     have O:∀o (v:AJ),(#[.int .i64 q,.int .i64 r,.int .i64 u]:Aa AJ)[o]?=AC v->w'.cell? ⟨wr.heap.size,o,AF⟩=AC v:=λo v Q=>by
      simp only[C0,hn,Df,CI,BR];exact Q
     have A:∀o,o<C.size->¬(fr.1<=o/\o<fr.2):=λo ho=>HF.out o (by omega)
     exact⟨he,l,O 0 _ rfl,O 1 _ rfl,O 2 _ rfl,⟨_,l.cell (CX (by omega))⟩,⟨_,l.cell (CX (by omega))⟩,⟨_,l.cell (CX (by omega))⟩,
      l.frz A (by omega),l.frz A (by omega),l.frz A (by omega)⟩
    have HM:Gf (M[j]?=AC (q,r,u)):=U;have E:b≠wr.heap.size:=by omega
    have hil:i<M.length:=by omega
    have hilz:(i:AA)<(M.length:AA):=by omega
    clear U a J g f;cases hq:p (q,r,u)with
    |false=>
     rw[hq]at d
     go_wp2_with (go_at_fn 72;refine d.mono ?_;rintro e w' ⟨rfl,D2,n0,n1,n2,⟨v0,a0⟩,⟨v1,a1⟩,⟨v2,a2⟩,f0,f1,f2⟩)
     go_roundg (M.length-(j+1))
     case measure=>omega
     case rel=>
      refine⟨i+1,j+1,((C.setIfInBounds (off+i*3) (.int .i64 q)).setIfInBounds (off+i*3+1) (.int .i64 r)).setIfInBounds (off+i*3+2) (.int .i64 u),by go_num,by go_num,by omega,Ak _,(show Gf _ from ?_),(show Gf _ from I2.out.keep HM.out hq)⟩;exact((D2.out.set (off+i*3) (.int .i64 q)).set (off+i*3+1) (.int .i64 r)).set (off+i*3+2) (.int .i64 u)
    |true=>
     rw[hq]at d
     go_wp2_with (go_at_fn 72;refine d.mono ?_;rintro e w' ⟨rfl,D2,n0,n1,n2,⟨v0,a0⟩,⟨v1,a1⟩,⟨v2,a2⟩,f0,f1,f2⟩)
     go_roundg (M.length-(j+1))
     case measure=>omega
     case rel=>exact⟨i,j+1,C,rfl,by go_num,by omega,Ak _,D2,(show Gf _ from I2.out.skip HM.out hq)⟩
   ·obtain rfl:j=M.length:=by omega
    have T:¬(M.length:AA)<(M.length:AA):=by omega
    have a:=DW.out;have hil:i<M.length:=I2.out.lt;have g:=I2.out.fit;have f:=I2.out.szC;have W:=I2.out.len;rw[bh]at W;have v3:∀w,(zeroValue 75).run prog w=.ok (.agg #[.int .i64 0,.int .i64 0,.int .i64 0]) w:=zeroValue75;have A:∀o,o<C.size->wr.frozen? ⟨b,o,AF⟩=false:=λo ho=>a.frz (λo ho=>HF.out o (by omega)) ho
    have hcl:∀ty,(Builtin.clear_ #[25] ty #[.slice (AC ⟨b,off+i*3,AF⟩) (M.length-i) (c-i)]).run prog wr=.ok (.tuple #[]) (wr.setCells b (off+i*3) (Ch #[.int .i64 0,.int .i64 0,.int .i64 0] (M.length-i)).toList):=
     λty=>Lo wr 25 75 ty _ 3 z3 v3 rfl (by intro v Q;simp[Value.cells]at Q;subst Q;rfl) b (off+i*3) _ _ (λk hk=>by
      rw[a.cell (CX (by omega))];rfl) (λk hk=>A _ (by omega)) (by omega)
    have hci:¬(c=i):=by omega
    have hinz:(i:AA)<=(M.length:AA):=by omega
    have hicz:(i:AA)<=(c:AA):=by omega
    clear a A g f
    go_wp2_with (at_builtin;refine wpList_clear_k _ rfl _ _ rfl _ rfl (hcl _) ?_)
    go_ret
    have a:=DW.out;have f:=I2.out.szC;have hzl:(Ch #[Value.int .i64 0,.int .i64 0,.int .i64 0] (M.length-i)).toList.length=(M.length-i)*3:=by rw[D0,BC];rfl
    refine⟨rfl,Cp C (off+i*3) (Ch #[.int .i64 0,.int .i64 0,.int .i64 0] (M.length-i)).toList,?_,by rw[Ad];exact f,λt s D x y z F=> ?_⟩
    ·rw[Bs b 75 fr _ _ C wr a.row];refine⟨by show _<=(wr.heap.setIfInBounds _ _).size;rw[GK];exact a.size,λx I E=> ?_,?_,a.os,a.out⟩
     ·show(wr.heap.setIfInBounds _ _)[x]?=_;rw[FG (Ne.symm E)];exact a.old x I E
     ·show(wr.heap.setIfInBounds _ _)[b]?=_;rw[Ig (BX a.row)]
    ·have Z:t<i:=by
      rcases Cf t i with h|h
      ·exact h
      ·rw[DA (by omega)]at F;cases F
     have K:=I2.out.fit;rw[DL _ _ _ _ (by omega),AY (by omega)];exact I2.out.low t s D Z (x,y,z) (by rw[bh];exact F)
end Go.Proofs.YtkgejlchafionaaGreatDoor
namespace Nice
def P9(x y:EC):AH:=x.1==y.1&&(x.2.1==y.2.1&&AD)
def Mh:AE EC->AE EC->AH
 |[],[]=>AD
 |x::l,y::m=>P9 x y&&Mh l m
 |_,_=>AK
def Jf(a b:Hg):AH:=a.1==b.1&&(a.2.2.1==b.2.2.1&&Mh a.2.1 b.2.1)
def eM(a:Hg):AH:=AG (a.2.1.length<=140737488355328)
def ADH:PSpec:=⟨[Mj,Mj],[.bool],λx=>eM x.1,λx=>(Jf x.1 x.2.1,())⟩
theorem kp(x:EC):P9 x x=true:=by unfold P9;rw[GD,GD];rfl
theorem ANU:∀l:AE EC,Mh l l=AD
 |[]=>rfl
 |x::l=>by
  show(P9 x x&&Mh l l)=AD;rw[kp,ANU l];rfl
theorem aN:∀(l m:AE EC),l.length≠m.length->Mh l m=AK
 |[],[],h=>Aq rfl h
 |[],_::_,_=>rfl
 |_::_,[],_=>rfl
 |x::l,y::m,h=>by
  show(P9 x y&&Mh l m)=AK;rw[aN l m (λe=>h (by rw[B7,B7,e])),Gl]
theorem UA(a:Hg):Jf a a=true:=by
 unfold Jf;rw[GD,GD,ANU];rfl
def pS(a b:AE EC)(i:AA)(nx:BO):BO:=
 bif AG (i<(a.length:AA))then
  bif !P9 (a.getD i.toNat (Gp).dflt) (b.getD i.toNat (Gp).dflt)then gd [AG (i.toNat<b.length),AG (0<=i),AG (i<(b.length:AA)),AG (i.toNat<a.length),AG (0<=i),AG (i<(a.length:AA))] (bO AK)
  else gd [AG (A4 .i64 (i+1)),AG (i.toNat<b.length),AG (0<=i),AG (i<(b.length:AA)),AG (i.toNat<a.length),AG (0<=i),AG (i<(a.length:AA))] nx
 else bO AD
