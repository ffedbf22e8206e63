/-
  Part of the proof. No condition.
-/
import Derived.Test.YtkgejlchafionaaGreatDoorG5
open Bool renaming and_assoc->L5,and_eq_true->A0,false->AK,false_or->Iz,true->AD,true_and->Cz
open Decidable renaming decide->AG
open Go.Ending renaming returned->O6
open Go.IntKind renaming i64->E7,u8->FJ,wrap_i64->Js
open Go.Op renaming bytesLess->CG
open Go.Value renaming slice->RG
open Int renaming le_refl->Hh,mul_le_mul->yX,natCast_add->Dz,natCast_ediv->yY,natCast_nonneg->RH,natCast_one->Fb,tdiv_eq_ediv_of_nonneg->Ud,tmod_eq_emod_of_nonneg->O7
open List renaming all_eq_true->C8,append_assoc->C9,append_nil->Ce,cons_append->Gk,drop_eq_getElem_cons->Ef,drop_eq_nil_of_le->GY,getD_eq_getElem?_getD->Bg,getElem?_eq_getElem->B4,getElem_mem->EK,length->bQ,length_append->BA,length_cons->B7,length_map->Eg,length_singleton->EL,length_take->Bw,nil_append->DN,singleton_append->Gq,take->Ko,take_of_length_le->GB
open Nat renaming beq->Af,bitwise->yZ,le_refl->Ak,le_trans->Ea,lt_of_le_of_lt->O8,mod_lt->iL,zero_add->CJ
open Option renaming getD_some->Ue,none->AF,some->AC
open UInt8 renaming ofNat->Cj
open _root_ renaming Bool->AH,Int->AA,List->AE,Nat->AB,Option->AP,UInt8->Bo,beq_eq_false_iff_ne->CE,beq_iff_eq->Be,bne_eq_false_iff_eq->Wa,decide_eq_false->BP,decide_eq_true->BK,decide_eq_true_eq->A6,of_decide_eq_true->BL,rfl->AL,trivial->A3
set_option maxRecDepth 1000000
open Go Go.Eng
noncomputable section
namespace Nice
def AN2(n:AA):vI:=bif AG (n<4294967296)then AC (0,())else bif AG (n>=25769803776)then AC (0,())else bif n.tmod 4294967296==0 then AC (0,())else gd [AG (A4 .i64 (n.tdiv 4294967296))] (AC (n.tdiv 4294967296,()))
theorem sf(n:AA):AN2 n=AC (A5 n,()):=by
 unfold AN2 A5;by_cases a:n<4294967296
 ·rw[Bn a,Bn a]
 rw[Bm a,Bm a];by_cases b:n>=25769803776
 ·rw[Bn b,Bn b]
 rw[Bm b,Bm b];cases n.tmod 4294967296==0
 ·rw[xF,xF];have e:n.tdiv 4294967296=n/4294967296:=Ud (by omega);rw[An (AZ.2 (by rw[e];omega)),xG]
 ·rw[xT,xT]
abbrev lS{α:Type}(l:AE α)(i:AA):AE AH:=[AG ((i-1).toNat<l.length),AG (0<=i-1),AG (i-1<(l.length:AA)),AG (A4 .i64 (i-1))]
abbrev gZ(e:AX):AE AH:=[AG (((e.2.1.length:AA)-1).toNat<e.2.1.length),AG (0<=(e.2.1.length:AA)-1),AG ((e.2.1.length:AA)-1<(e.2.1.length:AA)),AG (A4 .i64 ((e.2.1.length:AA)-1)),Dy (e.1,e.2.1,())]
def bmE(q:AA)(l:AE AX)(i:AA)(e:AX)(nx:BO):BO:=
 bif Cd (e.1,e.2.1,())then(bif AG ((e.2.1.getD ((e.2.1.length:AA)-1).toNat (A8).dflt).1>q)then gd (gZ e) (bO AK)
  else bif AG (i>0)then(bif !Op.bytesLess (l.getD (i-1).toNat (AW).dflt).1 e.1 then gd (lS l i++gZ e) (bO AK)else gd (AG (A4 .i64 (i+1))::(lS l i++gZ e)) nx)
  else gd (AG (A4 .i64 (i+1))::gZ e) nx)
 else gd [Dy (e.1,e.2.1,())] (bO AK)
def cC(q:AA)(l a:AE AX)(k i:AA)(nx b:BO):BO:=
 bif AG (i<k)then gd [AG (i.toNat<a.length),AG (0<=i),AG (i<(a.length:AA))] (bmE q l i (a.getD i.toNat (AW).dflt) nx)else b
def cD(x k:AA)(nx:BO):BO:=bif x !=0 then(bif A5 x !=k then bO AK else nx)else nx
def fD(L:HH)(nx:BO):BO:=cD L.1 1 (cD L.2.1 2 (cD L.2.2.1 3 (cD L.2.2.2.1 4 (cD L.2.2.2.2.1 5 nx))))
theorem SQ{x k:AA}{b:AH}{nx:BO}(h:nx=bO b):cD x k nx=bO (X9 x k&&b):=by
 unfold cD X9;by_cases a:x=0
 ·rw[show(x !=0)=AK from by rw[Wa];exact a,show(x==0)=AD from Be.2 a,xF,h];rfl
 ·rw[show(x !=0)=AD from bne_iff_ne.2 a,show(x==0)=AK from CE.2 a,xT,Iz];by_cases c:A5 x=k
  ·rw[show(A5 x !=k)=AK from by rw[Wa];exact c,show(A5 x==k)=AD from Be.2 c,xF,h];rfl
  ·rw[show(A5 x !=k)=AD from bne_iff_ne.2 c,show(A5 x==k)=AK from CE.2 c,xT];rfl
theorem fE{L:HH}{b:AH}{nx:BO}(h:nx=bO b):fD L nx=bO (Kj L&&b):=by
 unfold fD Kj;rw[SQ (SQ (SQ (SQ (SQ h))))];simp only[L5]
def sg(L:HH)(k:AA)(f:AA->BO):BO:=bif k==0 then f L.1 else bif k==1 then f L.2.1 else bif k==2 then f L.2.2.1 else bif k==3 then f L.2.2.2.1 else bif k==4 then f L.2.2.2.2.1 else AF
def si(q:AA)(m:Ar)(i:AA)(nx:BO):BO:=
 bif AG (m.2.1.1<0)then bO AK else bif AG (m.2.1.1>13)then bO AK else bif AG (m.2.1.2.1<0)then bO AK else bif AG (m.2.1.2.1>q)then bO AK else gd [AG (A4 .i64 (i+1))] nx
theorem ld{q:AA}{m:Ar}{i:AA}{b:AH}{nx:BO}(f:A4 .i64 (i+1))(h:nx=bO b):si q m i nx=bO (P6 q m&&b):=by
 unfold si P6;by_cases a:m.2.1.1<0
 ·rw[Bn a,BP (show ¬0<=m.2.1.1 by omega)];rfl
 rw[Bm a,BK (show 0<=m.2.1.1 by omega)];by_cases c:m.2.1.1>13
 ·rw[Bn c,BP (show ¬m.2.1.1<=13 by omega)];rfl
 rw[Bm c,BK (show m.2.1.1<=13 by omega)];by_cases d:m.2.1.2.1<0
 ·rw[Bn d,BP (show ¬0<=m.2.1.2.1 by omega)];rfl
 rw[Bm d,BK (show 0<=m.2.1.2.1 by omega)];by_cases e:m.2.1.2.1>q
 ·rw[Bn e,BP (show ¬m.2.1.2.1<=q by omega)];rfl
 rw[Bm e,BK (show m.2.1.2.1<=q by omega),An f,xG,h];rfl
def AAX(q:AA)(L:HH)(m:AE Ar)(i:AA)(x:Ar)(nx:BO):BO:=
 bif A5 x.1==0 then bO AK else sg L (A5 x.1-1) λlo=>bif AG (x.1<lo)then gd [AG (A4 .i64 (A5 x.1-1))] (bO AK)
  else bif AG (i>0)then(bif AG ((m.getD (i-1).toNat (BB).dflt).1>=x.1)then gd (lS m i++[AG (A4 .i64 (A5 x.1-1))]) (bO AK)else gd (lS m i++[AG (A4 .i64 (A5 x.1-1))]) (si q x i nx))
  else gd [AG (A4 .i64 (A5 x.1-1))] (si q x i nx)
def Wz(q:AA)(L:HH)(m a:AE Ar)(k i:AA)(nx:BO):BO:=
 bif AG (i<k)then gd [AG (i.toNat<a.length),AG (0<=i),AG (i<(a.length:AA))] (AAX q L m i (a.getD i.toNat (BB).dflt) nx)else bO AD
theorem cE{L:HH}{h:AA}(a:h=1\/h=2\/h=3\/h=4\/h=5)(f:AA->BO):sg L (h-1) f=f (E2 L h):=by
 rcases a with rfl|rfl|rfl|rfl|rfl<;>rfl
theorem LD{α β:Type}{l:AE α}{i:AB}(b:0<i)(c:i<l.length)(d:l.length<=1000)(y:AP β)(a:AE AH):gd (lS l (i:AA)++a) y=gd a y:=by
 unfold lS;simp only[Gk,DN];rw[An (by omega),An (by omega),An (by omega),An (AZ.2 ⟨by omega,by omega⟩)]
theorem AEk{q:AA}{l:AE AX}{i:AB}{b:AH}{nx:BO}(t:l.length<=40)(d:i<l.length)(j:Dy (As l i)=AD)(h:nx=bO b):bmE q l (i:AA) (As l i) nx=bO (K8 q l i&&b):=by
 have e:A4 .i64 ((i:AA)+1):=AZ.2 ⟨by omega,by omega⟩;have a:Dy ((As l i).1,(As l i).2.1,())=true:=j;have k:Cd ((As l i).1,(As l i).2.1,())=Cd (As l i):=AL;unfold bmE K8;rw[k];cases m:Cd (As l i)
 ·rw[xF,BG a,xG];rfl
 ·obtain⟨u,v⟩:=Oi m;have o:(((As l i).2.1.length:AA)-1).toNat=(As l i).2.1.length-1:=by omega
  have c:∀y:BO,gd (gZ (As l i)) y=y:=λy=>by
   unfold gZ;rw[An (by omega),An (by omega),An (by omega),An (AZ.2 ⟨by omega,by omega⟩),BG a,xG]
  have p:(As l i).2.1.getD (((As l i).2.1.length:AA)-1).toNat (A8).dflt=B3 (As l i):=by rw[o];rfl
  rw[xT,p,Cz];by_cases f:(B3 (As l i)).1>q
  ·rw[Bn f,c,BP (show ¬(B3 (As l i)).1<=q by omega)];rfl
  rw[Bm f,BK (show(B3 (As l i)).1<=q by omega),Cz];by_cases g:i=0
  ·subst g;rw[Bm (by omega),An e,c,h];rfl
  ·have r:((i:AA)-1).toNat=i-1:=by omega
   have s:Af i 0=false:=by cases i with
    |zero=>exact absurd rfl g
    |succ n=>rfl
   rw[Bn (by omega),r,s,Iz];show(bif !Op.bytesLess (As l (i-1)).1 (As l i).1 then _ else _)=_;cases CG (As l (i-1)).1 (As l i).1
   ·rw[show(!false)=AD from AL,xT,LD (by omega) d (by omega),c];rfl
   ·rw[show(!true)=AK from AL,xF,An e,LD (by omega) d (by omega),c,h];rfl
theorem AAY{q:AA}{L:HH}{m:AE Ar}{i:AB}{b:AH}{nx:BO}(p:m.length<=100)(d:i<m.length)(h:nx=bO b):AAX q L m (i:AA) (Bv m i) nx=bO (Lp q L m i&&b):=by
 have e:A4 .i64 ((i:AA)+1):=AZ.2 ⟨by omega,by omega⟩;unfold AAX Lp;have r:=HZ (Bv m i).1;cases j:A5 (Bv m i).1==0
 ·have k:A5 (Bv m i).1≠0:=by simpa using j
  have c:A4 .i64 (A5 (Bv m i).1-1):=AZ.2 ⟨by omega,by omega⟩;rw[xF,cE (by omega),show(!false)=AD from AL,Cz];by_cases f:(Bv m i).1<E2 L (A5 (Bv m i).1)
  ·rw[Bn f,BP (show ¬E2 L (A5 (Bv m i).1)<=(Bv m i).1 by omega),An c,xG];rfl
  rw[Bm f,BK (show E2 L (A5 (Bv m i).1)<=(Bv m i).1 by omega),Cz];by_cases a:i=0
  ·subst a;rw[Bm (by omega),An c,xG,ld e h];rfl
  ·have l:((i:AA)-1).toNat=i-1:=by omega
   have o:Af i 0=false:=by cases i with
    |zero=>exact absurd rfl a
    |succ n=>rfl
   rw[Bn (by omega),l,o,Iz];show(bif AG ((Bv m (i-1)).1>=(Bv m i).1)then _ else _)=_;by_cases g:(Bv m (i-1)).1>=(Bv m i).1
   ·rw[Bn g,LD (by omega) d (by omega),An c,xG,BP (show ¬(Bv m (i-1)).1<(Bv m i).1 by omega)];rfl
   ·rw[Bm g,LD (by omega) d (by omega),An c,xG,ld e h,BK (show(Bv m (i-1)).1<(Bv m i).1 by omega),Cz]
 ·rw[xT];rfl
end Nice
namespace Go.Proofs.YtkgejlchafionaaGreatDoor
open Tryz
open Nice
def wN(x:AM [IT]):vI:=fO prog (Aj []) (AV []) f66 [IT] [IT] x
theorem AEl(n:AA):wN (n,())=AN2 n:=by kernel_rfl
theorem cF:PC 66 Iv:=(Ap (Ac (l:=[]) trivial) Al func66 (by kernel_rfl) (by decide)).nice λ⟨n,()⟩ _=>by
 show wN _=_;rw[AEl];exact sf n
abbrev jI:AE (AB×AE (AB×Sh)):=[(4,[(1,(.obj [.sym,(.dat AW),(.dat BB),.sym,.sym,.sym,.sym,.sym])),(2,(.one .sym)),(31,(.one (.dat AW))),(32,(.one .sym)),(33,(.one .sym))]),(16,[(1,(.obj [.sym,(.dat AW),(.dat BB),.sym,.sym,.sym,.sym,.sym])),(2,(.one .sym)),(89,(.one (.dat BB))),(90,(.one .sym)),(91,(.one .sym))])]
abbrev lg:Eng.Env:=Aj [(99,KQ),(66,Iv)]
abbrev Yh(q:AA)(L:HH):AO:=.row [sy (.int .i64 q),dt 10,dt 11,sy (.int .i64 L.1),sy (.int .i64 L.2.1),sy (.int .i64 L.2.2.1),sy (.int .i64 L.2.2.2.1),sy (.int .i64 L.2.2.2.2.1)] 28 AK
def sj(N:AB)(q:AA)(l:AE AX)(m:AE Ar)(a b c d e:AA)(f:AE AX)(k i:AA):BO:=rH prog lg (AV jI) f64 [.bool] N 0 [(1,.pointer (AC ⟨12,0,AF⟩)),(2,.bool AK),(31,dt 13),(32,sy (.int .i64 k)),(33,sy (.int .i64 i))] [.dat AW l,.dat BB m,Yh q (a,b,c,d,e,()),.dat AW f]
def sk(N:AB)(q:AA)(l:AE AX)(m:AE Ar)(a b c d e:AA)(f:AE Ar)(k i:AA):BO:=rH prog lg (AV jI) f64 [.bool] N 2 [(1,.pointer (AC ⟨12,0,AF⟩)),(2,.bool AK),(89,dt 13),(90,sy (.int .i64 k)),(91,sy (.int .i64 i))] [.dat AW l,.dat BB m,Yh q (a,b,c,d,e,()),.dat BB f]
def obm(x:AM [CY]):BO:=fO prog lg (AV jI) f64 [CY] [.bool] x
theorem AEm(x:AM [CY]):obm x=Cy prog lg (AV jI) f64 [CY] [.bool] AU x:=AL
theorem AEn(N:AB)(q:AA)(l:AE AX)(m:AE Ar)(a b c d e:AA):Cy prog lg (AV jI) f64 [CY] [.bool] N ((q,l,m,(a,b,c,d,e,()),()),())=
 (bif AG (q<0)then bO AK else bif AG (q>1099511627776)then bO AK else bif AG ((l.length:AA)>40)then bO AK else bif AG ((m.length:AA)>100)then bO AK else sj N q l m a b c d e l (l.length:AA) 0):=by kernel_rfl
theorem wO(N:AB)(q:AA)(l:AE AX)(m:AE Ar)(a b c d e:AA)(f:AE AX)(k i:AA):sj (N+1) q l m a b c d e f k i=cC q l f k i (sj N q l m a b c d e f k (i+1)) (fD (a,b,c,d,e,()) (sk N q l m a b c d e m (m.length:AA) 0)):=by kernel_rfl
theorem wP(N:AB)(q:AA)(l:AE AX)(m:AE Ar)(a b c d e:AA)(f:AE Ar)(k i:AA):sk (N+1) q l m a b c d e f k i=Wz q (a,b,c,d,e,()) m f k i (sk N q l m a b c d e f k (i+1)):=by kernel_rfl
theorem AEo(q:AA)(l:AE AX)(m:AE Ar)(a b c d e:AA)(f:m.length<=100):∀(r i N:AB),m.length=i+r->r<N->sk N q l m a b c d e m (m.length:AA) (i:AA)=bO (Ha (Lp q (a,b,c,d,e,()) m) r i):=by
 intro r
 induction r with
 |zero=>
  intro i N g hN;obtain⟨N,rfl⟩:∃k,N=k+1:=⟨N-1,by omega⟩
  rw[wP];unfold Wz;rw[Bm (by omega)];rfl
 |succ r h=>
  intro i N g hN;obtain⟨N,rfl⟩:∃k,N=k+1:=⟨N-1,by omega⟩
  have this:=h (i+1) N (by omega) (by omega);simp only[Dz,Fb]at this;rw[wP];unfold Wz;rw[Bn (by omega),An (by omega),An (by omega),An (by omega),xG];exact AAY f (by omega) this
theorem AEp(q:AA)(l:AE AX)(m:AE Ar)(a b c d e:AA)(h:l.length<=40)(j:m.length<=100)(n:∀x,x∈l->Dy x=AD):∀(r i N:AB),l.length=i+r->r+101<N->sj N q l m a b c d e l (l.length:AA) (i:AA)=bO (Ha (K8 q l) r i&&(Kj (a,b,c,d,e,())&&Ha (Lp q (a,b,c,d,e,()) m) m.length 0)):=by
 intro r
 induction r with
 |zero=>
  intro i N o hN;obtain⟨N,rfl⟩:∃k,N=k+1:=⟨N-1,by omega⟩
  have this:=AEo q l m a b c d e j m.length 0 N (by omega) (by omega);rw[wO];unfold cC;rw[Bm (by omega)];exact fE this
 |succ r p=>
  intro i N o hN;obtain⟨N,rfl⟩:∃k,N=k+1:=⟨N-1,by omega⟩
  have f:i<l.length:=by omega
  have this:=p (i+1) N (by omega) (by omega);simp only[Dz,Fb]at this;have g:Dy (As l i)=true:=n _ (by
   show l.getD i _∈l;rw[Bg,B4 f];exact EK f)
  rw[wO];unfold cC;rw[Bn (by omega),An (by omega),An (by omega),An (by omega),xG];refine(AEk h f g this).trans ?_;show bO (_&&(_&&_))=bO ((_&&_)&&_);rw[L5]
theorem AKV(q:AA)(l:AE AX)(m:AE Ar)(a b c d e:AA)(h:l.all Dy=AD):obm ((q,l,m,(a,b,c,d,e,()),()),())=bO (C6 (q,l,m,(a,b,c,d,e,()),())):=by
 have k:=C8.1 h;show obm _=bO (AG (0<=q)&&(AG (q<=1099511627776)&&(AG (l.length<=40)&&(AG (m.length<=100)&&(Ha (K8 q l) l.length 0&&(Kj (a,b,c,d,e,())&&Ha (Lp q (a,b,c,d,e,()) m) m.length 0))))));rw[AEm,AEn];by_cases f:q<0
 ·rw[Bn f,BP (show ¬0<=q by omega)];rfl
 rw[Bm f,BK (show 0<=q by omega)];by_cases g:q>1099511627776
 ·rw[Bn g,BP (show ¬q<=1099511627776 by omega)];rfl
 rw[Bm g,BK (show q<=1099511627776 by omega)];by_cases i:(l.length:AA)>40
 ·rw[Bn i,BP (show ¬l.length<=40 by omega)];rfl
 rw[Bm i,BK (show l.length<=40 by omega)];by_cases j:(m.length:AA)>100
 ·rw[Bn j,BP (show ¬m.length<=100 by omega)];rfl
 rw[Bm j,BK (show m.length<=100 by omega)];exact AEp q l m a b c d e (by omega) (by omega) k l.length 0 AU (by omega) (by unfold AU;omega)
theorem lh:PC 64 Q2:=(Ap (sh:=AV jI) (Ac (l:=[(99,KQ),(66,Iv)]) ⟨o8,cF,A3⟩) Al func64 (by kernel_rfl) (by decide)).nice λ⟨⟨q,l,m,⟨a,b,c,d,e,()⟩,()⟩,()⟩ h=>AKV q l m a b c d e h
end Go.Proofs.YtkgejlchafionaaGreatDoor
namespace Nice
def D3(e:AX):BE×AH:=bif e.2.1.length==0 then((0,AK,[],()),AK)else(B3 e, !(B3 e).2.1)
def K0:PSpec:=⟨[AW],[A8,.bool],λx=>AG (x.1.2.1.length<=140737488355328),λx=>((D3 x.1).1,(D3 x.1).2,())⟩
def cG(b:AH)(e:AX):AH:= !b||(D3 e).2
def ll(b:AH):PSpec:=⟨[AW],[.bool],λx=>AG (x.1.2.1.length<=140737488355328),λx=>(cG b x.1,())⟩
def Rh:PSpec:=⟨[.slice A8],[.slice A8],λx=>AG (0<x.1.length)&&AG (x.1.length<=1000000),λx=>(x.1,())⟩
def Ep(p f:L8)(b:AH)(e:AX):AH:=Bt e.1 p&&(!(CG e.1 f||e.1==f)&&cG b e)
def EW(k:AA):AA:=min (max k 1) 20
def AAZ(s:Bc)(p f:L8)(b:AH):AE AX:=s.2.1.filter (Ep p f b)
def Cu(s:Bc)(p f:L8)(k:AA)(b:AH):AE AX:=(AAZ s p f b).take (EW k).toNat
def ANG(s:Bc)(p f:L8)(k:AA)(b:AH):AH:=AG (EW k<((AAZ s p f b).length:AA))
def Cv(s:Bc):AH:=AG (s.2.1.length<=40)&&s.2.1.all λe=>AG (1<=e.2.1.length)&&AG (e.2.1.length<=12)
def VI(n:AB)(b:AH):PSpec:=⟨[CY,.str,.str,IT,.fn n],[.slice AW,.bool],λx=>Cv x.1,λx=>(Cu x.1 x.2.1 x.2.2.1 x.2.2.2.1 b,ANG x.1 x.2.1 x.2.2.1 x.2.2.2.1 b,())⟩
def JA(s:Bc)(p f:L8)(k:AA)(b:AH):AE (L8):=(Cu s p f k b).map (·.1)
def PQ:PSpec:=⟨[CY,.str,.str,IT],[.slice .str,.bool],λx=>Cv x.1,λx=>(JA x.1 x.2.1 x.2.2.1 x.2.2.2.1 AD,ANG x.1 x.2.1 x.2.2.1 x.2.2.2.1 AD,())⟩
def VJ:PSpec:=⟨[CY,.str,.str,IT],[.slice AW,.bool],λx=>Cv x.1,λx=>(Cu x.1 x.2.1 x.2.2.1 x.2.2.2.1 AK,ANG x.1 x.2.1 x.2.2.1 x.2.2.2.1 AK,())⟩
theorem VK{s:Bc}(h:C6 s=AD):Cv s=true:=by
 unfold C6 at h;simp only[A0,A6]at h;obtain⟨-, -,a, -,b, -⟩:=h;unfold Cv;rw[A0,A6];refine⟨a,C8.2 λe c=> ?_⟩;obtain⟨i,d,rfl⟩:=List.getElem_of_mem c;have:=H6.1 b i (Nat.zero_le _) (by omega);unfold K8 at this
 rw[A0]at this;have f:As s.2.1 i=s.2.1[i]:=by
  unfold As;rw[Bg,B4 d];rfl
 have:=Oi (f▸this.1);rw[A0,A6,A6];exact this
abbrev PO:=AP (AM [.slice AW,.bool])
abbrev KO:=AP (AM [.slice .str,.bool])
def sl(_:L8)(l:AE BE):AP (AM [A8,.bool]):=
 bif (l.length:AA)==0 then AC ((0,AK,[],()),AK,())else gd [AG (((l.length:AA)-1).toNat<l.length),AG (0<=(l.length:AA)-1),AG ((l.length:AA)-1<(l.length:AA)),AG (A4 .i64 ((l.length:AA)-1))]
  (bif (l.getD ((l.length:AA)-1).toNat (A8).dflt).2.1 then AC (l.getD ((l.length:AA)-1).toNat (A8).dflt,AK,())else AC (l.getD ((l.length:AA)-1).toNat (A8).dflt,AD,()))
theorem AN3{k:L8}{l:AE BE}(h:l.length<=140737488355328):sl k l=AC ((D3 (k,l,())).1,(D3 (k,l,())).2,()):=by
 unfold sl D3;dsimp only;cases l with
 |nil=>rfl
 |cons v r=>
  have b:(((v::r).length:AA)==0)=false:=by rw[CE];simp only[B7];omega
  have c:((v::r).length==0)=false:=AL;have d:(((v::r).length:AA)-1).toNat=(v::r).length-1:=by omega
  have e:0<(v::r).length:=by simp
  rw[b,c,xF,xF,d,An (by omega),An (by omega),An (by omega),An (AZ.2 ⟨by omega,by omega⟩),xG];show(bif (B3 (k,v::r,())).2.1 then AC (B3 (k,v::r,()),AK,())else AC (B3 (k,v::r,()),AD,()))=_;cases a:(B3 (k,v::r,())).2.1
  ·simp only;rfl
  ·simp only;rfl
def SR(b:AH)(p f:L8)(k:AA)(l o:AE AX)(m i:AA)(nx:AE AX->PO):PO:=
 bif AG (i<m)then gd [AG (i.toNat<l.length),AG (0<=i),AG (i<(l.length:AA))]
  (bif Bt (l.getD i.toNat (AW).dflt).1 p then(bif !(CG (l.getD i.toNat (AW).dflt).1 f||(l.getD i.toNat (AW).dflt).1==f)then
   (bif cG b ((l.getD i.toNat (AW).dflt).1,(l.getD i.toNat (AW).dflt).2.1,())then
     gd [AG (A4 .i64 (i+1)),AG ((2*(o.length+[((l.getD i.toNat (AW).dflt).1,(l.getD i.toNat (AW).dflt).2.1,())].length)+400)*40<=281474976710656),AG (0<(l.getD i.toNat (AW).dflt).2.1.length)&&AG ((l.getD i.toNat (AW).dflt).2.1.length<=1000000),AG ((l.getD i.toNat (AW).dflt).2.1.length<=140737488355328)] (nx (o++[((l.getD i.toNat (AW).dflt).1,(l.getD i.toNat (AW).dflt).2.1,())]))
    else gd [AG (A4 .i64 (i+1)),AG ((l.getD i.toNat (AW).dflt).2.1.length<=140737488355328)] (nx o))
   else gd [AG (A4 .i64 (i+1))] (nx o))else gd [AG (A4 .i64 (i+1))] (nx o))
 else bif AG ((o.length:AA)>k)then gd [AG (0<=min (o.length:AA) k),AG (min (o.length:AA) k<=(o.length:AA))] (AC (Ko (min (o.length:AA) k).toNat o,AD,()))
  else gd [AG (0<=min (o.length:AA) k),AG (min (o.length:AA) k<=(o.length:AA))] (AC (Ko (min (o.length:AA) k).toNat o,AK,()))
theorem AEq{b:AH}{p f:L8}{k:AA}{l:AE AX}{h:AB->AE AX->AA->PO}(q:∀N o i,h (N+1) o i=SR b p f k l o (l.length:AA) i (λd=>h N d (i+1)))(B:0<=k)(C:l.length<=40)(v:∀e,e∈l->1<=e.2.1.length/\e.2.1.length<=12):
  ∀(r i N:AB) (o:AE AX),l.length=i+r->r<N->o.length<=i->h N o (i:AA)=AC ((o++(l.drop i).filter (Ep p f b)).take k.toNat,AG (k<((o++(l.drop i).filter (Ep p f b)).length:AA)),()):=by
 intro r
 induction r with
 |zero=>
  intro i N o w hN x;obtain⟨N,rfl⟩:∃k,N=k+1:=⟨N-1,by omega⟩
  rw[q];unfold SR;rw[Bm (by omega),GY (by omega),List.filter_nil,Ce];have s:∀n:AB,n=(min (o.length:AA) k).toNat->Ko n o=o.take k.toNat:=λn y=>by
   by_cases a:o.length<=k.toNat
   ·rw[GB a,GB (by omega)]
   ·rw[y,show(min (o.length:AA) k).toNat=k.toNat by omega]
  by_cases t:(o.length:AA)>k
  ·rw[Bn t,An (by omega),An (by omega),xG,s _ rfl,BK (show k<(o.length:AA) by omega)]
  ·rw[Bm t,An (by omega),An (by omega),xG,s _ rfl,BP (show ¬k<(o.length:AA) by omega)]
 |succ r z=>
  intro i N o w hN x;obtain⟨N,rfl⟩:∃k,N=k+1:=⟨N-1,by omega⟩
  have a:i<l.length:=by omega
  have c:A4 .i64 ((i:AA)+1):=AZ.2 ⟨by omega,by omega⟩;have hd:l.drop i=As l i::l.drop (i+1):=by
   rw[Ef a];congr 1;unfold As;rw[Bg,B4 a];rfl
  obtain⟨D,v2⟩:=v (As l i) (by
   show l.getD i _∈l;rw[Bg,B4 a];exact EK a)
  have g:∀d:AE AX,d.length<=i+1->h N d ((i:AA)+1)=AC ((d++(l.drop (i+1)).filter (Ep p f b)).take k.toNat,AG (k<((d++(l.drop (i+1)).filter (Ep p f b)).length:AA)),()):=λd A=>by
   have:=z (i+1) N d (by omega) (by omega) A;simpa only[Dz,Fb]using this
  have skip:Ep p f b (As l i)=AK->h N o ((i:AA)+1)=AC ((o++(l.drop i).filter (Ep p f b)).take k.toNat,AG (k<((o++(l.drop i).filter (Ep p f b)).length:AA)),()):=λj=>by
   rw[hd,List.filter_cons_of_neg (by rw[j];exact Bool.false_ne_true)];exact g o (by omega)
  have take:Ep p f b (As l i)=AD->h N (o++[As l i]) ((i:AA)+1)=AC ((o++(l.drop i).filter (Ep p f b)).take k.toNat,AG (k<((o++(l.drop i).filter (Ep p f b)).length:AA)),()):=λj=>by
   have:=g (o++[As l i]) (by rw[BA,EL];omega);rw[hd,List.filter_cons_of_pos j];simpa only[C9,Gq]using this
  rw[q];unfold SR;rw[Bn (by omega),An (by omega),An (by omega),An (by omega),xG];show(bif Bt (As l i).1 p then(bif !(CG (As l i).1 f||(As l i).1==f)then(bif cG b (As l i)then gd [AG (A4 .i64 ((i:AA)+1)),AG ((2*(o.length+[As l i].length)+400)*40<=281474976710656),AG (0<(As l i).2.1.length)&&AG ((As l i).2.1.length<=1000000),AG ((As l i).2.1.length<=140737488355328)] (h N (o++[As l i]) ((i:AA)+1))else gd [AG (A4 .i64 ((i:AA)+1)),AG ((As l i).2.1.length<=140737488355328)] (h N o ((i:AA)+1)))else gd [AG (A4 .i64 ((i:AA)+1))] (h N o ((i:AA)+1)))else gd [AG (A4 .i64 ((i:AA)+1))] (h N o ((i:AA)+1)))=_
  cases q1:Bt (As l i).1 p
  ·rw[xF,An c,xG];exact skip (by unfold Ep;rw[q1];rfl)
  cases m: !(CG (As l i).1 f||(As l i).1==f)
  ·rw[xT,xF,An c,xG];exact skip (by unfold Ep;rw[q1,m];rfl)
  cases u:cG b (As l i)
  ·rw[xT,xT,xF,An c,An (by omega),xG];exact skip (by unfold Ep;rw[q1,m,u];rfl)
  rw[xT,xT,xT,An c,An (by simp only[EL];omega),BG (by rw[BK (show 0<(As l i).2.1.length by omega),BK (show(As l i).2.1.length<=1000000 by omega)];rfl),An (by omega),xG];exact take (by unfold Ep;rw[q1,m,u];rfl)
def M8(g:AH)(l:AE AX)(o:AE (L8))(m i:AA)(nx:AE (L8)->KO):KO:=
 bif AG (i<m)then gd [AG (A4 .i64 (i+1)),AG ((2*(o.length+[(l.getD i.toNat (AW).dflt).1].length)+400)*16<=281474976710656),AG (i.toNat<l.length),AG (0<=i),AG (i<(l.length:AA))] (nx (o++[(l.getD i.toNat (AW).dflt).1]))else AC (o,g,())
theorem AOV{g:AH}{l:AE AX}{h:AB->AE (L8)->AA->KO}(b:∀N o i,h (N+1) o i=M8 g l o (l.length:AA) i (λc=>h N c (i+1)))(j:l.length<=1000):
  ∀(r i N:AB) (o:AE (L8)),l.length=i+r->r<N->o.length<=i->h N o (i:AA)=AC (o++(l.drop i).map (·.1),g,()):=by
 intro r
 induction r with
 |zero=>
  intro i N o d hN e;obtain⟨N,rfl⟩:∃k,N=k+1:=⟨N-1,by omega⟩
  rw[b];unfold M8;rw[Bm (by omega),GY (by omega),List.map_nil,Ce]
 |succ r f=>
  intro i N o d hN e;obtain⟨N,rfl⟩:∃k,N=k+1:=⟨N-1,by omega⟩
  have a:i<l.length:=by omega
  have hd:l.drop i=As l i::l.drop (i+1):=by
   rw[Ef a];congr 1;unfold As;rw[Bg,B4 a];rfl
  have:=f (i+1) N (o++[(As l i).1]) (by omega) (by omega) (by rw[BA,EL];omega);simp only[Dz,Fb]at this;rw[b];unfold M8;rw[Bn (by omega),An (AZ.2 ⟨by omega,by omega⟩),An (by simp only[EL];omega),An (by omega),An (by omega),An (by omega),xG,hd,List.map_cons]
  refine this.trans ?_;rw[C9,Gq]
theorem Ri(k:AA):0<=EW k:=by unfold EW;omega
theorem W0{s:Bc}(h:Cv s=AD):s.2.1.length<=40/\∀e,e∈s.2.1->1<=e.2.1.length/\e.2.1.length<=12:=by
 unfold Cv at h;rw[A0,A6,C8]at h;exact⟨h.1,λe a=>by have:=h.2 e a;rwa[A0,A6,A6]at this⟩
theorem HO{s:Bc}{p f:L8}{k:AA}{b:AH}:(Cu s p f k b).length<=20:=by
 unfold Cu EW;rw[Bw];omega
end Nice
namespace Go.Proofs.YtkgejlchafionaaGreatDoor
open Tryz
open Nice
def AEr(x:AM [AW]):AP (AM [A8,.bool]):=fO prog (Aj []) (AV []) f118 [AW] [A8,.bool] x
theorem AKW(k:L8)(l:AE BE):AEr ((k,l,()),())=sl k l:=by kernel_rfl
theorem fF:PC 118 K0:=(Ap (Ac (l:=[]) trivial) Al func118 (by kernel_rfl) (by decide)).nice λ⟨⟨k,l,()⟩,()⟩ h=>by
 show AEr _=_;rw[AKW];exact AN3 (BL h)
def wQ(x:AM [AW]):BO:=fO prog (Aj [(118,K0)]) (AV []) f167 [AW] [.bool] x
theorem AEs(k:L8)(l:AE BE):wQ ((k,l,()),())=(bif (D3 (k,l,())).2 then gd [AG (l.length<=140737488355328)] (bO AD)else gd [AG (l.length<=140737488355328)] (bO AK)):=by kernel_rfl
theorem AAa:PC 167 (ll AD):=(Ap (Ac (l:=[(118,K0)]) ⟨fF,A3⟩) Al func167 (by kernel_rfl) (by decide)).nice λ⟨⟨k,l,()⟩,()⟩ h=>by
 have h:l.length<=140737488355328:=BL h;show wQ _=AC ((D3 (k,l,())).2,());rw[AEs];cases(D3 (k,l,())).2
 ·rw[xF,An h,xG];rfl
 ·rw[xT,An h,xG];rfl
def wR(x:AM [AW]):BO:=fO prog (Aj []) (AV []) f168 [AW] [.bool] x
theorem AEt(k:L8)(l:AE BE):wR ((k,l,()),())=bO true:=by kernel_rfl
theorem AAb:PC 168 (ll AK):=(Ap (Ac (l:=[]) trivial) Al func168 (by kernel_rfl) (by decide)).nice λ⟨⟨k,l,()⟩,()⟩ h=>by
 show wR _=AC (AD,());rw[AEt];rfl
def fG(x:AM [.slice A8]):AP (AM [.slice A8]):=fO prog (Aj []) (AV []) f156 [.slice A8] [.slice A8] x
theorem sn(l:AE BE):fG (l,())=gd [AG ((2*(0+l.length)+400)*32<=281474976710656),AG (0<l.length)] (AC (l,())):=by kernel_rfl
theorem Yi:PC 156 Rh:=(Ap (Ac (l:=[]) trivial) Al func156 (by kernel_rfl) (by decide)).nice λ⟨l,()⟩ h=>by
 have h:(AG (0<bQ (α:=BE) l)&&AG (bQ (α:=BE) l<=1000000))=true:=h;rw[A0,A6,A6]at h;show fG _=_;rw[sn,An (by omega),An h.1,xG]
def AEu(x:AM [.str,.str]):BO:=fO prog (Aj [(138,Bz)]) (AV []) f93 [.str,.str] [.bool] x
theorem AKX(s p:L8):AEu (s,p,())=(bif Bt s p then bO AD else bO AK):=by kernel_rfl
theorem wS:PC 93 Bz:=(Ap (Ac (l:=[(138,Bz)]) ⟨ANc,A3⟩) Al func93 (by kernel_rfl) (by decide)).nice λ⟨s,p,()⟩ _=>by
 show AEu _=AC (Bt s p,());rw[AKX];cases Bt s p<;>rfl
abbrev cH:AE (AB×AE (AB×Sh)):=[(4,[(1,(.one .sym)),(2,(.one .sym)),(3,(.one .sym)),(4,(.one .any)),(10,(.one .any)),(11,(.one .sym)),(12,(.one (.vec AW 68))),(19,(.one (.dat AW))),(20,(.one .sym)),(21,(.one .sym))])]
abbrev ln(n:AB)(b:AH):Eng.Env:=Aj [(93,Bz),(156,Rh),(n,ll b)]
def wT(n:AB)(b:AH)(N:AB)(p f:L8)(k:AA)(o l:AE AX)(m i:AA):PO:=rH prog (ln n b) (AV cH) f166 [.slice AW,.bool] N 0 [(1,sy (.string (bs p))),(2,sy (.string (bs f))),(3,sy (.int .i64 k)),(4,Value.func (Fn.func n) { toList:=[]} { toList:=[]}),(10,RG AF 0 0),(11,.bool AK),(12,dt 10),(19,dt 11),(20,sy (.int .i64 m)),(21,sy (.int .i64 i))] [.vec AW o 68,.dat AW l]
def opg(n:AB)(b:AH)(x:AM [CY,.str,.str,IT,.fn n]):PO:=fO prog (ln n b) (AV cH) f166 [CY,.str,.str,IT,.fn n] [.slice AW,.bool] x
theorem wU(n:AB)(b:AH)(x:AM [CY,.str,.str,IT,.fn n]):opg n b x=Cy prog (ln n b) (AV cH) f166 [CY,.str,.str,IT,.fn n] [.slice AW,.bool] AU x:=AL
theorem AAc(N:AB)(q:AA)(l:AE AX)(m:AE Ar)(a b c d e:AA)(p f:L8)(k:AA):Cy prog (ln 167 AD) (AV cH) f166 [CY,.str,.str,IT,.fn 167] [.slice AW,.bool] N ((q,l,m,(a,b,c,d,e,()),()),p,f,k,(),())=wT 167 AD N p f (EW k) [] l (l.length:AA) 0:=by kernel_rfl
theorem AAd(N:AB)(q:AA)(l:AE AX)(m:AE Ar)(a b c d e:AA)(p f:L8)(k:AA):Cy prog (ln 168 AK) (AV cH) f166 [CY,.str,.str,IT,.fn 168] [.slice AW,.bool] N ((q,l,m,(a,b,c,d,e,()),()),p,f,k,(),())=wT 168 AK N p f (EW k) [] l (l.length:AA) 0:=by kernel_rfl
theorem AAe(N:AB)(p f:L8)(k:AA)(o l:AE AX)(m i:AA):wT 167 AD (N+1) p f k o l m i=SR AD p f k l o m i (λa=>wT 167 AD N p f k a l m (i+1)):=by kernel_rfl
theorem AAf(N:AB)(p f:L8)(k:AA)(o l:AE AX)(m i:AA):wT 168 AK (N+1) p f k o l m i=SR AK p f k l o m i (λa=>wT 168 AK N p f k a l m (i+1)):=by kernel_rfl
theorem AEv{s:Bc}(h:Cv s=AD)(p f:L8)(k:AA):opg 167 AD (s,p,f,k,(),())=AC (Cu s p f k AD,ANG s p f k AD,()):=by
 obtain⟨q,l,m,⟨a,b,c,d,e,⟨⟩⟩,⟨⟩⟩:=s;obtain⟨g,j⟩:=W0 h;rw[wU,AAc];have:=AEq (b:=AD) (p:=p) (f:=f) (k:=EW k) (l:=l) (h:=λN o i=>wT 167 AD N p f (EW k) o l (l.length:AA) i) (λN o i=>AAe N p f (EW k) o l _ i) (Ri k) g j l.length 0 AU [] (by omega) (O8 g (by unfold AU;omega)) (Ak _)
 exact this
theorem AEw{s:Bc}(h:Cv s=AD)(p f:L8)(k:AA):opg 168 AK (s,p,f,k,(),())=AC (Cu s p f k AK,ANG s p f k AK,()):=by
 obtain⟨q,l,m,⟨a,b,c,d,e,⟨⟩⟩,⟨⟩⟩:=s;obtain⟨g,j⟩:=W0 h;rw[wU,AAd];have:=AEq (b:=AK) (p:=p) (f:=f) (k:=EW k) (l:=l) (h:=λN o i=>wT 168 AK N p f (EW k) o l (l.length:AA) i) (λN o i=>AAf N p f (EW k) o l _ i) (Ri k) g j l.length 0 AU [] (by omega) (O8 g (by unfold AU;omega)) (Ak _)
 exact this
theorem AEx:PC 166 (VI 167 AD):=(Ap (sh:=AV cH) (Ac (l:=[(93,Bz),(156,Rh),(167,ll AD)]) ⟨wS,Yi,AAa,A3⟩) Al func166 (by kernel_rfl) (by decide)).nice λ⟨s,p,f,k,(),()⟩ h=>AEv h p f k
theorem AEy:PC 166 (VI 168 AK):=(Ap (sh:=AV cH) (Ac (l:=[(93,Bz),(156,Rh),(168,ll AK)]) ⟨wS,Yi,AAb,A3⟩) Al func166 (by kernel_rfl) (by decide)).nice λ⟨s,p,f,k,(),()⟩ h=>AEw h p f k
abbrev lp:AE (AB×AE (AB×Sh)):=[(4,[(8,(.one .any)),(9,(.one .sym)),(11,(.one .sym)),(12,(.one (.vec .str 9))),(23,(.one (.dat AW))),(24,(.one .sym)),(25,(.one .sym))])]
abbrev sq:Eng.Env:=Aj [(166,VI 167 AD)]
def wV(N:AB)(g:AH)(o:AE (L8))(l:AE AX)(m i:AA):KO:=rH prog sq (AV lp) f121 [.slice .str,.bool] N 0 [(8,RG AF 0 0),(9,.bool AK),(11,.bool g),(12,dt 10),(23,dt 11),(24,sy (.int .i64 m)),(25,sy (.int .i64 i))] [.vec .str o 9,.dat AW l]
def onm(x:AM [CY,.str,.str,IT]):KO:=fO prog sq (AV lp) f121 [CY,.str,.str,IT] [.slice .str,.bool] x
theorem AEz(x:AM [CY,.str,.str,IT]):onm x=Cy prog sq (AV lp) f121 [CY,.str,.str,IT] [.slice .str,.bool] AU x:=AL
def nmB(N:AB)(s:Bc)(p f:L8)(k:AA):KO:=bif ANG s p f k AD then gd [Cv s] (wV N AD [] (Cu s p f k AD) ((Cu s p f k AD).length:AA) 0)else gd [Cv s] (wV N AK [] (Cu s p f k AD) ((Cu s p f k AD).length:AA) 0)
theorem AE0(N:AB)(q:AA)(l:AE AX)(m:AE Ar)(a b c d e:AA)(p f:L8)(k:AA):Cy prog sq (AV lp) f121 [CY,.str,.str,IT] [.slice .str,.bool] N ((q,l,m,(a,b,c,d,e,()),()),p,f,k,())=nmB N (q,l,m,(a,b,c,d,e,()),()) p f k:=by kernel_rfl
theorem AAg(N:AB)(o:AE (L8))(l:AE AX)(m i:AA):wV (N+1) AD o l m i=M8 AD l o m i (λa=>wV N AD a l m (i+1)):=by kernel_rfl
theorem AAh(N:AB)(o:AE (L8))(l:AE AX)(m i:AA):wV (N+1) AK o l m i=M8 AK l o m i (λa=>wV N AK a l m (i+1)):=by kernel_rfl
theorem AKZ{s:Bc}(h:Cv s=AD)(p f:L8)(k:AA):onm (s,p,f,k,())=AC (JA s p f k AD,ANG s p f k AD,()):=by
 obtain⟨q,l,m,⟨a,b,c,d,e,⟨⟩⟩,⟨⟩⟩:=s;rw[AEz,AE0];unfold nmB;have j:=HO (s:=(q,l,m,(a,b,c,d,e,()),())) (p:=p) (f:=f) (k:=k) (b:=AD);have g:(Cu (q,l,m,(a,b,c,d,e,()),()) p f k AD).length<AU:=O8 j (by unfold AU;omega);cases ANG (q,l,m,(a,b,c,d,e,()),()) p f k AD
 ·rw[xF,BG h,xG];exact AOV (h:=λN o i=>wV N AK o (Cu (q,l,m,(a,b,c,d,e,()),()) p f k AD) _ i) (λN o i=>AAh N o _ _ i) (by omega) _ 0 AU [] (CJ _).symm g (Ak _)
 ·rw[xT,BG h,xG];exact AOV (h:=λN o i=>wV N AD o (Cu (q,l,m,(a,b,c,d,e,()),()) p f k AD) _ i) (λN o i=>AAg N o _ _ i) (by omega) _ 0 AU [] (CJ _).symm g (Ak _)
theorem sr:PC 121 PQ:=(Ap (sh:=AV lp) (Ac (l:=[(166,VI 167 AD)]) ⟨AEx,A3⟩) Al func121 (by kernel_rfl) (by decide)).nice λ⟨s,p,f,k,()⟩ h=>AKZ h p f k
def ovs(x:AM [CY,.str,.str,IT]):PO:=fO prog (Aj [(166,VI 168 AK)]) (AV []) f122 [CY,.str,.str,IT] [.slice AW,.bool] x
def vsB(s:Bc)(p f:L8)(k:AA):PO:=bif ANG s p f k AK then gd [Cv s] (AC (Cu s p f k AK,AD,()))else gd [Cv s] (AC (Cu s p f k AK,AK,()))
theorem evs(q:AA)(l:AE AX)(m:AE Ar)(a b c d e:AA)(p f:L8)(k:AA):ovs ((q,l,m,(a,b,c,d,e,()),()),p,f,k,())=vsB (q,l,m,(a,b,c,d,e,()),()) p f k:=by kernel_rfl
theorem AAi:PC 122 VJ:=(Ap (Ac (l:=[(166,VI 168 AK)]) ⟨AEy,A3⟩) Al func122 (by kernel_rfl) (by decide)).nice λ⟨⟨q,l,m,⟨a,b,c,d,e,()⟩,()⟩,p,f,k,()⟩ h=>by
 have h:Cv (q,l,m,(a,b,c,d,e,()),())=true:=h;show ovs _=AC (Cu (q,l,m,(a,b,c,d,e,()),()) p f k AK,ANG (q,l,m,(a,b,c,d,e,()),()) p f k AK,());rw[evs];unfold vsB;cases ANG (q,l,m,(a,b,c,d,e,()),()) p f k AK
 ·rw[xF,BG h,xG]
 ·rw[xT,BG h,xG]
end Go.Proofs.YtkgejlchafionaaGreatDoor
namespace Nice
abbrev AO1:=AP (AM [BF])
abbrev HO1:=AP (AM [K9])
def VL(a:BH):BH:=(a.1,cut a.2.1 42,a.2.2.1,cut a.2.2.2.1 302,a.2.2.2.2.1,cut a.2.2.2.2.2.1 10,cut a.2.2.2.2.2.2.1 42,cut a.2.2.2.2.2.2.2.1 42,a.2.2.2.2.2.2.2.2.1,a.2.2.2.2.2.2.2.2.2.1,())
def lq:PSpec:=⟨[BF],[BF],λ_=>AD,λx=>(VL x.1,())⟩
def zSh:U0:=([],[],AK,[],())
def AE1(l:AE (L8)):L8:=l.getD (l.length-1) Ty.str.dflt
def AAk(l:AE (L8))(g:AH):U0:=(l,[],g,bif g then AE1 l else [],())
def AAl(l:AE AX)(g:AH):U0:=([],l,g,bif g then(As l (l.length-1)).1 else [],())
def Fy(s:Bc)(a:BH):U0:=bif a.1==4 then AAk (JA s a.2.2.2.2.2.2.1 a.2.2.2.2.2.2.2.1 a.2.2.2.2.2.2.2.2.1 AD) (ANG s a.2.2.2.2.2.2.1 a.2.2.2.2.2.2.2.1 a.2.2.2.2.2.2.2.2.1 AD)
 else bif a.1==5 then AAl (Cu s a.2.2.2.2.2.2.1 a.2.2.2.2.2.2.2.1 a.2.2.2.2.2.2.2.2.1 AK) (ANG s a.2.2.2.2.2.2.1 a.2.2.2.2.2.2.2.1 a.2.2.2.2.2.2.2.2.1 AK)else zSh
def QM(s:Bc)(a:BH):U0:=bif C6 s then(bif HW a then Fy s a else zSh)else zSh
def SS(s:Bc)(a:BH):AH:=IU s&&Gh a
def AN4:PSpec:=⟨[CY,BF],[K9],λx=>SS x.1 x.2.1,λx=>(QM x.1 x.2.1,())⟩
abbrev fH{α:Type}(l:AE α):AE AH:=[AG (((l.length:AA)-1).toNat<l.length),AG (0<=(l.length:AA)-1),AG ((l.length:AA)-1<(l.length:AA)),AG (A4 .i64 ((l.length:AA)-1))]
theorem Yj{α β:Type}{l:AE α}(b:0<l.length)(c:l.length<=1000)(a:AE AH)(y:AP β):gd (fH l++a) y=gd a y:=by
 unfold fH;simp only[Gk,DN];rw[An (by omega),An (by omega),An (by omega),An (AZ.2 ⟨by omega,by omega⟩)]
def nmE(s:Bc)(l:AE (L8))(g:AH):HO1:=bif g then gd (fH l++[Cv s]) (AC ((l,[],AD,l.getD ((l.length:AA)-1).toNat Ty.str.dflt,()),()))else gd [Cv s] (AC ((l,[],AK,[],()),()))
def enE(s:Bc)(l:AE AX)(g:AH):HO1:=bif g then gd (fH l++[Cv s]) (AC (([],l,AD,(l.getD ((l.length:AA)-1).toNat (AW).dflt).1,()),()))else gd [Cv s] (AC (([],l,AK,[],()),()))
theorem wX{s:Bc}{l:AE (L8)}{g:AH}(a:Cv s=AD)(b:l.length<=1000)(c:g=AD->0<l.length):nmE s l g=AC (AAk l g,()):=by
 unfold nmE AAk;cases g
 ·rw[xF,BG a,xG];rfl
 ·have:=c rfl;rw[xT,Yj this b,BG a,xG,show((l.length:AA)-1).toNat=l.length-1 by omega];rfl
theorem wY{s:Bc}{l:AE AX}{g:AH}(a:Cv s=AD)(b:l.length<=1000)(c:g=AD->0<l.length):enE s l g=AC (AAl l g,()):=by
 unfold enE AAl;cases g
 ·rw[xF,BG a,xG];rfl
 ·have:=c rfl;rw[xT,Yj this b,BG a,xG,show((l.length:AA)-1).toNat=l.length-1 by omega];rfl
theorem MM{s:Bc}{p f:L8}{k:AA}{b:AH}(h:ANG s p f k b=AD):((Cu s p f k b).length:AA)=EW k:=by
 have h:EW k<((AAZ s p f b).length:AA):=BL h;have a:=Ri k;unfold Cu;rw[Bw];omega
theorem Nn(k:AA):1<=EW k:=by unfold EW;omega
def lu(s:Bc)(a:BH):HO1:=
 bif C6 s then(bif HW a then gd [Gh a,IU s] (bif a.1==4 then nmE s (JA s a.2.2.2.2.2.2.1 a.2.2.2.2.2.2.2.1 a.2.2.2.2.2.2.2.2.1 AD) (ANG s a.2.2.2.2.2.2.1 a.2.2.2.2.2.2.2.1 a.2.2.2.2.2.2.2.2.1 AD)
  else bif a.1==5 then enE s (Cu s a.2.2.2.2.2.2.1 a.2.2.2.2.2.2.2.1 a.2.2.2.2.2.2.2.2.1 AK) (ANG s a.2.2.2.2.2.2.1 a.2.2.2.2.2.2.2.1 a.2.2.2.2.2.2.2.2.1 AK)else AC (zSh,()))else gd [Gh a,IU s] (AC (zSh,())))else gd [IU s] (AC (zSh,()))
theorem ss{s:Bc}{a:BH}(h:SS s a=AD):lu s a=AC (QM s a,()):=by
 unfold SS at h;rw[A0]at h;unfold lu QM;cases d:C6 s
 ·rw[xF,xF,BG h.1,xG]
 rw[xT,xT];have c:=VK d;cases HW a
 ·rw[xF,xF,BG h.2,BG h.1,xG]
 rw[xT,xT,BG h.2,BG h.1,xG];unfold Fy;cases a.1==4
 ·rw[xF,xF];cases a.1==5
  ·rw[xF,xF]
  ·rw[xT,xT];refine wY c (Ea HO (by omega)) λb=> ?_
   have:=MM b;have:=Nn a.2.2.2.2.2.2.2.2.1;omega
 ·rw[xT,xT];refine wX c ?_ λb=> ?_
  ·unfold JA;rw[Eg];exact Ea HO (by omega)
  ·have:=MM b;have:=Nn a.2.2.2.2.2.2.2.2.1;unfold JA;rw[Eg];omega
end Nice
namespace Go.Proofs.YtkgejlchafionaaGreatDoor
open Tryz
open Nice
theorem AE2:PC 12 Tk:=by
 have e:AOG=Tk:=by
  unfold AOG Tk;congr 1;funext x;rw[de];cases HW x.1<;>rfl
 rw[<-e];exact ACj
def AE3(x:AM [BF]):AO1:=fO prog (Aj [(22,ADm)]) (AV []) f7 [BF] [BF] x
theorem AE4(a:AA)(key:L8)(v:AA)(b:L8)(c:AA)(t p f:L8)(d:AA)(e:AH):AE3 ((a,key,v,b,c,t,p,f,d,e,()),())=AC (VL (a,key,v,b,c,t,p,f,d,e,()),()):=by kernel_rfl
theorem AAm:PC 7 lq:=(Ap (Ac (l:=[(22,ADm)]) ⟨AFl,A3⟩) Al func7 (by kernel_rfl) (by decide)).nice λ⟨⟨a,key,v,b,c,t,p,f,d,e,()⟩,()⟩ _=>AE4 a key v b c t p f d e
def AE5(x:AM [CY,BF]):HO1:=fO prog (Aj [(64,Q2),(12,Tk),(121,PQ),(122,VJ)]) (AV []) f79 [CY,BF] [K9] x
theorem AE6(q:AA)(l:AE AX)(m:AE Ar)(a b c d e g:AA)(key:L8)(v:AA)(h:L8)(i:AA)(t p f:L8)(j:AA)(k:AH):AE5 ((q,l,m,(a,b,c,d,e,()),()),(g,key,v,h,i,t,p,f,j,k,()),())=lu (q,l,m,(a,b,c,d,e,()),()) (g,key,v,h,i,t,p,f,j,k,()):=by kernel_rfl
theorem AAn:PC 79 AN4:=(Ap (Ac (l:=[(64,Q2),(12,Tk),(121,PQ),(122,VJ)]) ⟨lh,AE2,sr,AAi,A3⟩) Al func79 (by kernel_rfl) (by decide)).nice λ⟨⟨q,l,m,⟨a,b,c,d,e,()⟩,()⟩,⟨g,key,v,i,j,t,p,f,k,n,()⟩,()⟩ h=>(AE6 q l m a b c d e g key v i j t p f k n).trans (ss h)
end Go.Proofs.YtkgejlchafionaaGreatDoor
namespace Nice
abbrev ZW:Type:=AA×AA×Unit
def JB(n:AA):AA:=bif AG (n.tmod 65521<0)then n.tmod 65521+65521 else n.tmod 65521
def zB(z:ZW):AH:=AG (0<=z.1/\z.1<=70000/\0<=z.2.1/\z.2.1<=70000)
def Kf(a b:ZW):ZW:=(JB (a.1+b.1),JB (a.2.1+b.2.1),())
def H8(a b:ZW):ZW:=(JB (a.1*b.1-a.2.1*b.2.1),JB (a.1*b.2.1+a.2.1*b.1),())
def fI(z:ZW)(s:L8):ZW:=s.foldl (λz c=>Kf (H8 z (3,5,())) ((c.toNat:AA)+1,0,())) z
def AKa:L8:=[48,49,50,51,52,53,54,55,56,57,97,98,99,100,101,102]
def jJ(n:AA):Bo:=Cj ((AKa.getD n.toNat 0).toNat:AA).toNat
def HQ(n:AA):L8:=[jJ ((n.tdiv 4096).tmod 16),jJ ((n.tdiv 256).tmod 16),jJ ((n.tdiv 16).tmod 16),jJ (n.tmod 16)]
def Yk(n:AA):AH:=AG (0<=n/\n<=70000)
def Yl(z:ZW):L8:=HQ z.1++HQ z.2.1
def ANN(s:L8):ZW:=fI (0,1,()) s
def M9(s:L8):L8:=Yl (ANN s)
abbrev K1:Ty:=.pair (.int .i64) (.pair (.int .i64) .unit)
def AN5:PSpec:=⟨[.int .i64],[.int .i64],λ_=>AD,λx=>(JB x.1,())⟩
def VM:PSpec:=⟨[K1,K1],[K1],λx=>zB x.1&&zB x.2.1,λx=>(Kf x.1 x.2.1,())⟩
def VN:PSpec:=⟨[K1,K1],[K1],λx=>zB x.1&&zB x.2.1,λx=>(H8 x.1 x.2.1,())⟩
def onS:PSpec:=⟨[K1,.str],[K1],λx=>zB x.1&&Aw x.2.1,λx=>(fI x.1 x.2.1,())⟩
def ly:PSpec:=⟨[.int .i64],[.str],λx=>Yk x.1,λx=>(HQ x.1,())⟩
def lz:PSpec:=⟨[K1],[.str],λx=>zB x.1,λx=>(Yl x.1,())⟩
def l3:PSpec:=⟨[.str],[K1],λx=>Aw x.1,λx=>(ANN x.1,())⟩
def W2:PSpec:=⟨[.str],[.str],λx=>Aw x.1,λx=>(M9 x.1,())⟩
theorem cI(n:AA): -65521<n.tmod 65521/\n.tmod 65521<65521:=by
 rcases Int.le_total 0 n with h|h
 ·rw[O7 h];omega
 ·obtain⟨u,rfl⟩:∃u,n= -u:=⟨-n,by omega⟩
  rw[Int.neg_tmod,O7 (by omega)];omega
theorem LF(n:AA):0<=JB n/\JB n<65521:=by
 have:=cI n;unfold JB;by_cases h:n.tmod 65521<0
 ·rw[Bn h];omega
 ·rw[Bm h];omega
theorem LG{z:ZW}:zB z=AD↔(0<=z.1/\z.1<=70000/\0<=z.2.1/\z.2.1<=70000):=decide_eq_true_iff
theorem l4(a b:ZW):zB (Kf a b)=true:=by
 have c:=LF (a.1+b.1);have d:=LF (a.2.1+b.2.1);exact LG.2 ⟨c.1,by show JB _<=_;omega,d.1,by show JB _<=_;omega⟩
theorem AAo(a b:ZW):zB (H8 a b)=true:=by
 have c:=LF (a.1*b.1-a.2.1*b.2.1);have d:=LF (a.1*b.2.1+a.2.1*b.1);exact LG.2 ⟨c.1,by show JB _<=_;omega,d.1,by show JB _<=_;omega⟩
theorem AE7:∀(s:L8) (z:ZW),zB z=AD->zB (fI z s)=AD
 |[],_,h=>h
 |_::s,_,_=>AE7 s _ (l4 _ _)
theorem Ym(s:L8):(M9 s).length=8:=AL
theorem LH{a b:AA}(d:0<=a)(e:a<=70000)(c:0<=b)(f:b<=70000):0<=a*b/\a*b<=4900000000:=
 ⟨Int.mul_nonneg d c,by
  have:=yX e f c (by omega);omega⟩
theorem W3{n k:AA}(a:0<=n)(b:n<=70000)(c:1<=k):0<=n.tdiv k/\n.tdiv k<=70000:=by
 rw[Ud a];exact⟨Int.ediv_nonneg a (by omega),Int.le_trans (Int.ediv_le_self k a) b⟩
theorem W4{n:AA}(a:0<=n):0<=n.tmod 16/\n.tmod 16<16:=by
 rw[O7 a];omega
def un(w:AB):AA:=(Xd w .i64).getD 0
def okR(lo a:AA)(w:AB):AH:=AG (w=fN (un w))&&(AG (lo<=un w)&&AG (un w<=a))
def okF(w:AB):AH:=okR 0 65520 w
def jK(w:AB):AH:=okR (-1125899906842624) 1125899906842624 w
def RW(z:AB×AB):AH:=okF z.1&&okF z.2
def cz(z:AB×AB):ZW:=(un z.1,un z.2,())
def cf(z:ZW):AB×AB:=(fN z.1,fN z.2.1)
def LI(w:AB):AB:=fN (JB (un w))
def l5:PSpec:=⟨[.f64],[.f64],λx=>jK x.1,λx=>(LI x.1,())⟩
def Yn:PSpec:=⟨[.cx],[.cx],λx=>jK x.1.1&&jK x.1.2,λx=>((LI x.1.1,LI x.1.2),())⟩
def VP:PSpec:=⟨[.cx,.cx],[.cx],λx=>RW x.1&&RW x.2.1,λx=>(cf (Kf (cz x.1) (cz x.2.1)),())⟩
def VQ:PSpec:=⟨[.cx,.cx],[.cx],λx=>RW x.1&&RW x.2.1,λx=>(cf (H8 (cz x.1) (cz x.2.1)),())⟩
def AAp:PSpec:=⟨[.cx,.slice .byte],[.cx],λx=>RW x.1&&Aw x.2.1,λx=>(cf (fI (cz x.1) x.2.1),())⟩
def cJ:PSpec:=⟨[.slice .byte],[.cx],λx=>Aw x.1,λx=>(cf (ANN x.1),())⟩
def cK:PSpec:=⟨[.cx],[.str],λx=>RW x.1,λx=>(Yl (cz x.1),())⟩
def Mk:PSpec:=⟨[.str],[.str],λx=>Aw x.1,λx=>(M9 x.1,())⟩
theorem F0{n:AA}(h:n.natAbs<2^53):un (fN n)=n:=by unfold un;rw[uE h];rfl
theorem fJ{lo d:AA}{w:AB}(e: -2000000000000000<=lo)(f:d<=2000000000000000):okR lo d w=AD↔∃n:AA,lo<=n/\n<=d/\w=fN n:=by
 unfold okR;rw[A0,A0,A6,A6,A6];constructor
 ·rintro⟨a,b,c⟩;exact⟨un w,b,c,a⟩
 ·rintro⟨n,a,b,rfl⟩;rw[F0 (by omega)];exact⟨rfl,a,b⟩
theorem W5{w:AB}:okF w=AD↔∃n:AA,0<=n/\n<=65520/\w=fN n:=fJ (by decide) (by decide)
theorem Rj{w:AB}:jK w=AD↔∃n:AA, -1125899906842624<=n/\n<=1125899906842624/\w=fN n:=fJ (by decide) (by decide)
theorem W6{n:AA}(a: -1125899906842624<=n)(b:n<=1125899906842624):jK (fN n)=true:=Rj.2 ⟨n,a,b,rfl⟩
theorem l6{n:AA}(a:0<=n)(b:n<=65520):okF (fN n)=true:=W5.2 ⟨n,a,b,rfl⟩
theorem PS{z:ZW}(a:0<=z.1/\z.1<65521)(b:0<=z.2.1/\z.2.1<65521):RW (cf z)=true:=by
 unfold RW cf;rw[A0];exact⟨l6 a.1 (by omega),l6 b.1 (by omega)⟩
theorem VS{z:ZW}(c:0<=z.1/\z.1<65521)(d:0<=z.2.1/\z.2.1<65521):cz (cf z)=z:=by
 obtain⟨a,b,⟨⟩⟩:=z;show(un (fN a),un (fN b),())=(a,b,());have c:0<=a/\a<65521:=c;have d:0<=b/\b<65521:=d;rw[F0 (by omega),F0 (by omega)]
theorem l7(a b:ZW):(0<=(Kf a b).1/\(Kf a b).1<65521)/\0<=(Kf a b).2.1/\(Kf a b).2.1<65521:=⟨LF _,LF _⟩
theorem AAq(a b:ZW):(0<=(H8 a b).1/\(H8 a b).1<65521)/\0<=(H8 a b).2.1/\(H8 a b).2.1<65521:=⟨LF _,LF _⟩
theorem PT{a b:AA}(c:0<=a)(g:a<=65520)(d:0<=b)(h:b<=65520):(CZ (fN a)&&CZ (fN b))=AD/\QD (fN a) (fN b)=true:=by
 obtain⟨e,f⟩:=yA c (by omega) d (by omega);refine⟨e,f.trans ?_⟩;rw[BK (show a<65521 by omega),BK (show b<65521 by omega)];rfl
theorem su{a b:AA}(c:0<=a)(d:0<=b)(h:a+b<9007199254740992):Nk .add (fN a) (fN b)=AD/\fA .add (fN a) (fN b)=fN (a+b):=by
 unfold Nk fA;rw[AKv c d h];exact⟨rfl,rfl⟩
theorem AKc{a b:AA}(c:0<=a)(d:0<=b)(e:a<9007199254740992)(f:b<9007199254740992):Nk .sub (fN a) (fN b)=AD/\fA .sub (fN a) (fN b)=fN (a-b):=by
 unfold Nk fA;rw[AKw c d e f];exact⟨rfl,rfl⟩
theorem sx{a b:AA}(d:0<=a)(c:0<=b)(e:a<=65521)(f:b<=65521):Nk .mul (fN a) (fN b)=AD/\fA .mul (fN a) (fN b)=fN (a*b):=by
 have g:a*b<=65521*65521:=yX e f c (by decide);unfold Nk fA;rw[AKx d c (by omega) (by omega) (by omega)];exact⟨rfl,rfl⟩
theorem c50:(4832362400168542208:AB)=fN 1125899906842624:=by decide
theorem AKd:(14055734437023318016:AB)=fN (-1125899906842624):=by decide
theorem c1:(4607182418800017408:AB)=fN 1:=by decide
theorem c3:(4613937818241073152:AB)=fN 3:=by decide
theorem c5:(4617315517961601024:AB)=fN 5:=by decide
end Nice
namespace Go.Proofs.YtkgejlchafionaaGreatDoor
open Tryz
open Nice Go.RowKit
def wZ(x:AM [.f64]):AP (AM [.f64]):=fO prog (Aj []) (AV []) f295 [.f64] [.f64] x
theorem AE8(x:AB):wZ (x,())=gd [(Xd x .i64).isSome] (bif AG (((Xd x .i64).getD 0).tmod 65521<0)then gd [AG (A4 .i64 (((Xd x .i64).getD 0).tmod 65521+65521))] (AC (fN (((Xd x .i64).getD 0).tmod 65521+65521),()))else AC (fN (((Xd x .i64).getD 0).tmod 65521),())):=by kernel_rfl
theorem AAr:PC 295 l5:=(Ap (Ac (l:=[]) trivial) Al func295 (by kernel_rfl) (by decide)).nice λ⟨x,()⟩ h=>by
 obtain⟨n,c,d,rfl⟩:=Rj.1 h;have e:=cI n;have a:un (fN n)=n:=F0 (by omega);show wZ _=AC (fN (JB (un (fN n))),());rw[AE8,a,uE (by omega),BG (b:=(AC n).isSome) rfl,xG,Ue];unfold JB;by_cases h:n.tmod 65521<0
 ·rw[Bn h,Bn h,An (AZ.2 ⟨by omega,by omega⟩),xG]
 ·rw[Bm h,Bm h]
def wb(x:AM [.cx]):AP (AM [.cx]):=fO prog (Aj [(195,Nb),(295,l5)]) (AV []) f272 [.cx] [.cx] x
theorem AE9(a b:AB):wb ((a,b),())=(bif E4 a 14055734437023318016 4832362400168542208 then(bif E4 b 14055734437023318016 4832362400168542208 then gd [jK b,jK a,CZ b,CZ a] (AC ((LI a,LI b),()))else gd [CZ b,CZ a] (AC ((0,0),())))else gd [CZ a] (AC ((0,0),()))):=by kernel_rfl
theorem l8:PC 272 Yn:=(Ap (Ac (l:=[(195,Nb),(295,l5)]) ⟨gj,AAr,A3⟩) Al func272 (by kernel_rfl) (by decide)).nice λ⟨⟨a,b⟩,()⟩ h=>by
 have h:(jK a&&jK b)=true:=h;rw[A0]at h;obtain⟨n,c,d,rfl⟩:=Rj.1 h.1;obtain⟨m,e,f,rfl⟩:=Rj.1 h.2;have g:E4 (fN n) (fN (-1125899906842624)) (fN 1125899906842624)=true:=by
  rw[nP (by omega) (by decide) (by decide),BK c,BK d];rfl
 have i:E4 (fN m) (fN (-1125899906842624)) (fN 1125899906842624)=true:=by
  rw[nP (by omega) (by decide) (by decide),BK e,BK f];rfl
 show wb _=_;rw[AE9,c50,AKd,g,xT,i,xT,BG h.2,BG h.1,BG (di (by omega)).2,BG (di (by omega)).2,xG]
def AOZ(x:AM [.cx,.cx]):AP (AM [.cx]):=fO prog (Aj [(149,Jm),(272,Yn)]) (AV []) f239 [.cx,.cx] [.cx] x
theorem AFA(a b c d:AB):AOZ ((a,b),(c,d),())=(bif QD a b then(bif QD c d then gd [jK (fA .add a c)&&jK (fA .add b d),Nk .add a c,Nk .add b d,CZ c&&CZ d,CZ a&&CZ b] (AC ((LI (fA .add a c),LI (fA .add b d)),()))else gd [CZ c&&CZ d,CZ a&&CZ b] (AC ((0,0),())))else gd [CZ a&&CZ b] (AC ((0,0),()))):=by kernel_rfl
def we(x:AM [.cx,.cx]):AP (AM [.cx]):=fO prog (Aj [(149,Jm),(272,Yn)]) (AV []) f240 [.cx,.cx] [.cx] x
theorem AFB(a b c d:AB):we ((a,b),(c,d),())=(bif QD a b then(bif QD c d then gd [jK (fA .sub (fA .mul a c) (fA .mul b d))&&jK (fA .add (fA .mul a d) (fA .mul b c)),Nk .mul a c,Nk .mul b d,Nk .sub (fA .mul a c) (fA .mul b d),Nk .mul a d,Nk .mul b c,Nk .add (fA .mul a d) (fA .mul b c),CZ c&&CZ d,CZ a&&CZ b] (AC ((LI (fA .sub (fA .mul a c) (fA .mul b d)),LI (fA .add (fA .mul a d) (fA .mul b c))),()))else gd [CZ c&&CZ d,CZ a&&CZ b] (AC ((0,0),())))else gd [CZ a&&CZ b] (AC ((0,0),()))):=by kernel_rfl
theorem MN{z:AB×AB}(h:RW z=AD):∃a b:AA,(0<=a/\a<=65520)/\(0<=b/\b<=65520)/\z=(fN a,fN b):=by
 obtain⟨x,y⟩:=z;have h:(okF x&&okF y)=true:=h;rw[A0]at h;obtain⟨a,c,a2,rfl⟩:=W5.1 h.1;obtain⟨b,d,e,rfl⟩:=W5.1 h.2;exact⟨a,b,⟨c,a2⟩,⟨d,e⟩,rfl⟩
theorem AAs:PC 239 VP:=(Ap (Ac (l:=[(149,Jm),(272,Yn)]) ⟨aC,l8,A3⟩) Al func239 (by kernel_rfl) (by decide)).nice λ⟨z,u,()⟩ h=>by
 have h:(RW z&&RW u)=true:=h;rw[A0]at h;obtain⟨a,b,e,f,rfl⟩:=MN h.1;obtain⟨c,d,g,hd,rfl⟩:=MN h.2;obtain⟨i,j⟩:=PT e.1 e.2 f.1 f.2;obtain⟨k,m⟩:=PT g.1 g.2 hd.1 hd.2;obtain⟨o,p⟩:=su (a:=a) (b:=c) (by omega) (by omega) (by omega);obtain⟨q,r⟩:=su (a:=b) (b:=d) (by omega) (by omega) (by omega)
 have s:=W6 (n:=a+c) (by omega) (by omega);have t:=W6 (n:=b+d) (by omega) (by omega);show AOZ _=AC (cf (Kf (un (fN a),un (fN b),()) (un (fN c),un (fN d),())),());rw[AFA,j,xT,m,xT,p,r,BG (by rw[s,t];rfl),BG o,BG q,BG k,BG i,xG,F0 (by omega),F0 (by omega),F0 (by omega),F0 (by omega)]
 unfold LI;rw[F0 (by omega),F0 (by omega)];rfl
theorem AAt:PC 240 VQ:=(Ap (Ac (l:=[(149,Jm),(272,Yn)]) ⟨aC,l8,A3⟩) Al func240 (by kernel_rfl) (by decide)).nice λ⟨z,u,()⟩ h=>by
 have h:(RW z&&RW u)=true:=h;rw[A0]at h;obtain⟨a,b,e,f,rfl⟩:=MN h.1;obtain⟨c,d,g,hd,rfl⟩:=MN h.2;obtain⟨i,j⟩:=PT e.1 e.2 f.1 f.2;obtain⟨k,m⟩:=PT g.1 g.2 hd.1 hd.2;obtain⟨o,p⟩:=sx (a:=a) (b:=c) (by omega) (by omega) (by omega) (by omega);obtain⟨q,r⟩:=sx (a:=b) (b:=d) (by omega) (by omega) (by omega) (by omega)
 obtain⟨s,t⟩:=sx (a:=a) (b:=d) (by omega) (by omega) (by omega) (by omega);obtain⟨v,w⟩:=sx (a:=b) (b:=c) (by omega) (by omega) (by omega) (by omega);have q1:=LH (a:=a) (b:=c) (by omega) (by omega) (by omega) (by omega);have E:=LH (a:=b) (b:=d) (by omega) (by omega) (by omega) (by omega)
 have F:=LH (a:=a) (b:=d) (by omega) (by omega) (by omega) (by omega);have G:=LH (a:=b) (b:=c) (by omega) (by omega) (by omega) (by omega);obtain⟨x,y⟩:=AKc (a:=a*c) (b:=b*d) (by omega) (by omega) (by omega) (by omega);obtain⟨A,B⟩:=su (a:=a*d) (b:=b*c) (by omega) (by omega) (by omega)
 have C:=W6 (n:=a*c-b*d) (by omega) (by omega);have D:=W6 (n:=a*d+b*c) (by omega) (by omega);show we _=AC (cf (H8 (un (fN a),un (fN b),()) (un (fN c),un (fN d),())),());rw[AFB,j,xT,m,xT,p,r,t,w,y,B,BG (by rw[C,D];rfl),BG o,BG q,BG x,BG s,BG v,BG A,BG k,BG i,xG,F0 (by omega),F0 (by omega),F0 (by omega),F0 (by omega)]
 unfold LI;rw[F0 (by omega),F0 (by omega)];rfl
end Go.Proofs.YtkgejlchafionaaGreatDoor
namespace Nice
def wg(z:ZW)(c:Bo):ZW:=Kf (H8 z (3,5,())) ((c.toNat:AA)+1,0,())
def Eu(n i:AA):AA:=FJ.wrap (E7.wrap ((yZ and (n.fdiv (2^min (4*i).toNat 64)%18446744073709551616).toNat 15:AB):AA))
def Gg(d:AA):Bo:=bif AG (d<10)then Cj (FJ.wrap (48+d)).toNat else Cj (FJ.wrap (FJ.wrap (97+d)-10)).toNat
abbrev TO:=AP (AM [.str])
def VT(n i:AA)(o:L8)(nx:L8->TO)(fin:TO):TO:=
 bif AG (i>=0)then gd [AG (0<=4*i),AG (A4 .i64 (4*i))] (bif AG (Eu n i<10)then
     gd [AG (A4 .i64 (i-1)),AG ((2*(o.length+[Cj (FJ.wrap (48+Eu n i)).toNat].length)+400)*1<=281474976710656),AG (A4 .u8 (FJ.wrap (48+Eu n i)))] (nx (o++[Cj (FJ.wrap (48+Eu n i)).toNat]))
  else gd [AG (A4 .i64 (i-1)),AG ((2*(o.length+[Cj (FJ.wrap (FJ.wrap (97+Eu n i)-10)).toNat].length)+400)*1<=281474976710656),AG (A4 .u8 (FJ.wrap (FJ.wrap (97+Eu n i)-10)))] (nx (o++[Cj (FJ.wrap (FJ.wrap (97+Eu n i)-10)).toNat])))
 else fin
end Nice
namespace Go.Proofs.YtkgejlchafionaaGreatDoor
open Tryz
open Nice Go.RowKit
abbrev Yo:AE (AB×AE (AB×Sh)):=[(4,[(0,(.one .sym)),(4,(.one .sym)),(10,(.one (.dat .byte))),(11,(.one .sym)),(12,(.one .sym))])]
def s0(k a b c d:AB)(l:L8)(m i:AA):AP (AM [.cx]):=rH prog (Aj [(149,Jm),(239,VP),(240,VQ)]) (AV Yo) f200 [.cx] k 0 [(0,sy (.complex .f64 a b)),(4,sy (.complex .f64 c d)),(10,dt 10),(11,sy (.int .i64 m)),(12,sy (.int .i64 i))] [.dat .byte l]
def AFC(x:AM [.cx,.slice .byte]):AP (AM [.cx]):=fO prog (Aj [(149,Jm),(239,VP),(240,VQ)]) (AV Yo) f200 [.cx,.slice .byte] [.cx] x
theorem AAu(N a b:AB)(l:L8):Cy prog (Aj [(149,Jm),(239,VP),(240,VQ)]) (AV Yo) f200 [.cx,.slice .byte] [.cx] N ((a,b),l,())=
 (bif QD a b then gd [CZ a&&CZ b] (s0 N a b 0 0 l (l.length:AA) 0)else gd [CZ a&&CZ b] (AC ((0,0),()))):=by kernel_rfl
theorem AAv(x:AM [.cx,.slice .byte]):AFC x=Cy prog (Aj [(149,Jm),(239,VP),(240,VQ)]) (AV Yo) f200 [.cx,.slice .byte] [.cx] AU x:=AL
theorem l9(k a b c d:AB)(l:L8)(m i:AA){Qb}[Qb':QA (fN ((l.getD i.toNat Ty.byte.dflt).toNat:AA)) Qb]{Qd}[Qd':QA (fA .add Qb 4607182418800017408,0) Qd]{Qc}[Qc':QA (4613937818241073152,4617315517961601024) Qc]{Qe}[Qe':QA (cf (H8 (cz (a,b)) (cz Qc))) Qe]{Qa}[Qa':QA (cf (Kf (cz Qe) (cz Qd))) Qa]:s0 (k+1) a b c d l m i= (bif AG (i<m)then gd [AG (A4 .i64 (i+1)),RW Qe&&RW Qd,Nk .add Qb 4607182418800017408,RW (a,b)&&RW Qc,AG (i.toNat<l.length),AG (0<=i),AG (i<(l.length:AA))] (s0 k Qa.1 Qa.2 c d l m (i+1))else AC ((a,b),())):=by obtain⟨rfl⟩:=Qa';obtain⟨rfl⟩:=Qe';obtain⟨rfl⟩:=Qc';obtain⟨rfl⟩:=Qd';obtain⟨rfl⟩:=Qb';kernel_rfl
theorem AFD(c d:AB)(l:L8)(B:l.length<=140737488355328):∀(r i k:AB) (z:ZW),l.length=i+r->r<k->(0<=z.1/\z.1<65521)->(0<=z.2.1/\z.2.1<65521)->s0 k (cf z).1 (cf z).2 c d l (l.length:AA) (i:AA)=AC (cf (fI z (l.drop i)),()):=by
 intro r
 induction r with
 |zero=>
  intro i k z o p f g;obtain⟨k,rfl⟩:∃m,k=m+1:=⟨k-1,by omega⟩
  rw[l9,Bm (by omega),GY (by omega)];rfl
 |succ r q=>
  intro i k z o p f g;obtain⟨k,rfl⟩:∃m,k=m+1:=⟨k-1,by omega⟩
  have e:i<l.length:=by omega
  have hd:l.drop i=l.getD i Ty.byte.dflt::l.drop (i+1):=by
   rw[Ef e,Bg,B4 e];rfl
  have C:=(l.getD i Ty.byte.dflt).toNat_lt;obtain⟨g1,s⟩:=l7 (H8 z (3,5,())) (((l.getD i Ty.byte.dflt).toNat:AA)+1,0,());obtain⟨q1,h⟩:=AAq z (3,5,());have key:=q (i+1) k (wg z (l.getD i Ty.byte.dflt)) (by omega) (by omega) g1 s;simp only[Dz,Fb]at key;obtain⟨j,n⟩:=su (a:=((l.getD i Ty.byte.dflt).toNat:AA)) (b:=1) (by omega) (by omega) (by omega)
  have t:cz ((cf z).1,(cf z).2)=z:=VS f g;have u:cz (4613937818241073152,4617315517961601024)=(3,5,()):=by
   rw[c3,c5];exact VS (z:=(3,5,())) (by decide) (by decide)
  have v:cz (fN (((l.getD i Ty.byte.dflt).toNat:AA)+1),0)=(((l.getD i Ty.byte.dflt).toNat:AA)+1,0,()):=VS (z:=(((l.getD i Ty.byte.dflt).toNat:AA)+1,0,())) ⟨by show(0:AA)<=_+1;omega,by show _+(1:AA)<_;omega⟩ ⟨Hh 0,(by decide:(0:AA)<65521)⟩;have w:RW ((cf z).1,(cf z).2)=true:=PS f g
  have x:RW (4613937818241073152,4617315517961601024)=true:=by
   rw[c3,c5];exact PS (z:=(3,5,())) (by decide) (by decide)
  have y:RW (fN (((l.getD i Ty.byte.dflt).toNat:AA)+1),0)=true:=PS (z:=(((l.getD i Ty.byte.dflt).toNat:AA)+1,0,())) ⟨by show(0:AA)<=_+1;omega,by show _+(1:AA)<_;omega⟩ ⟨Hh 0,(by decide:(0:AA)<65521)⟩;have A:=PS q1 h;rw[l9,Bn (by omega),show(i:AA).toNat=i from AL];rw[<-c1]at j n
  rw[n,t,u,v,VS q1 h,An (AZ.2 ⟨by omega,by omega⟩),BG (by rw[A,y];rfl),BG j,BG (by rw[w,x];rfl),An e,An (by omega),An (by omega),xG,hd];exact key
theorem AFE:PC 200 AAp:=(Ap (sh:=AV Yo) (Ac (l:=[(149,Jm),(239,VP),(240,VQ)]) ⟨aC,AAs,AAt,A3⟩) Al func200 (by kernel_rfl) (by decide)).nice λ⟨z,l,()⟩ h=>by
 have h:(RW z&&Aw l)=true:=h;rw[A0]at h;have e:l.length<=140737488355328:=BL h.2;obtain⟨a,b,c,d,rfl⟩:=MN h.1;obtain⟨f,g⟩:=PT c.1 c.2 d.1 d.2;show AFC _=AC (cf (fI (un (fN a),un (fN b),()) l),());rw[AAv,AAu,g,xT,BG f,xG,F0 (by omega),F0 (by omega)]
 exact AFD 0 0 l e l.length 0 AU (a,b,()) (by omega) (by unfold AU;omega) ⟨c.1,by show a<65521;omega⟩ ⟨d.1,by show b<65521;omega⟩
def mA(x:AM [.slice .byte]):AP (AM [.cx]):=fO prog (Aj [(200,AAp)]) (AV []) f161 [.slice .byte] [.cx] x
theorem AAw(l:L8):mA (l,())=gd [RW (0,4607182418800017408)&&Aw l] (AC (cf (fI (cz (0,4607182418800017408)) l),())):=by kernel_rfl
theorem s9:PC 161 cJ:=(Ap (Ac (l:=[(200,AAp)]) ⟨AFE,A3⟩) Al func161 (by kernel_rfl) (by decide)).nice λ⟨l,()⟩ h=>by
 have h:Aw l=true:=h;have e:cz (0,4607182418800017408)=(0,1,()):=by
  rw[c1];exact VS (z:=(0,1,())) (by decide) (by decide)
 have o:RW (0,4607182418800017408)=true:=by
  rw[c1];exact PS (z:=(0,1,())) (by decide) (by decide)
 show mA _=AC (cf (fI (0,1,()) l),());rw[AAw,e,BG (by rw[o,h];rfl),xG]
abbrev mB:AE (AB×AE (AB×Sh)):=[(9,[(2,(.one .sym)),(3,(.one (.vec .byte 5))),(6,(.one .sym)),(7,(.one .sym)),(16,(.agg [.sym,.sym])),(17,(.one .any))])]
def H3(k:AB)(j:AA)(t o:L8)(n i:AA)(a b:AB):TO:=rH prog (Aj [(149,Jm)]) (AV mB) f160 [.str] k 1 [(2,sy (.string (bs t))),(3,dt 10),(6,sy (.int .i64 n)),(7,sy (.int .i64 i)),(16,.agg #[sy (.float .f64 a),sy (.float .f64 b)]),(17,.int .i64 j)] [.vec .byte o 5]
def ogt(x:AM [.cx]):TO:=fO prog (Aj [(149,Jm)]) (AV mB) f160 [.cx] [.str] x
theorem AFF(x:AM [.cx]):ogt x=Cy prog (Aj [(149,Jm)]) (AV mB) f160 [.cx] [.str] AU x:=AL
theorem AFG(N a b:AB):Cy prog (Aj [(149,Jm)]) (AV mB) f160 [.cx] [.str] N ((a,b),())=
 (bif QD a b then gd [(Xd a .i64).isSome,CZ a&&CZ b] (H3 N 0 [] [] ((Xd a .i64).getD 0) 3 a b)else gd [CZ a&&CZ b] (AC ([],()))):=by kernel_rfl
theorem Yp(k:AB)(t o:L8)(n i:AA)(a b:AB):H3 (k+1) 0 t o n i a b=VT n i o (λc=>H3 k 0 t c n (i-1) a b) (gd [(Xd b .i64).isSome] (H3 k 1 t o ((Xd b .i64).getD 0) 3 a b)):=by kernel_rfl
theorem Yq(k:AB)(t o:L8)(n i:AA)(a b:AB):H3 (k+1) 1 t o n i a b=VT n i o (λc=>H3 k 1 t c n (i-1) a b) (AC (o,())):=by kernel_rfl
open Nice
def AFH(x:AM [.int .i64]):AP (AM [.int .i64]):=fO prog (Aj []) (AV []) f194 [.int .i64] [.int .i64] x
theorem AKe(n:AA):AFH (n,())=(bif AG (n.tmod 65521<0)then gd [AG (A4 .i64 (n.tmod 65521+65521))] (AC (n.tmod 65521+65521,()))else AC (n.tmod 65521,())):=by kernel_rfl
theorem wj:PC 194 AN5:=(Ap (Ac (l:=[]) trivial) Al func194 (by kernel_rfl) (by decide)).nice λ⟨n,()⟩ _=>by
 have:=cI n;show AFH _=AC (JB n,());rw[AKe];unfold JB;by_cases h:n.tmod 65521<0
 ·rw[Bn h,Bn h,An (AZ.2 ⟨by omega,by omega⟩),Cm]
 ·rw[Bm h,Bm h]
def wk(x:AM [K1,K1]):AP (AM [K1]):=fO prog (Aj [(194,AN5)]) (AV []) f145 [K1,K1] [K1] x
theorem AFI(a b c d:AA):wk ((a,b,()),(c,d,()),())=gd [AG (A4 .i64 (b+d)),AG (A4 .i64 (a+c))] (AC ((JB (a+c),JB (b+d),()),())):=by kernel_rfl
theorem AAx:PC 145 VM:=(Ap (Ac (l:=[(194,AN5)]) ⟨wj,A3⟩) Al func145 (by kernel_rfl) (by decide)).nice λ⟨⟨a,b,()⟩,⟨c,d,()⟩,()⟩ h=>by
 have h:(zB (a,b,())&&zB (c,d,()))=true:=h;rw[A0,LG,LG]at h;obtain⟨⟨e,f,g,i⟩,j,k,m,n⟩:=h;dsimp only at e f g i j k m n;show wk _=_;rw[AFI,An (AZ.2 ⟨by omega,by omega⟩),An (AZ.2 ⟨by omega,by omega⟩),Cm];rfl
def wm(x:AM [K1,K1]):AP (AM [K1]):=fO prog (Aj [(194,AN5)]) (AV []) f146 [K1,K1] [K1] x
theorem AFJ(a b c d:AA):wm ((a,b,()),(c,d,()),())=gd [AG (A4 .i64 (a*d+b*c)),AG (A4 .i64 (b*c)),AG (A4 .i64 (a*d)),AG (A4 .i64 (a*c-b*d)),AG (A4 .i64 (b*d)),AG (A4 .i64 (a*c))] (AC ((JB (a*c-b*d),JB (a*d+b*c),()),())):=by kernel_rfl
theorem AAy:PC 146 VN:=(Ap (Ac (l:=[(194,AN5)]) ⟨wj,A3⟩) Al func146 (by kernel_rfl) (by decide)).nice λ⟨⟨a,b,()⟩,⟨c,d,()⟩,()⟩ h=>by
 have h:(zB (a,b,())&&zB (c,d,()))=true:=h;rw[A0,LG,LG]at h;obtain⟨⟨e,f,g,i⟩,j,k,m,n⟩:=h;dsimp only at e f g i j k m n;obtain⟨o,p⟩:=LH e f j k;obtain⟨q,r⟩:=LH g i m n;obtain⟨s,t⟩:=LH e f m n;obtain⟨u,v⟩:=LH g i j k;show wm _=_
 rw[AFJ,An (AZ.2 ⟨by omega,by omega⟩),An (AZ.2 ⟨by omega,by omega⟩),An (AZ.2 ⟨by omega,by omega⟩),An (AZ.2 ⟨by omega,by omega⟩),An (AZ.2 ⟨by omega,by omega⟩),An (AZ.2 ⟨by omega,by omega⟩),Cm];rfl
abbrev mC:AE (AB×AE (AB×Sh)):=[(2,[(1,(.one .sym)),(2,(.obj [.sym,.sym])),(4,(.obj [.sym,.sym])),(5,(.one .sym))])]
def fK(n:AB)(t1:L8)(t2_0 t2_1 t4_0 t4_1 t5:AA):AP (AM [K1]):=rH prog (Aj [(145,VM),(146,VN)]) (AV mC) f97 [K1] n 0 [(1,sy (.string (bs t1))),(2,.pointer (AC ⟨10,0,AF⟩)),(4,.pointer (AC ⟨11,0,AF⟩)),(5,sy (.int .i64 t5))] [.row [sy (.int .i64 t2_0),sy (.int .i64 t2_1)] 78 AK,.row [sy (.int .i64 t4_0),sy (.int .i64 t4_1)] 78 AK]
def oon(x:AM [K1,.str]):AP (AM [K1]):=fO prog (Aj [(145,VM),(146,VN)]) (AV mC) f97 [K1,.str] [K1] x
theorem AFK(a b:AA)(s:L8):∀N:AB,Cy prog (Aj [(145,VM),(146,VN)]) (AV mC) f97 [K1,.str] [K1] N ((a,b,()),s,())=fK N s a b 0 0 0:=λN=>by kernel_rfl
theorem AFL(x:AM [K1,.str]):oon x=Cy prog (Aj [(145,VM),(146,VN)]) (AV mC) f97 [K1,.str] [K1] AU x:=AL
def W7(a b:AA)(c:Bo):ZW:=Kf (H8 (a,b,()) (3,5,())) ((c.toNat:AA)+1,0,())
theorem AOa(n:AB)(t1:L8)(a b c d i:AA){Qa}[Qa':QA (t1.getD i.toNat 0) Qa]:fK (n+1) t1 a b c d i= (bif AG (i<(t1.length:AA))then gd [AG (A4 .i64 (i+1)),zB (H8 (a,b,()) (3,5,()))&&zB ((Qa.toNat:AA)+1,0,()),AG (A4 .i64 ((Qa.toNat:AA)+1)),AG (A4 .i64 (Qa.toNat:AA)),AG (0<=i),AG (i<(t1.length:AA)),zB (a,b,())&&zB (3,5,())] (fK n t1 (W7 a b Qa).1 (W7 a b Qa).2.1 c d (i+1))else AC ((a,b,()),())):=by obtain⟨rfl⟩:=Qa';kernel_rfl
theorem AKf(s:L8)(o:s.length<=140737488355328):∀(r i n:AB) (a b c d:AA),s.length=i+r->r<n->zB (a,b,())=AD->fK n s a b c d (i:AA)=AC (fI (a,b,()) (s.drop i),()):=by
 intro r
 induction r with
 |zero=>
  intro i n a b c d h j f;obtain⟨n,rfl⟩:∃k,n=k+1:=⟨n-1,by omega⟩
  rw[AOa,Bm (by omega),GY (by omega)];rfl
 |succ r l=>
  intro i n a b c d h j f;obtain⟨n,rfl⟩:∃k,n=k+1:=⟨n-1,by omega⟩
  have g:i<s.length:=by omega
  have p:((s.getD i 0).toNat:AA)<=255:=by have:=(s.getD i 0).toNat_lt;omega
  have m:(0:AA)<=((s.getD i 0).toNat:AA):=by omega
  have hd:s.drop i=s.getD i 0::s.drop (i+1):=by
   rw[Ef g,Bg,B4 g];rfl
  have hst:=l4 (H8 (a,b,()) (3,5,())) (((s.getD i 0).toNat:AA)+1,0,());have e:zB (((s.getD i 0).toNat:AA)+1,0,())=true:=LG.2 ⟨by show(0:AA)<=_+1;omega,by show _+(1:AA)<=_;omega,Hh 0,(by decide:(0:AA)<=70000)⟩;have key:=l (i+1) n (W7 a b (s.getD i 0)).1 (W7 a b (s.getD i 0)).2.1 c d (by omega) (by omega) hst
  rw[AOa,Bn (by omega),show(i:AA).toNat=i from AL,An (AZ.2 ⟨by omega,by omega⟩),BG (by rw[AAo,e];rfl),An (AZ.2 ⟨by omega,by omega⟩),An (AZ.2 ⟨by omega,by omega⟩),An (by omega),An (by omega),BG (by rw[f];rfl),Cm];simp only[Dz,Fb]at key;rw[key,hd];rfl
theorem AKg:PC 97 onS:=(Ap (sh:=AV mC) (Ac (l:=[(145,VM),(146,VN)]) ⟨AAx,AAy,A3⟩) Al func97 (by kernel_rfl) (by decide)).nice λ⟨⟨a,b,()⟩,s,()⟩ h=>by
 have h:(zB (a,b,())&&Aw s)=true:=h;rw[A0]at h;have c:s.length<=140737488355328:=BL h.2;show oon _=_;rw[AFL,AFK];exact AKf s c s.length 0 AU a b 0 0 (by omega) (by unfold AU;omega) h.1
def wo(x:AM [.int .i64]):AP (AM [.str]):=fO prog (Aj []) (AV []) f96 [.int .i64] [.str] x
theorem AFM(n:AA):wo (n,())=gd [AG (0<=n.tmod 16),AG (n.tmod 16<16),AG (0<=(n.tdiv 16).tmod 16),AG ((n.tdiv 16).tmod 16<16),AG (A4 .i64 (n.tdiv 16)),AG (0<=(n.tdiv 256).tmod 16),AG ((n.tdiv 256).tmod 16<16),AG (A4 .i64 (n.tdiv 256)),AG (0<=(n.tdiv 4096).tmod 16),AG ((n.tdiv 4096).tmod 16<16),AG (A4 .i64 (n.tdiv 4096))] (AC (HQ n,())):=by kernel_rfl
theorem AAz:PC 96 ly:=(Ap (Ac (l:=[]) trivial) Al func96 (by kernel_rfl) (by decide)).nice λ⟨n,()⟩ h=>by
 obtain⟨a,b⟩:0<=n/\n<=70000:=BL h;obtain⟨g,a2⟩:=W3 a b (by decide:(1:AA)<=16);obtain⟨i,j⟩:=W3 a b (by decide:(1:AA)<=256);obtain⟨c1,c2⟩:=W3 a b (by decide:(1:AA)<=4096);have c:=W4 a;have d:=W4 g;have e:=W4 i;have f:=W4 c1;show wo _=_;rw[AFM,An c.1,An c.2,An d.1,An d.2,An (AZ.2 ⟨by omega,by omega⟩),An e.1,An e.2,An (AZ.2 ⟨by omega,by omega⟩),An f.1,An f.2,An (AZ.2 ⟨by omega,by omega⟩),Cm]
def wq(x:AM [K1]):AP (AM [.str]):=fO prog (Aj [(96,ly)]) (AV []) f55 [K1] [.str] x
theorem AFN(a b:AA):wq ((a,b,()),())=gd [AG ((HQ a).length+(HQ b).length<=1099511627776),Yk b,Yk a] (AC (HQ a++HQ b,())):=by kernel_rfl
theorem AA0:PC 55 lz:=(Ap (Ac (l:=[(96,ly)]) ⟨AAz,A3⟩) Al func55 (by kernel_rfl) (by decide)).nice λ⟨⟨a,b,()⟩,()⟩ h=>by
 obtain⟨c,d,e,f⟩:=LG.1 h;show wq _=_;rw[AFN,An (show(HQ a).length+(HQ b).length<=1099511627776 from(by decide:4+4<=1099511627776)),BG (show Yk b=AD from BK ⟨e,f⟩),BG (show Yk a=AD from BK ⟨c,d⟩),Cm];rfl
def wt(x:AM [.str]):AP (AM [K1]):=fO prog (Aj [(97,onS)]) (AV []) f56 [.str] [K1] x
theorem AFO(s:L8):wt (s,())=gd [zB (0,1,())&&Aw s] (AC (fI (0,1,()) s,())):=by kernel_rfl
theorem AA1:PC 56 l3:=(Ap (Ac (l:=[(97,onS)]) ⟨AKg,A3⟩) Al func56 (by kernel_rfl) (by decide)).nice λ⟨s,()⟩ h=>by
 have h:Aw s=true:=h;show wt _=_;rw[AFO,BG (by rw[h];rfl),Cm];rfl
def AFP(x:AM [.str]):AP (AM [.str]):=fO prog (Aj [(55,lz),(56,l3)]) (AV []) f30 [.str] [.str] x
theorem AKh(s:L8):AFP (s,())=gd [zB (ANN s),Aw s] (AC (M9 s,())):=by kernel_rfl
theorem fL:PC 30 W2:=(Ap (Ac (l:=[(55,lz),(56,l3)]) ⟨AA0,AA1,A3⟩) Al func30 (by kernel_rfl) (by decide)).nice λ⟨s,()⟩ h=>by
 have h:Aw s=true:=h;show AFP _=_;rw[AKh,BG (show zB (ANN s)=AD from AE7 s _ (by decide)),BG h,Cm]
end Go.Proofs.YtkgejlchafionaaGreatDoor
namespace Nice
theorem Rk{n k:AB}{i:AA}(h:n<65536)(a:(4*i).toNat=k)(b:k<=12):Eu (n:AA) i=((n/2^k%16:AB):AA):=by
 unfold Eu;rw[a,Nat.min_eq_left (by omega)];have c:((n:AA).fdiv (2^k))=((n/2^k:AB):AA):=by
  have d:(2:AA)^k=((2^k:AB):AA):=by rw[Int.natCast_pow];rfl
  rw[d,Int.fdiv_eq_ediv_of_nonneg _ (RH _),yY]
 have e:n/2^k<=n:=Nat.div_le_self ..;rw[c];generalize n/2^k=q at e⊢;have f:((q:AA)%18446744073709551616).toNat=q:=by omega
 have g:yZ and q 15=q%16:=Nat.and_two_pow_sub_one_eq_mod q 4;rw[f,g,Lc (AZ.2 ⟨by omega,by omega⟩),Lc (NX.2 ⟨by omega,by omega⟩)]
theorem tA:(List.range 16).all (λd=>Gg (d:AA)==jJ (d:AA))=true:=by kernel_rfl
theorem W8{d:AB}(h:d<16):Gg (d:AA)=jJ (d:AA):=Be.1 (C8.1 tA d (List.mem_range.2 h))
theorem fM{n:AB}(c:n<65536):HQ (n:AA)=[Gg (Eu (n:AA) 3),Gg (Eu (n:AA) 2),Gg (Eu (n:AA) 1),Gg (Eu (n:AA) 0)]:=by
 rw[Rk (k:=12) c rfl (by decide),Rk (k:=8) c rfl (by decide),Rk (k:=4) c rfl (by decide),Rk (k:=0) c rfl (by decide),W8 (iL _ (by decide)),W8 (iL _ (by decide)),W8 (iL _ (by decide)),W8 (iL _ (by decide))];have t:∀a b:AB,((a:AA).tdiv (b:AA)).tmod 16=((a/b%16:AB):AA):=λa b=>by
  rw[Ud (RH a),<-yY,O7 (RH _)];rfl
 unfold HQ;have t0:((n:AA)).tmod 16=((n/1%16:AB):AA):=by
  rw[O7 (RH _),Nat.div_one];rfl
 rw[t0,show((n:AA).tdiv 4096).tmod 16=_ from t n 4096,show((n:AA).tdiv 256).tmod 16=_ from t n 256,show((n:AA).tdiv 16).tmod 16=_ from t n 16]
theorem Ij{n:AB}{i:AA}{o:L8}{nx:L8->TO}{fin:TO}(a:0<=i)(b:i<=3)(c:o.length<=100):VT (n:AA) i o nx fin=nx (o++[Gg (Eu (n:AA) i)]):=by
 unfold VT Gg;rw[Bn a,An (by omega),An (AZ.2 ⟨by omega,by omega⟩),xG];by_cases h:Eu (n:AA) i<10
 ·rw[Bn h,Bn h,An (AZ.2 ⟨by omega,by omega⟩),An (by rw[EL];omega),An (NX.2 (by rw[SG];omega)),xG]
 ·rw[Bm h,Bm h,An (AZ.2 ⟨by omega,by omega⟩),An (by rw[EL];omega),An (NX.2 (by rw[SG];omega)),xG]
theorem fP{n i:AA}{o:L8}{nx:L8->TO}{fin:TO}(a:¬i>=0):VT n i o nx fin=fin:=by
 unfold VT;rw[Bm a]
end Nice
namespace Go.Proofs.YtkgejlchafionaaGreatDoor
open Tryz
open Nice Go.RowKit
theorem AKi(k:AB)(t o:L8){n:AB}(c:n<65536)(d:o.length<=50)(a b:AB):H3 (k+5) 0 t o (n:AA) 3 a b=gd [(Xd b .i64).isSome] (H3 k 1 t (o++HQ (n:AA)) ((Xd b .i64).getD 0) 3 a b):=by
 have l:∀(o:L8) (x:Bo),(o++[x]).length=o.length+1:=λo x=>by rw[BA];rfl
 rw[Yp,Ij (by decide) (by decide) (by omega)];show H3 (k+4) 0 t (o++[Gg (Eu (n:AA) 3)]) (n:AA) 2 a b=_;rw[Yp,Ij (by decide) (by decide) (by rw[l];omega)];show H3 (k+3) 0 t (o++[Gg (Eu (n:AA) 3)]++[Gg (Eu (n:AA) 2)]) (n:AA) 1 a b=_;rw[Yp,Ij (by decide) (by decide) (by rw[l,l];omega)]
 show H3 (k+2) 0 t (o++[Gg (Eu (n:AA) 3)]++[Gg (Eu (n:AA) 2)]++[Gg (Eu (n:AA) 1)]) (n:AA) 0 a b=_;rw[Yp,Ij (by decide) (by decide) (by rw[l,l,l];omega)];show H3 (k+1) 0 t (o++[Gg (Eu (n:AA) 3)]++[Gg (Eu (n:AA) 2)]++[Gg (Eu (n:AA) 1)]++[Gg (Eu (n:AA) 0)]) (n:AA) (-1) a b=_
 rw[Yp,fP (by decide),fM c];simp only[C9,Gk,DN]
theorem AKj(k:AB)(t o:L8){n:AB}(c:n<65536)(d:o.length<=50)(a b:AB):H3 (k+5) 1 t o (n:AA) 3 a b=AC (o++HQ (n:AA),()):=by
 have l:∀(o:L8) (x:Bo),(o++[x]).length=o.length+1:=λo x=>by rw[BA];rfl
 rw[Yq,Ij (by decide) (by decide) (by omega)];show H3 (k+4) 1 t (o++[Gg (Eu (n:AA) 3)]) (n:AA) 2 a b=_;rw[Yq,Ij (by decide) (by decide) (by rw[l];omega)];show H3 (k+3) 1 t (o++[Gg (Eu (n:AA) 3)]++[Gg (Eu (n:AA) 2)]) (n:AA) 1 a b=_;rw[Yq,Ij (by decide) (by decide) (by rw[l,l];omega)]
 show H3 (k+2) 1 t (o++[Gg (Eu (n:AA) 3)]++[Gg (Eu (n:AA) 2)]++[Gg (Eu (n:AA) 1)]) (n:AA) 0 a b=_;rw[Yq,Ij (by decide) (by decide) (by rw[l,l,l];omega)];show H3 (k+1) 1 t (o++[Gg (Eu (n:AA) 3)]++[Gg (Eu (n:AA) 2)]++[Gg (Eu (n:AA) 1)]++[Gg (Eu (n:AA) 0)]) (n:AA) (-1) a b=_
 rw[Yq,fP (by decide),fM c];simp only[C9,Gk,DN]
theorem mD:∃m,AU=m+5+5:=⟨AU-10,by unfold AU;omega⟩
theorem tB:PC 160 cK:=(Ap (sh:=AV mB) (Ac (l:=[(149,Jm)]) ⟨aC,A3⟩) Al func160 (by kernel_rfl) (by decide)).nice λ⟨z,()⟩ h=>by
 obtain⟨a,b,c,d,rfl⟩:=MN h;obtain⟨e,f⟩:=PT c.1 c.2 d.1 d.2;obtain⟨n,rfl⟩:∃n:AB,a=(n:AA):=⟨a.toNat,by omega⟩
 obtain⟨m,rfl⟩:∃n:AB,b=(n:AA):=⟨b.toNat,by omega⟩
 obtain⟨K,g⟩:=mD;show ogt _=AC (HQ (un (fN (n:AA)))++HQ (un (fN (m:AA))),());rw[AFF,AFG,f,xT,uE (by omega),BG (b:=(AC (n:AA)).isSome) rfl,BG e,xG,Ue,g,AKi _ _ _ (by omega) (by decide),uE (by omega),BG (b:=(AC (m:AA)).isSome) rfl,xG,Ue,AKj _ _ _ (by omega) (by show([]++HQ (n:AA)).length<=50;exact(by decide:4<=50)),F0 (by omega),F0 (by omega)]
 rfl
def wu(x:AM [.str]):TO:=fO prog (Aj [(160,cK),(161,cJ)]) (AV []) f114 [.str] [.str] x
theorem AFQ(s:L8):wu (s,())=gd [RW (cf (ANN s)),Aw s] (AC (Yl (cz (cf (ANN s))),())):=by kernel_rfl
theorem AFR:∀(s:L8) (z:ZW),(0<=z.1/\z.1<65521)/\(0<=z.2.1/\z.2.1<65521)->(0<=(fI z s).1/\(fI z s).1<65521)/\(0<=(fI z s).2.1/\(fI z s).2.1<65521)
 |[],_,h=>h
 |c::s,z,_=>AFR s (wg z c) (l7 _ _)
theorem cL:PC 114 Mk:=(Ap (Ac (l:=[(160,cK),(161,cJ)]) ⟨tB,s9,A3⟩) Al func114 (by kernel_rfl) (by decide)).nice λ⟨s,()⟩ h=>by
 have h:Aw s=true:=h;obtain⟨a,b⟩:=AFR s (0,1,()) ⟨by decide,by decide⟩;show wu _=AC (Yl (ANN s),());have o:RW (cf (ANN s))=true:=PS a b;have e:cz (cf (ANN s))=ANN s:=VS a b;rw[AFQ,BG o,BG h,xG,e]
end Go.Proofs.YtkgejlchafionaaGreatDoor
namespace Nice
abbrev BS:Type:=AP (AM [.str])
def sO(s:L8):BS:=AC (s,())
def ANS:L8:=[60,118,101,114,115,105,111,110,32,105,100,61,34]
def Yr:L8:=[34,32,116,97,103,61,34]
def AFS:L8:=[34,47,62]
def VU:L8:=[103,111,110,101]
def SU:L8:=[60,110,97,109,101,62]
def H9:L8:=[60,47,110,97,109,101,62]
def U1:L8:=[60,47,107,101,121,62]
def PU:L8:=[60,107,101,121,62,60,110,97,109,101,62]
def jL:L8:=[60,108,105,115,116,62]
def W9:L8:=[60,47,108,105,115,116,62]
def Ml:L8:=[60,110,101,120,116,62]
def SX:L8:=[60,47,110,101,120,116,62]
def Ys(d m:L8):L8:=ANS++d++Yr++m++AFS
def mkV(v:BE):L8:=bif v.2.1 then VU else M9 v.2.2.1
def XA(v:BE):L8:=Ys (GE v.1) (mkV v)
def LJ(l:AE BE):L8:=l.reverse.flatMap XA
def NA(e:AX):L8:=PU++e.1++H9++LJ e.2.1++U1
def JM(k:L8):L8:=SU++k++H9
def VV(m:AH)(x:L8):L8:=bif m then Ml++x++SX else []
def AFU(s:U0):L8:=jL++s.1.flatMap JM++s.2.1.flatMap NA++VV s.2.2.1 s.2.2.2.1++W9
def LK(s:U0):L8:=bif Kk s then AFU s else []
def QN:PSpec:=⟨[AW],[.str],λx=>Cd x.1,λx=>(NA x.1,())⟩
def VW:PSpec:=⟨[K9],[.str],λx=>IW x.1,λx=>(LK x.1,())⟩
theorem XB(v:BE):(mkV v).length<=8:=by
 unfold mkV;cases v.2.1
 ·rw[xF,Ym];exact Ak _
 ·exact(by decide:VU.length<=8)
theorem Yt(d m:L8):(Ys d m).length=23+d.length+m.length:=by
 unfold Ys;simp only[BA,show ANS.length=13 from AL,show Yr.length=7 from AL,show AFS.length=3 from AL];omega
theorem SY{v:BE}(h:DJ v=AD):(XA v).length<=51:=by
 have a:=XB v;unfold DJ at h;rw[A0,A0,A6,A6]at h;have:=Go.Proofs.YtkgejlchafionaaGreatDoor.fmt_len (n:=v.1) (by omega) h.2.1;unfold XA;rw[Yt];omega
theorem Gv:∀(l:AE BE) (b:AA),IR b l=AD->∀v,v∈l->DJ v=AD
 |[],_,_,v,h=>by cases h
 |a::l,b,h,v,c=>by
  rw[NV,A0,A0]at h;rcases List.mem_cons.1 c with rfl|c
  ·exact h.1
  ·exact Gv l a.1 h.2.2 v c
theorem D4{e:AX}:Cd e=AD↔IR 0 e.2.1=AD/\isKey e.1=AD/\1<=e.2.1.length/\e.2.1.length<=12:=by
 unfold Cd;rw[A0,A0,A0,A6,A6]
theorem SZ(l:AE BE)(v:BE):LJ (l++[v])=XA v++LJ l:=by
 unfold LJ;rw[List.reverse_append];rfl
theorem VX:∀(l:AE BE),(∀v,v∈l->DJ v=AD)->(LJ l).length<=51*l.length
 |[],_=>Ak _
 |v::l,h=>by
  have b:=VX l λu a=>h u (List.mem_cons_of_mem _ a)
  have c:=SY (h v List.mem_cons_self);have e:LJ (v::l)=LJ l++XA v:=by
   unfold LJ;rw[List.reverse_cons,List.flatMap_append];simp
  rw[e,BA,B7];omega
theorem Yu{e:AX}(h:Cd e=AD):(NA e).length<=700:=by
 obtain⟨a,b,_,c⟩:=D4.1 h;have:=VX e.2.1 (Gv _ _ a);have:=D8 b;unfold NA;simp only[BA,show PU.length=11 from AL,show H9.length=7 from AL,show U1.length=6 from AL];omega
abbrev gV(t:L8)(i:AA)(d m:L8):AE AH:=[AG (A4 .i64 (i-1)),AG (t.length+(Ys d m).length<=1099511627776),AG ((ANS++d++Yr++m).length+3<=1099511627776),AG ((ANS++d++Yr).length+m.length<=1099511627776),AG ((ANS++d).length+7<=1099511627776),AG (13+d.length<=1099511627776)]
theorem fQ{t d m:L8}{i:AA}(a:0<=i)(b:i<=1099511627776)(c:t.length<=549755813888)(hd:d.length<=20)(e:m.length<=8){α:Type}(q:AE AH)(y:AP α):gd (gV t i d m++q) y=gd q y:=by
 have f:=Yt d m;have g:(ANS++d++Yr++m).length=20+d.length+m.length:=by
  simp only[BA,show ANS.length=13 from AL,show Yr.length=7 from AL];omega
 have h:(ANS++d++Yr).length=20+d.length:=by
  simp only[BA,show ANS.length=13 from AL,show Yr.length=7 from AL];omega
 have j:(ANS++d).length=13+d.length:=by
  simp only[BA,show ANS.length=13 from AL]
 unfold gV;simp only[Gk,DN];rw[An (AZ.2 ⟨by omega,by omega⟩),An (by omega),An (by omega),An (by omega),An (by omega),An (by omega)]
def cM(l:AE BE)(t:L8)(i:AA)(nx:L8->BS):BS:=
 bif AG (i>=0)then gd [Aw (l.getD i.toNat (A8).dflt).2.2.1,AG (i.toNat<l.length),AG (0<=i),AG (i<(l.length:AA))] (bif (l.getD i.toNat (A8).dflt).2.1 then
     gd (gV t i (GE (l.getD i.toNat (A8).dflt).1) VU++[Lq.pre ((l.getD i.toNat (A8).dflt).1,10,())]) (nx (t++Ys (GE (l.getD i.toNat (A8).dflt).1) VU))
  else gd (gV t i (GE (l.getD i.toNat (A8).dflt).1) (M9 (l.getD i.toNat (A8).dflt).2.2.1)++[Lq.pre ((l.getD i.toNat (A8).dflt).1,10,())]) (nx (t++Ys (GE (l.getD i.toNat (A8).dflt).1) (M9 (l.getD i.toNat (A8).dflt).2.2.1))))
 else gd [AG (t.length+6<=1099511627776)] (sO (t++U1))
end Nice
namespace Go.Proofs.YtkgejlchafionaaGreatDoor
open Tryz
open Nice Go.RowKit
abbrev mE:AE (AB×AE (AB×Sh)):=[(3,[(1,(.obj [.sym,(.dat A8)])),(2,(.one .sym)),(3,(.one .sym)),(4,(.one .sym))])]
def hse(N:AB)(k:L8)(l:AE BE)(t:L8)(i:AA):BS:=rH prog (Aj [(114,Mk),(48,Lq)]) (AV mE) f120 [.str] N 0 [(1,.pointer (AC ⟨11,0,AF⟩)),(2,sy (.string (bs []))),(3,sy (.string (bs t))),(4,sy (.int .i64 i))] [.dat A8 l,.row [sy (.string (bs k)),dt 10] 68 AK]
def ose(x:AM [AW]):BS:=fO prog (Aj [(114,Mk),(48,Lq)]) (AV mE) f120 [AW] [.str] x
theorem AFV(x:AM [AW]):ose x=Cy prog (Aj [(114,Mk),(48,Lq)]) (AV mE) f120 [AW] [.str] AU x:=AL
theorem AFW(N:AB)(k:L8)(l:AE BE):Cy prog (Aj [(114,Mk),(48,Lq)]) (AV mE) f120 [AW] [.str] N ((k,l,()),())=gd [AG (A4 .i64 ((l.length:AA)-1)),AG ((PU++k).length+7<=1099511627776),AG (11+k.length<=1099511627776)] (hse N k l (PU++k++H9) ((l.length:AA)-1)):=by kernel_rfl
theorem wv(N:AB)(k:L8)(l:AE BE)(t:L8)(i:AA):hse (N+1) k l t i=cM l t i (λa=>hse N k l a (i-1)):=by kernel_rfl
theorem AKk(k:L8)(l:AE BE)(w:l.length<=12)(i:∀v,v∈l->DJ v=AD):∀(j N:AB) (t:L8),j<=l.length->j<N->t.length+100*j<=549755813888->hse N k l t ((j:AA)-1)=AC (t++LJ (l.take j)++U1,()):=by
 intro j
 induction j with
 |zero=>
  intro N t _ hN o;obtain⟨N,rfl⟩:∃m,N=m+1:=⟨N-1,by omega⟩
  rw[wv];unfold cM;rw[Bm (by omega),An (by omega),xG,List.take_zero];show sO _=sO (t++[]++U1);rw[Ce]
 |succ j p=>
  intro N t x hN o;obtain⟨N,rfl⟩:∃m,N=m+1:=⟨N-1,by omega⟩
  have a:j<l.length:=by omega
  have q:l.getD j (A8).dflt∈l:=by
   rw[Bg,B4 a];exact EK a
  have g:=i _ q;have e:l.take (j+1)=l.take j++[l.getD j (A8).dflt]:=by
   rw[List.take_succ_eq_append_getElem a,Bg,B4 a];rfl
  have r:=SY g;have this:=p N (t++XA (l.getD j (A8).dflt)) (by omega) (by omega) (by rw[BA];omega);have c:=g;unfold DJ at c;rw[A0,A0,A0,A6,A6,A6]at c;obtain⟨y,s,z,_⟩:=c;have h:=fmt_len (n:=(l.getD j (A8).dflt).1) (by omega) s
  have d:=XB (l.getD j (A8).dflt);have f:Aw (l.getD j (A8).dflt).2.2.1=true:=by unfold Aw;exact BK (by omega)
  have b:Lq.pre ((l.getD j (A8).dflt).1,10,())=true:=by
   show(C4 (l.getD j (A8).dflt).1&&(10:AA)==10)=AD;rw[Od.2 ⟨by omega,by omega⟩];rfl
  rw[wv];unfold cM;rw[Bn (by omega),show(((j+1:AB):AA)-1)=(j:AA) by omega,show(j:AA).toNat=j from AL,BG f,An a,An (by omega),An (by omega),xG,e,SZ,<-C9 t,<-this];unfold XA mkV at d⊢;cases u:(l.getD j (A8).dflt).2.1
  ·rw[u]at d;rw[xF,fQ (by omega) (by omega) (by omega) h (by exact d),BG b,xG];rfl
  ·rw[xT,fQ (by omega) (by omega) (by omega) h (by decide),BG b,xG];rfl
theorem AKl:PC 120 QN:=(Ap (sh:=AV mE) (Ac (l:=[(114,Mk),(48,Lq)]) ⟨cL,pD,A3⟩) Al func120 (by kernel_rfl) (by decide)).nice λ⟨⟨k,l,()⟩,()⟩ h=>by
 obtain⟨c,a,e,b⟩:=D4.1 h;have a:=D8 a;have a:k.length<=40:=a;have b:l.length<=12:=b;show ose _=AC (NA (k,l,()),());have d:(PU++k).length=11+k.length:=by rw[BA];rfl
 have f:(PU++k++H9).length=18+k.length:=by rw[BA,d,show H9.length=7 from AL];omega
 rw[AFV,AFW,An (AZ.2 ⟨by omega,by omega⟩),An (by omega),An (by omega),xG,AKk k l b (Gv _ _ c) l.length AU _ (Ak _) (by unfold AU;omega) (by omega),List.take_length];rfl
end Go.Proofs.YtkgejlchafionaaGreatDoor
namespace Nice
abbrev b9:OT:=.pair (.d .str) (.pair (.d .bool) .unit)
end Nice
namespace Nice
def AKm(m:Ar):AE Value:=[.int .i64 m.1,.int .i64 m.2.1.1,.int .i64 m.2.1.2.1]
def Md(low a:AA)(m:Ar):AH:=AG (m.1<low)&&A5 m.1==a+1
end Nice
namespace Go.Proofs.YtkgejlchafionaaGreatDoor
open Tryz
open Nice Go.RowKit Go.Shelf Go.Lib
set_option maxHeartbeats 4000000 in
theorem AA2(n:AA)(w:World):Calls prog 66 #[.int .i64 n] w λe w'=>e=.returned (.int .i64 (A5 n))/\w'=w:=by
 have mixed:Tryz.prog.follows .mixedOrders=true:=by kernel_rfl
 unfold A5
 go_enter func66,ntmps66
 by_cases b:n<4294967296
 ·rw[BK b]
  go_wp2
  go_ret
  exact⟨rfl,rfl⟩
 ·rw[BP b];by_cases c:25769803776<=n
  ·rw[show AG (n>=25769803776)=AD from BK c]
   go_wp2
   go_ret
   exact⟨rfl,rfl⟩
  ·rw[show AG (n>=25769803776)=AK from BP c];have a:n.tmod 4294967296=n%4294967296:=O7 (by omega);rw[a];by_cases d:n%4294967296=0
   ·rw[show(n%4294967296==0)=AD from Be.2 d]
    go_wp2
    go_ret
    exact⟨rfl,rfl⟩
   ·rw[show(n%4294967296==0)=AK from CE.2 d];have f:E7.wrap (n.tdiv 4294967296)=n.tdiv 4294967296:=by
     rw[Js,Ud (by omega)];omega
    go_wp2
    go_ret
    exact⟨rfl,rfl⟩
set_option maxHeartbeats 4000000 in
theorem AFX(m:Ar)(low b:AA)(y:0<=b)(z:b<=5)(B1 i B2 j:AB)(W:World)(o:B1<W.heap.size)(p:B2<W.heap.size)(r:W.cell? ⟨B1,i,AF⟩=AC (.int .i64 low))(s:W.cell? ⟨B2,j,AF⟩=AC (.int .i64 b)):
  Calls prog 72 #[.agg (AKm m).toArray,.pointer (AC ⟨B1,i,AF⟩),.pointer (AC ⟨B2,j,AF⟩)] W λe w'=>e=.returned (.bool (Md low b m))/\DU W w':=by
 have mixed:Tryz.prog.follows .mixedOrders=true:=by kernel_rfl
 obtain⟨a,⟨er,k,⟨⟩⟩,⟨⟩⟩:=m;have t:E7.wrap (b+1)=b+1:=by rw[Js];omega
 have l:B1≠W.heap.size:=by omega
 have n:B2≠W.heap.size:=by omega
 show Calls prog 72 #[.agg #[.int .i64 a,.int .i64 er,.int .i64 k],_,_] W _;obtain⟨g,d⟩:∃g,g=A5 a:=⟨_,rfl⟩
 have c:=AA2 a;rw[<-d]at c;have HM:Aside (g=A5 a):=d;clear d;have h:∀args w,(callFunc 66 args).run prog w=.ok (.enter 66 args) w:=enters_of func66 (by kernel_rfl) rfl;have HS:∀q,DU W ((W.alloc (.cells #[.int .i64 a,.int .i64 er,.int .i64 k] 75)).drewN q):=λq=>⟨by show _<=(W.heap.push _).size;rw[Array.size_push];omega,rfl,rfl,λx u=>BD W _ u⟩
 by_cases f:a<low
 ·go_enter func72,ntmps72
  go_wp2_with fail
  go_quiet_o (first|(go_at_fn 66;refine Calls.quiet_of_same (c _)))
  go_wp2
  go_ret
  refine⟨?_,HS _⟩;show O6 (.bool (g==b+1))=.returned (.bool (AG (a<low)&&A5 a==b+1));rw[BK f,<-HM.out];rfl
 ·have v:low<=a:=by omega
  have hd:AG (a<low)=false:=BP f;clear c h;have HD:Aside (AG (a<low)=AK):=hd
  go_enter func72,ntmps72
  go_wp2_with fail
  go_quiet_o (fail)
  go_wp2
  go_ret
  refine⟨?_,HS _⟩;show O6 (.bool AK)=.returned (.bool (AG (a<low)&&A5 a==b+1));rw[HD.out];rfl
