/-
  Part of the proof. No condition.
-/
import Derived.Test.YtkgejlchafionaaGreatDoorG9
import Derived.Test.YtkgejlchafionaaGreatDoorBegF
set_option maxRecDepth 1000000
open Go Go.Eng
noncomputable section
namespace Nice
def rX (d:Aj):Aj:=(d.1,cut d.2.1 42,cut d.2.2.1 302,d.2.2.2.1,d.2.2.2.2.1,cut d.2.2.2.2.2.1 10,d.2.2.2.2.2.2.1,d.2.2.2.2.2.2.2.1,())
def yY:PSpec:=⟨[A7],[A7],λ_=>true,λx=>(rX x.1,())⟩
theorem Z6 (x y:BU):L5 x y=L5 y x:=by
 unfold L5;rw[BEq.comm (a:=x.1),BEq.comm (a:=x.2.1)]
theorem P6:∀l m:List BU,G0 l m=G0 m l
 |[],[]=>rfl
 |[],_::_=>rfl
 |_::_,[]=>rfl
 |x::l,y::m=>by
  show(L5 x y&&G0 l m)=(L5 y x&&G0 m l);rw[Z6,P6 l m]
theorem N1 (a b:EK):Ev a b=Ev b a:=by
 unfold Ev;rw[BEq.comm (a:=a.1),BEq.comm (a:=a.2.2.1),P6]
theorem jF {a:Ak} (h:EV a=true) (s:N3 a=true) (d:Aj):QG a d=dm (aI (DQ a) d) d:=by
 obtain⟨I,key,v,u,w,t,p,f,C,D,⟨⟩⟩:=a;obtain⟨dk,b,m,n,o,dt,q,r,⟨⟩⟩:=d;unfold N3 at s;simp only[Bool.or_eq_true,beq_iff_eq] at s;unfold EV at h;rw[Bool.eq_iff_iff];rcases s with rfl|rfl
 ·simp only[show WB 2=false from rfl,xF,Bool.and_eq_true,show((2:Int)==1)=false from rfl,show((2:Int)==3)=false from rfl,show((2:Int)==2)=true from rfl,xT] at h;obtain⟨-,x⟩:=h;unfold iy at x;simp only[Bool.and_eq_true,beq_iff_eq] at x;have E:v=0:=x.2.1;subst E;show(dk==1&&(b==key&&(m==u&&(o==w&&(dt==t&&n==0)))))=true↔((1:Int)==dk&&(key==b&&(u==m&&((0:Int)==n&&(w==o&&(t==dt&&(q==q&&(r==r&&true))))))))=true
  simp only[Bool.and_eq_true,beq_iff_eq];exact⟨λ⟨c,e,g,i,j,k⟩=>⟨c.symm,e.symm,g.symm,k.symm,i.symm,j.symm,trivial,trivial,trivial⟩,λ⟨c,e,g,i,j,k,_⟩=>⟨c.symm,e.symm,g.symm,j.symm,k.symm,i.symm⟩⟩
 ·simp only[show WB 3=false from rfl,xF,Bool.and_eq_true,show((3:Int)==1)=false from rfl,show((3:Int)==3)=true from rfl,xT] at h;obtain⟨y,z, -⟩:=h;unfold Zu at y;unfold WC at z;simp only[Bool.and_eq_true,beq_iff_eq,decide_eq_true_eq] at y z;obtain⟨A,l,B⟩:=z;have A:u=[]:=A;have l:w=0:=l
  have B:t=[]:=B;have E:0<=v:=y.2.2.2.2.1;subst A l B;by_cases F:v=0
  ·subst F;show(dk==2&&(b==key&&(m==[]&&(o==0&&(dt==[]&&n==0)))))=true↔((2:Int)==dk&&(key==b&&([]==m&&((0:Int)==n&&((0:Int)==o&&([]==dt&&(q==q&&(r==r&&true))))))))=true;simp only[Bool.and_eq_true,beq_iff_eq];exact⟨λ⟨c,e,g,i,j,k⟩=>⟨c.symm,e.symm,g.symm,k.symm,i.symm,j.symm,trivial,trivial,trivial⟩,λ⟨c,e,g,i,j,k,_⟩=>⟨c.symm,e.symm,g.symm,j.symm,k.symm,i.symm⟩⟩
  ·have G:J1 (3,key,v,[],0,[],p,f,C,D,())=3:=by
    unfold J1;show(bif v !=0 then(3:Int) else 2)=3;rw[show(v !=0)=true from bne_iff_ne.2 F];rfl
   have H:DQ (3,key,v,[],0,[],p,f,C,D,())=(3,key,[],v,0,[],0,0,()):=by
    unfold DQ;show(bif decide (v>0) then(3,key,[],v,0,[],0,0,()) else(2,key,[],0,0,[],0,0,()):Aj)=_;rw[Au (show v>0 by omega)]
   unfold QG;rw[G,H];show(dk==3&&(b==key&&(m==[]&&(o==0&&(dt==[]&&n==v)))))=true↔((3:Int)==dk&&(key==b&&([]==m&&(v==n&&((0:Int)==o&&([]==dt&&(q==q&&(r==r&&true))))))))=true;simp only[Bool.and_eq_true,beq_iff_eq];exact⟨λ⟨c,e,g,i,j,k⟩=>⟨c.symm,e.symm,g.symm,k.symm,i.symm,j.symm,trivial,trivial,trivial⟩,λ⟨c,e,g,i,j,k,_⟩=>⟨c.symm,e.symm,g.symm,j.symm,k.symm,i.symm⟩⟩
theorem dI {s:BB} {d:Aj} (hd:Cw d=true) (c:0<=s.1) (f:s.1<=1099511627776):0<=(Bn s d).2.2.1/\(Bn s d).2.2.1<=1099511627776:=by
 have z:(0:Int)<=0/\(0:Int)<=1099511627776:=by omega
 have b:(d.1==3)=true->0<=d.2.2.2.1/\d.2.2.2.1<=1099511627776:=λb=>by
  unfold Cw at hd;simp only[Bool.and_eq_true] at hd;have a:=hd.2.2.2.2;unfold Hr at a;have e:=beq_iff_eq.1 b;rw[e] at a;simp only[show((3:Int)==1)=false from rfl,show((3:Int)==2)=false from rfl,show((3:Int)==3)=true from rfl,xF,xT,Bool.and_eq_true,decide_eq_true_eq] at a;omega
 unfold Bn;cases d.1==1&& !L2 (ABA s d.2.1) d.2.2.2.2.1 d.2.2.2.2.2.1
 ·cases d.1 !=1&& !(D0 (Ca d.2.1) (EH d.2.1) s.2.1 0).2
  ·rw[xF,xF];cases a:d.1==3
   ·rw[xF];cases(Ba (ABA s d.2.1) (s.1,d.1==2,d.2.2.1,())).2&&((D0 (Ca d.2.1) (EH d.2.1) s.2.1 0).2|| !decide (40<=s.2.1.length))
    ·exact z
    ·exact⟨c,f⟩
   ·rw[xT];cases(Be (ABA s d.2.1) d.2.2.2.1).2
    ·exact z
    ·exact b a
  ·exact z
 ·exact z
theorem Ru (s:BB) (d:Aj):0<=(CM s d).2.2.1/\(CM s d).2.2.1<=1099511627776:=by
 have z:(0:Int)<=0/\(0:Int)<=1099511627776:=by omega
 cases a:Bb s
 ·rw[Fo (by rw[a];rfl)];exact z
 cases hd:Cw d
 ·rw[Fo (by rw[hd];exact Bool.and_false _)];exact z
 obtain⟨j,k,g,e⟩:=N2 a;unfold CM;rw[a,hd,show(true&&true)=true from rfl,xT];by_cases f:s.1>=1099511627776
 ·rw[Au f];exact z
 rw[Av f];cases decide (PA d<FE s.2.2.2.1 (FV d+1))
 ·rw[xF];cases b:(O1 s d).2
  ·rw[xF];cases decide (100<=s.2.2.1.length)
   ·have:=dI (s:=HG s) hd (show 0<=s.1+1 by omega) (show s.1+1<=1099511627776 by omega);rw[xF];cases decide (O0 d>FE s.2.2.2.1 (FV d+1))&&Ai (O0 d)==FV d+1
    ·exact this
    ·exact this
   ·exact z
  ·obtain⟨n,h, -,i⟩:∃n:Nat,(O1 s d).1=(n:Int)/\n<=s.2.2.1.length/\((O1 s d).2=true->n<s.2.2.1.length):=IM _ _ _;have c:=Tv a n (i b);unfold J8 aS at c;simp only[Bool.and_eq_true,decide_eq_true_eq] at c;rw[xT,h];show 0<=(Ay s.2.2.1 n).2.1.2.1/\(Ay s.2.2.1 n).2.1.2.1<=_;have:=c.2.2.2.2.2
   omega
 ·exact z
theorem YB (s:BB) (d:Aj):BR (CM s d).2.2.1=true:=by
 have:=Ru s d;unfold BR;rw[decide_eq_true (by omega),decide_eq_true (by omega)];rfl
theorem jG (s:BB) (d:Aj):Bp (CM s d).2.2.1=DV (CM s d).2.2.1:=GV (Ru s d).1 (Ru s d).2
theorem Tp {A:Ak} {s:BB} (n:ED A=true) (o:EV A=true) (c:Bb (E0 s)=true):Wv A (E0 s)=true/\Le A (E0 s)=true/\Gn A (E0 s)=Wu A (E0 s):=by
 have au:=jd s A;have d:=AA9 s;have a:=λe (g:e∈(E0 s).2.1)=>MT g
 have b:=je s
 revert au d a b c
 generalize E0 s=S;intro c au d a b;obtain⟨g1,p,g3⟩:=kL c A.2.1 A.2.2.1;have SQ:Gq S=true:=by
  unfold Gq;rw[decide_eq_true (by omega),show S.2.1.all DU=true from List.all_eq_true.2 λe g=>decide_eq_true (by have:=(a e g).2;omega)];rfl
 have h:BR (Cy S A.2.1 A.2.2.1).1.1=true:=by
  unfold BR;rw[decide_eq_true (by omega),decide_eq_true (by omega)];rfl
 have j:AY (Cy S A.2.1 A.2.2.1).1.2.2.1=true:=decide_eq_true (by omega);have l:LF S A=DJ S A:=by unfold LF;rw[c,o];rfl
 have m:Dk S A.2.1 A.2.2.1=Cy S A.2.1 A.2.2.1:=ez (UI c) (λe g=>by
  obtain⟨i,h,rfl⟩:=List.getElem_of_mem g;have f:=(KB c).2 i h;unfold JB at f;rw[Bool.and_eq_true,Hz h] at f;exact(FX.1 f.1).2.2.1) _ _
 have k:Mh S A=true:=by unfold Mh;rw[d,n];rfl
 refine⟨?_,?_,?_⟩
 ·unfold Wv;rw[SQ,j,h,k,l,au];rfl
 ·unfold Le;rw[m,SQ,j,h,PQ c,au];rfl
 ·unfold Gn Wu;rw[m,l,GV p g3]
theorem Z7 {A:Ak} {s:BB} {D:Aj} {X:EK} (t1 t2:Int) (a:ED A=true) (c:EV A=true) (d:Bb (E0 s)=true) (e:AY D.2.1=true) (f:OU X=true):
  PB (A,t1,t2,X,()) (E0 s) D=true/\PD A (E0 s) D=true/\aJ (A,t1,t2,X,()) (E0 s) D=T1 A X (E0 s) D:=by
 obtain⟨f1,f2,f3⟩:=Tp a c d;have b:AY A.2.2.2.1=true:=by
  have a:=a;unfold ED Lz gw at a;simp only[Bool.and_eq_true,decide_eq_true_eq] at a;unfold AY;exact decide_eq_true (by omega)
 have hd:Hs (E0 s) D=true:=by unfold Hs;rw[AA9,e];rfl
 unfold PB PD aJ T1;dsimp only;rw[f];cases g:N3 A
 ·rw[xF,xF,xF,xF,f1,f2,f3];exact⟨rfl,rfl,N1 _ _⟩
 ·rw[xT,xT,xT,xT,hd,YB,b,jF c g,jG,N1];exact⟨rfl,rfl,rfl⟩
def rY (A:Ak) (S:BB) (D:Aj) (X:EK):BO:=
 bif aJ (A,0,0,X,()) S D then(bif T1 A X S D then gd [PD A S D,PB (A,0,0,X,()) S D] (bO true) else gd [PD A S D,PB (A,0,0,X,()) S D] (bO false))
 else(bif T1 A X S D then gd [PD A S D,PB (A,0,0,X,()) S D] (bO false) else gd [PD A S D,PB (A,0,0,X,()) S D] (bO true))
def tU (A:Ak) (S:BB) (D:Aj) (X:EK) (wr:Bool):BO:=
 bif N4 A then(bif wr then rY A S D (413,X.2.1,[],()) else rY A S D (X.1,X.2.1,[],())) else(bif wr then rY A S D (413,X.2.1,X.2.2.1,()) else rY A S D X)
def xM (A:Ak) (S:BB) (D W:Aj) (wr:Bool):BO:=
 bif Cw W then gd [BR (CM S W).2.2.1&&AY A.2.2.2.1,Hs S W,AY W.2.1] (tU A S W (mA (Bp (CM S W).2.2.1) A (CM S W).2) wr)
 else gd [BR (CM S D).2.2.1&&AY A.2.2.2.1,Hs S D,AY W.2.1] (tU A S D (mA (Bp (CM S D).2.2.1) A (CM S D).2) wr)
def yZ (A:Ak) (S:BB) (D:Aj) (wr:Bool):BO:=
 bif Bb S then(bif Cw D then(bif EV A then gd [Le A S,ED A,AY D.2.1,EF S] (bif A.1==2 then xM A S D (aI (DQ A) D) wr else bif A.1==3 then xM A S D (aI (DQ A) D) wr else tU A S D (Gn A S) wr)
  else gd [ED A,AY D.2.1,EF S] (bO true)) else gd [AY D.2.1,EF S] (bO true)) else gd [EF S] (bO true)
theorem YC {A:Ak} {s:BB} {D:Aj} {X:EK} (b:ED A=true) (c:EV A=true) (d:Bb (E0 s)=true) (e:AY D.2.1=true) (f:OU X=true):rY A (E0 s) D X=bO true:=by
 obtain⟨g,h,i⟩:=Z7 (D:=D) (X:=X) 0 0 b c d e f;unfold rY;rw[i];have a:∀y:BO,gd [PD A (E0 s) D,PB (A,0,0,X,()) (E0 s) D] y=y:=λy=>by rw[Ag h,Ag g,xG]
 rw[a,a];cases T1 A X (E0 s) D<;>rfl
theorem dJ {A:Ak} {s:BB} {D:Aj} {X:EK} {wr:Bool} (b:ED A=true) (c:EV A=true) (d:Bb (E0 s)=true) (e:AY D.2.1=true) (f:X.2.1.length<=2):tU A (E0 s) D X wr=bO true:=by
 unfold tU;rw[YC b c d e (Er f),YC b c d e (Er (a:=(413,X.2.1,[],())) f),YC b c d e (Er (a:=(X.1,X.2.1,[],())) f),YC b c d e (Er (a:=(413,X.2.1,X.2.2.1,())) f)];cases N4 A<;>cases wr<;>rfl
theorem Z8 (a:Ak) (d:Aj):(aI (DQ a) d).2.1=a.2.1:=by
 unfold aI DQ;cases a.1==3<;>cases decide (a.2.2.1>0)<;>rfl
theorem tV {A:Ak} {s:BB} {D:Aj} {wr:Bool} (a:ED A=true) (j:AY A.2.1=true) (e:EV A=true) (f:Bb (E0 s)=true) (g:AY D.2.1=true):xM A (E0 s) D (aI (DQ A) D) wr=bO true:=by
 have b:AY (aI (DQ A) D).2.1=true:=by rw[Z8];exact j
 have c:AY A.2.2.2.1=true:=by
  have a:=a;unfold ED Lz gw at a;simp only[Bool.and_eq_true,decide_eq_true_eq] at a;unfold AY;exact decide_eq_true (by omega)
 have hd:∀d:Aj,AY d.2.1=true->Hs (E0 s) d=true:=λd h=>by unfold Hs;rw[AA9,h];rfl
 have i:∀d:Aj,AY d.2.1=true->∀y:BO,gd [BR (CM (E0 s) d).2.2.1&&AY A.2.2.2.1,Hs (E0 s) d,AY (aI (DQ A) D).2.1] y=y:=λd h y=>by
  rw[Ag (by rw[YB,c];rfl),Ag (hd d h),Ag b,xG]
 unfold xM;rw[i _ b,i _ g,dJ a e f b (WW ..),dJ a e f g (WW ..)];cases Cw (aI (DQ A) D)<;>rfl
theorem jH {A:Ak} (a:ED A=true):AY A.2.1=true:=by
 unfold ED Lz gw at a;simp only[Bool.and_eq_true,decide_eq_true_eq] at a;unfold AY;exact decide_eq_true (by omega)
theorem tW {A:Ak} {s:BB} {d:Aj} {wr:Bool} (a:ED A=true):yZ A (E0 s) (rX d) wr=bO true:=by
 have b:AY (rX d).2.1=true:=decide_eq_true (Nat.le_trans (show(cut d.2.1 42).length<=42 from N6 d.2.1 42) (by omega));have c:=AA9 s;unfold yZ;cases e:Bb (E0 s)
 ·rw[xF,Ag c,xG]
 cases hd:Cw (rX d)
 ·rw[xT,xF,Ag b,Ag c,xG]
 cases f:EV A
 ·rw[xT,xT,xF,Ag a,Ag b,Ag c,xG]
 rw[xT,xT,xT,Ag (Tp a f e).2.1,Ag a,Ag b,Ag c,xG,tV a (jH a) f e b,dJ a f e b (X:=Gn A (E0 s)) (Rw ..)];cases A.1==2<;>cases A.1==3<;>rfl
end Nice
namespace Go.Proofs.YtkgejlchafionaaGreatDoor
open Tryz
open Nice
def ya (x:AA [A7]):Option (AA [A7]):=fO prog (AL [(22,PG)]) (AC []) f9 [A7] [A7] x
theorem yb (dk:Int) (a body:L8) (b cond:Int) (c:L8) (d low:Int):ya ((dk,a,body,b,cond,c,d,low,()),())=some (rX (dk,a,body,b,cond,c,d,low,()),()):=by kernel_rfl
theorem tX:PC 9 yY:=(AN (AG (l:=[(22,PG)]) ⟨cc,trivial⟩) AM func9 (by kernel_rfl) (by decide)).nice λ⟨⟨dk,a,body,b,cond,c,d,low,()⟩,()⟩ _=>yb dk a body b cond c d low
abbrev yc:Eng.Env:=AL [(6,fY),(7,bR),(8,zh),(9,yY),(10,Ie),(11,Lc),(12,Nv),(13,T0),(14,UR),(15,Tu),(16,fW),(17,o8),(18,o9)]
def tY (x:AA [Ah,A9,A7,.bool]):BO:=fO prog yc (AC []) f3 [Ah,A9,A7,.bool] [.bool] x
theorem etf (k:Int) (key:L8) (v:Int) (n:L8) (o:Int) (t p f:L8) (r:Int) (s:Bool) (q:Int) (l:List AD) (m:List AU) (a b c d e dk:Int) (g body:L8) (h cond:Int) (i:L8) (j low:Int) (wr:Bool):
 tY ((k,key,v,n,o,t,p,f,r,s,()),(q,l,m,(a,b,c,d,e,()),()),(dk,g,body,h,cond,i,j,low,()),wr,())=gd [xt (q,l,m,(a,b,c,d,e,()),())] (yZ (SY (k,key,v,n,o,t,p,f,r,s,())) (E0 (q,l,m,(a,b,c,d,e,()),())) (rX (dk,g,body,h,cond,i,j,low,())) wr):=by kernel_rfl
theorem yd {a:Ak} {s:BB} {d:Aj} {wr:Bool} (c:xt s=true) (e:BR a.2.2.1=true) (g:BR a.2.2.2.2.2.2.2.2.1=true):tY (a,s,d,wr,())=some (true,()):=by
 have h:=aK a e g;obtain⟨q,l,m,⟨a0,n,c0,o,r,⟨⟩⟩,⟨⟩⟩:=s;obtain⟨u,key,v,w,x,t,p,f,y,z,⟨⟩⟩:=a;obtain⟨dk,b,body,i,cond,j,k,low,⟨⟩⟩:=d;rw[etf,Ag c,xG];exact tW h
open Nice
theorem Z9:PC 6 fY:=a7 S1
theorem ye:PC 3 (w9 [Ah,A9,A7,.bool] [.bool] tY):=AN (AG (l:=[(6,fY),(7,bR),(8,zh),(9,yY),(10,Ie),(11,Lc),(12,Nv),(13,T0),(14,UR),(15,Tu),(16,fW),(17,o8),(18,o9)]) ⟨Z9,nC,zs,tX,Yv,YH,sJ,du,fX,l9,mW,uZ,ub,trivial⟩) AM func3 (by kernel_rfl) (by decide)
theorem aA {w:World} (c:I6 FP w) {args:Array Value} {x:AA [Ah,A9,A7,.bool]} (g:Bc (SW w) [Ah,A9,A7,.bool] x args.toList) (b:xA [Ah,A9,A7,.bool] x):Calls prog 3 args w λe w'=>e=.returned (.bool true)/\Bx w w':=
 a6 ye (λx b=>by
  obtain⟨a,f,d,wr,⟨⟩⟩:=x;have:=yd (a:=a) (s:=f) (d:=d) (wr:=wr) (uc b.2.1.2.1.2) (dx b.1.2.2.1) (dx b.1.2.2.2.2.2.2.2.2.1);exact⟨by show(tY (a,f,d,wr,())).isSome=true;rw[this];rfl,by show(tY (a,f,d,wr,())).getD _=_;rw[this];rfl⟩) c g b
