/-
  Part of the proof. No condition.
-/
import Derived.Test.YtkgejlchafionaaGreatDoorG5
set_option maxRecDepth 1000000
open Go Go.Eng
noncomputable section
namespace Nice
def bI (n:Int):j0:=bif decide (n<4294967296) then some (0,()) else bif decide (n>=25769803776) then some (0,()) else bif n.tmod 4294967296==0 then some (0,()) else gd [decide (Ad .i64 (n.tdiv 4294967296))] (some (n.tdiv 4294967296,()))
theorem hB (n:Int):bI n=some (Ai n,()):=by
 unfold bI Ai;by_cases a:n<4294967296
 ·rw[Au a,Au a]
 rw[Av a,Av a];by_cases b:n>=25769803776
 ·rw[Au b,Au b]
 rw[Av b,Av b];cases n.tmod 4294967296==0
 ·rw[xF,xF];have e:n.tdiv 4294967296=n/4294967296:=Int.tdiv_eq_ediv_of_nonneg (by omega);rw[AP (AH.2 (by rw[e];omega)),xG]
 ·rw[xT,xT]
abbrev bA {α:Type} (l:List α) (i:Int):List Bool:=[decide ((i-1).toNat<l.length),decide (0<=i-1),decide (i-1<(l.length:Int)),decide (Ad .i64 (i-1))]
abbrev gZ (e:AD):List Bool:=[decide (((e.2.1.length:Int)-1).toNat<e.2.1.length),decide (0<=(e.2.1.length:Int)-1),decide ((e.2.1.length:Int)-1<(e.2.1.length:Int)),decide (Ad .i64 ((e.2.1.length:Int)-1)),CN (e.1,e.2.1,())]
def xx (q:Int) (l:List AD) (i:Int) (e:AD) (a:BO):BO:=
 bif Bh (e.1,e.2.1,()) then(bif decide ((e.2.1.getD ((e.2.1.length:Int)-1).toNat (Aa).dflt).1>q) then gd (gZ e) (bO false)
  else bif decide (i>0) then(bif !Op.bytesLess (l.getD (i-1).toNat (AB).dflt).1 e.1 then gd (bA l i++gZ e) (bO false) else gd (decide (Ad .i64 (i+1))::(bA l i++gZ e)) a)
  else gd (decide (Ad .i64 (i+1))::gZ e) a)
 else gd [CN (e.1,e.2.1,())] (bO false)
def U6 (q:Int) (l a:List AD) (k i:Int) (b c:BO):BO:=
 bif decide (i<k) then gd [decide (i.toNat<a.length),decide (0<=i),decide (i<(a.length:Int))] (xx q l i (a.getD i.toNat (AB).dflt) b) else c
def U7 (x k:Int) (a:BO):BO:=bif x !=0 then(bif Ai x !=k then bO false else a) else a
def XN (L:Dd) (a:BO):BO:=U7 L.1 1 (U7 L.2.1 2 (U7 L.2.2.1 3 (U7 L.2.2.2.1 4 (U7 L.2.2.2.2.1 5 a))))
theorem Mf {x k:Int} {b:Bool} {d:BO} (h:d=bO b):U7 x k d=bO (Wk x k&&b):=by
 unfold U7 Wk;by_cases a:x=0
 ·rw[show(x !=0)=false from by rw[bne_eq_false_iff_eq];exact a,show(x==0)=true from beq_iff_eq.2 a,xF,h];rfl
 ·rw[show(x !=0)=true from bne_iff_ne.2 a,show(x==0)=false from beq_eq_false_iff_ne.2 a,xT,Bool.false_or];by_cases c:Ai x=k
  ·rw[show(Ai x !=k)=false from by rw[bne_eq_false_iff_eq];exact c,show(Ai x==k)=true from beq_iff_eq.2 c,xF,h];rfl
  ·rw[show(Ai x !=k)=true from bne_iff_ne.2 c,show(Ai x==k)=false from beq_eq_false_iff_ne.2 c,xT];rfl
theorem XO {L:Dd} {b:Bool} {a:BO} (h:a=bO b):XN L a=bO (OB L&&b):=by
 unfold XN OB;rw[Mf (Mf (Mf (Mf (Mf h))))];simp only[Bool.and_assoc]
def hF (L:Dd) (k:Int) (f:Int->BO):BO:=bif k==0 then f L.1 else bif k==1 then f L.2.1 else bif k==2 then f L.2.2.1 else bif k==3 then f L.2.2.2.1 else bif k==4 then f L.2.2.2.2.1 else none
def hH (q:Int) (m:AU) (i:Int) (a:BO):BO:=
 bif decide (m.2.1.1<0) then bO false else bif decide (m.2.1.1>13) then bO false else bif decide (m.2.1.2.1<0) then bO false else bif decide (m.2.1.2.1>q) then bO false else gd [decide (Ad .i64 (i+1))] a
theorem bJ {q:Int} {m:AU} {i:Int} {b:Bool} {a:BO} (g:Ad .i64 (i+1)) (h:a=bO b):hH q m i a=bO (aS q m&&b):=by
 unfold hH aS;by_cases c:m.2.1.1<0
 ·rw[Au c,decide_eq_false (show ¬0<=m.2.1.1 by omega)];rfl
 rw[Av c,decide_eq_true (show 0<=m.2.1.1 by omega)];by_cases d:m.2.1.1>13
 ·rw[Au d,decide_eq_false (show ¬m.2.1.1<=13 by omega)];rfl
 rw[Av d,decide_eq_true (show m.2.1.1<=13 by omega)];by_cases e:m.2.1.2.1<0
 ·rw[Au e,decide_eq_false (show ¬0<=m.2.1.2.1 by omega)];rfl
 rw[Av e,decide_eq_true (show 0<=m.2.1.2.1 by omega)];by_cases f:m.2.1.2.1>q
 ·rw[Au f,decide_eq_false (show ¬m.2.1.2.1<=q by omega)];rfl
 rw[Av f,decide_eq_true (show m.2.1.2.1<=q by omega),AP g,xG,h];rfl
def ABx (q:Int) (L:Dd) (m:List AU) (i:Int) (x:AU) (a:BO):BO:=
 bif Ai x.1==0 then bO false else hF L (Ai x.1-1) λlo=>bif decide (x.1<lo) then gd [decide (Ad .i64 (Ai x.1-1))] (bO false)
  else bif decide (i>0) then(bif decide ((m.getD (i-1).toNat (Ab).dflt).1>=x.1) then gd (bA m i++[decide (Ad .i64 (Ai x.1-1))]) (bO false) else gd (bA m i++[decide (Ad .i64 (Ai x.1-1))]) (hH q x i a))
  else gd [decide (Ad .i64 (Ai x.1-1))] (hH q x i a)
def Qw (q:Int) (L:Dd) (m a:List AU) (k i:Int) (b:BO):BO:=
 bif decide (i<k) then gd [decide (i.toNat<a.length),decide (0<=i),decide (i<(a.length:Int))] (ABx q L m i (a.getD i.toNat (Ab).dflt) b) else bO true
theorem U8 {L:Dd} {h:Int} (a:h=1\/h=2\/h=3\/h=4\/h=5) (f:Int->BO):hF L (h-1) f=f (FE L h):=by
 rcases a with rfl|rfl|rfl|rfl|rfl<;>rfl
theorem HH {α β:Type} {l:List α} {i:Nat} (b:0<i) (c:i<l.length) (d:l.length<=1000) (y:Option β) (a:List Bool):gd (bA l (i:Int)++a) y=gd a y:=by
 unfold bA;simp only[List.cons_append,List.nil_append];rw[AP (by omega),AP (by omega),AP (by omega),AP (AH.2 ⟨by omega,by omega⟩)]
theorem ru {q:Int} {l:List AD} {i:Nat} {b:Bool} {d:BO} (u:l.length<=40) (e:i<l.length) (k:CN (AQ l i)=true) (h:d=bO b):xx q l (i:Int) (AQ l i) d=bO (JB q l i&&b):=by
 have f:Ad .i64 ((i:Int)+1):=AH.2 ⟨by omega,by omega⟩;have a:CN ((AQ l i).1,(AQ l i).2.1,())=true:=k;have m:Bh ((AQ l i).1,(AQ l i).2.1,())=Bh (AQ l i):=rfl;unfold xx JB;rw[m];cases o:Bh (AQ l i)
 ·rw[xF,Ag a,xG];rfl
 ·obtain⟨v,w⟩:=J9 o;have p:(((AQ l i).2.1.length:Int)-1).toNat=(AQ l i).2.1.length-1:=by omega
  have c:∀y:BO,gd (gZ (AQ l i)) y=y:=λy=>by
   unfold gZ;rw[AP (by omega),AP (by omega),AP (by omega),AP (AH.2 ⟨by omega,by omega⟩),Ag a,xG]
  have r:(AQ l i).2.1.getD (((AQ l i).2.1.length:Int)-1).toNat (Aa).dflt=Bi (AQ l i):=by rw[p];rfl
  rw[xT,r,Bool.true_and];by_cases g:(Bi (AQ l i)).1>q
  ·rw[Au g,c,decide_eq_false (show ¬(Bi (AQ l i)).1<=q by omega)];rfl
  rw[Av g,decide_eq_true (show(Bi (AQ l i)).1<=q by omega),Bool.true_and];by_cases j:i=0
  ·subst j;rw[Av (by omega),AP f,c,h];rfl
  ·have s:((i:Int)-1).toNat=i-1:=by omega
   have t:Nat.beq i 0=false:=by cases i with
    |zero=>exact absurd rfl j
    |succ n=>rfl
   rw[Au (by omega),s,t,Bool.false_or];show(bif !Op.bytesLess (AQ l (i-1)).1 (AQ l i).1 then _ else _)=_;cases Op.bytesLess (AQ l (i-1)).1 (AQ l i).1
   ·rw[show(!false)=true from rfl,xT,HH (by omega) e (by omega),c];rfl
   ·rw[show(!true)=false from rfl,xF,AP f,HH (by omega) e (by omega),c,h];rfl
theorem ABy {q:Int} {L:Dd} {m:List AU} {i:Nat} {b:Bool} {d:BO} (r:m.length<=100) (e:i<m.length) (h:d=bO b):ABx q L m (i:Int) (Ay m i) d=bO (J8 q L m i&&b):=by
 have f:Ad .i64 ((i:Int)+1):=AH.2 ⟨by omega,by omega⟩;unfold ABx J8;have s:=Hv (Ay m i).1;cases k:Ai (Ay m i).1==0
 ·have l:Ai (Ay m i).1≠0:=by simpa using k
  have c:Ad .i64 (Ai (Ay m i).1-1):=AH.2 ⟨by omega,by omega⟩;rw[xF,U8 (by omega),show(!false)=true from rfl,Bool.true_and];by_cases g:(Ay m i).1<FE L (Ai (Ay m i).1)
  ·rw[Au g,decide_eq_false (show ¬FE L (Ai (Ay m i).1)<=(Ay m i).1 by omega),AP c,xG];rfl
  rw[Av g,decide_eq_true (show FE L (Ai (Ay m i).1)<=(Ay m i).1 by omega),Bool.true_and];by_cases a:i=0
  ·subst a;rw[Av (by omega),AP c,xG,bJ f h];rfl
  ·have o:((i:Int)-1).toNat=i-1:=by omega
   have p:Nat.beq i 0=false:=by cases i with
    |zero=>exact absurd rfl a
    |succ n=>rfl
   rw[Au (by omega),o,p,Bool.false_or];show(bif decide ((Ay m (i-1)).1>=(Ay m i).1) then _ else _)=_;by_cases j:(Ay m (i-1)).1>=(Ay m i).1
   ·rw[Au j,HH (by omega) e (by omega),AP c,xG,decide_eq_false (show ¬(Ay m (i-1)).1<(Ay m i).1 by omega)];rfl
   ·rw[Av j,HH (by omega) e (by omega),AP c,xG,bJ f h,decide_eq_true (show(Ay m (i-1)).1<(Ay m i).1 by omega),Bool.true_and]
 ·rw[xT];rfl
end Nice
namespace Go.Proofs.YtkgejlchafionaaGreatDoor
open Tryz
open Nice
def ky (x:AA [IT]):j0:=fO prog (AL []) (AC []) f66 [IT] [IT] x
theorem rv (n:Int):ky (n,())=bI n:=by kernel_rfl
theorem U9:PC 66 FD:=(AN (AG (l:=[]) trivial) AM func66 (by kernel_rfl) (by decide)).nice λ⟨n,()⟩ _=>by
 show ky _=_;rw[rv];exact hB n
abbrev Y2:List (Nat×List (Nat×Sh)):=[(4,[(1,(.obj [.sym,(.dat AB),(.dat Ab),.sym,.sym,.sym,.sym,.sym])),(2,(.one .sym)),(31,(.one (.dat AB))),(32,(.one .sym)),(33,(.one .sym))]),(16,[(1,(.obj [.sym,(.dat AB),(.dat Ab),.sym,.sym,.sym,.sym,.sym])),(2,(.one .sym)),(89,(.one (.dat Ab))),(90,(.one .sym)),(91,(.one .sym))])]
abbrev bK:Eng.Env:=AL [(99,GU),(66,FD)]
abbrev PM (q:Int) (L:Dd):AO:=.row [sy (.int .i64 q),dt 10,dt 11,sy (.int .i64 L.1),sy (.int .i64 L.2.1),sy (.int .i64 L.2.2.1),sy (.int .i64 L.2.2.2.1),sy (.int .i64 L.2.2.2.2.1)] 28 false
def hI (N:Nat) (q:Int) (l:List AD) (m:List AU) (a b c d e:Int) (f:List AD) (k i:Int):BO:=rH prog bK (AC Y2) f64 [.bool] N 0 [(1,.pointer (some ⟨12,0,none⟩)),(2,.bool false),(31,dt 13),(32,sy (.int .i64 k)),(33,sy (.int .i64 i))] [.dat AB l,.dat Ab m,PM q (a,b,c,d,e,()),.dat AB f]
def hJ (N:Nat) (q:Int) (l:List AD) (m:List AU) (a b c d e:Int) (f:List AU) (k i:Int):BO:=rH prog bK (AC Y2) f64 [.bool] N 2 [(1,.pointer (some ⟨12,0,none⟩)),(2,.bool false),(89,dt 13),(90,sy (.int .i64 k)),(91,sy (.int .i64 i))] [.dat AB l,.dat Ab m,PM q (a,b,c,d,e,()),.dat Ab f]
def xy (x:AA [A9]):BO:=fO prog bK (AC Y2) f64 [A9] [.bool] x
theorem ry (x:AA [A9]):xy x=BV prog bK (AC Y2) f64 [A9] [.bool] AE x:=rfl
theorem rz (N:Nat) (q:Int) (l:List AD) (m:List AU) (a b c d e:Int):BV prog bK (AC Y2) f64 [A9] [.bool] N ((q,l,m,(a,b,c,d,e,()),()),())=
 (bif decide (q<0) then bO false else bif decide (q>1099511627776) then bO false else bif decide ((l.length:Int)>40) then bO false else bif decide ((m.length:Int)>100) then bO false else hI N q l m a b c d e l (l.length:Int) 0):=by kernel_rfl
theorem kz (N:Nat) (q:Int) (l:List AD) (m:List AU) (a b c d e:Int) (f:List AD) (k i:Int):hI (N+1) q l m a b c d e f k i=U6 q l f k i (hI N q l m a b c d e f k (i+1)) (XN (a,b,c,d,e,()) (hJ N q l m a b c d e m (m.length:Int) 0)):=by kernel_rfl
theorem k0 (N:Nat) (q:Int) (l:List AD) (m:List AU) (a b c d e:Int) (f:List AU) (k i:Int):hJ (N+1) q l m a b c d e f k i=Qw q (a,b,c,d,e,()) m f k i (hJ N q l m a b c d e f k (i+1)):=by kernel_rfl
theorem r4 (q:Int) (l:List AD) (m:List AU) (a b c d e:Int) (f:m.length<=100):∀(r i N:Nat),m.length=i+r->r<N->hJ N q l m a b c d e m (m.length:Int) (i:Int)=bO (Es (J8 q (a,b,c,d,e,()) m) r i):=by
 intro r
 induction r with
 |zero=>
  intro i N g hN;obtain⟨N,rfl⟩:∃k,N=k+1:=⟨N-1,by omega⟩
  rw[k0];unfold Qw;rw[Av (by omega)];rfl
 |succ r h=>
  intro i N g hN;obtain⟨N,rfl⟩:∃k,N=k+1:=⟨N-1,by omega⟩
  have this:=h (i+1) N (by omega) (by omega);simp only[Int.natCast_add,Int.natCast_one] at this;rw[k0];unfold Qw;rw[Au (by omega),AP (by omega),AP (by omega),AP (by omega),xG];exact ABy f (by omega) this
theorem r5 (q:Int) (l:List AD) (m:List AU) (a b c d e:Int) (h:l.length<=40) (j:m.length<=100) (n:∀x,x∈l->CN x=true):∀(r i N:Nat),l.length=i+r->r+101<N->hI N q l m a b c d e l (l.length:Int) (i:Int)=bO (Es (JB q l) r i&&(OB (a,b,c,d,e,())&&Es (J8 q (a,b,c,d,e,()) m) m.length 0)):=by
 intro r
 induction r with
 |zero=>
  intro i N o hN;obtain⟨N,rfl⟩:∃k,N=k+1:=⟨N-1,by omega⟩
  have this:=r4 q l m a b c d e j m.length 0 N (by omega) (by omega);rw[kz];unfold U6;rw[Av (by omega)];exact XO this
 |succ r p=>
  intro i N o hN;obtain⟨N,rfl⟩:∃k,N=k+1:=⟨N-1,by omega⟩
  have f:i<l.length:=by omega
  have this:=p (i+1) N (by omega) (by omega);simp only[Int.natCast_add,Int.natCast_one] at this;have g:CN (AQ l i)=true:=n _ (by
   show l.getD i _∈l;rw[List.getD_eq_getElem?_getD,List.getElem?_eq_getElem f];exact List.getElem_mem f)
  rw[kz];unfold U6;rw[Au (by omega),AP (by omega),AP (by omega),AP (by omega),xG];refine(ru h f g this).trans ?_;show bO (_&&(_&&_))=bO ((_&&_)&&_);rw[Bool.and_assoc]
theorem xz (q:Int) (l:List AD) (m:List AU) (a b c d e:Int) (h:l.all CN=true):xy ((q,l,m,(a,b,c,d,e,()),()),())=bO (Bb (q,l,m,(a,b,c,d,e,()),())):=by
 have k:=List.all_eq_true.1 h;show xy _=bO (decide (0<=q)&&(decide (q<=1099511627776)&&(decide (l.length<=40)&&(decide (m.length<=100)&&(Es (JB q l) l.length 0&&(OB (a,b,c,d,e,())&&Es (J8 q (a,b,c,d,e,()) m) m.length 0))))));rw[ry,rz];by_cases f:q<0
 ·rw[Au f,decide_eq_false (show ¬0<=q by omega)];rfl
 rw[Av f,decide_eq_true (show 0<=q by omega)];by_cases g:q>1099511627776
 ·rw[Au g,decide_eq_false (show ¬q<=1099511627776 by omega)];rfl
 rw[Av g,decide_eq_true (show q<=1099511627776 by omega)];by_cases i:(l.length:Int)>40
 ·rw[Au i,decide_eq_false (show ¬l.length<=40 by omega)];rfl
 rw[Av i,decide_eq_true (show l.length<=40 by omega)];by_cases j:(m.length:Int)>100
 ·rw[Au j,decide_eq_false (show ¬m.length<=100 by omega)];rfl
 rw[Av j,decide_eq_true (show m.length<=100 by omega)];exact r5 q l m a b c d e (by omega) (by omega) k l.length 0 AE (by omega) (by unfold AE;omega)
theorem bL:PC 64 Ie:=(AN (sh:=AC Y2) (AG (l:=[(99,GU),(66,FD)]) ⟨ABb,U9,trivial⟩) AM func64 (by kernel_rfl) (by decide)).nice λ⟨⟨q,l,m,⟨a,b,c,d,e,()⟩,()⟩,()⟩ h=>xz q l m a b c d e h
end Go.Proofs.YtkgejlchafionaaGreatDoor
namespace Nice
def CI (e:AD):Ae×Bool:=bif e.2.1.length==0 then((0,false,[],()),false) else(Bi e, !(Bi e).2.1)
def Gr:PSpec:=⟨[AB],[Aa,.bool],λx=>decide (x.1.2.1.length<=140737488355328),λx=>((CI x.1).1,(CI x.1).2,())⟩
def VA (b:Bool) (e:AD):Bool:= !b||(CI e).2
def bM (b:Bool):PSpec:=⟨[AB],[.bool],λx=>decide (x.1.2.1.length<=140737488355328),λx=>(VA b x.1,())⟩
def MA:PSpec:=⟨[.slice Aa],[.slice Aa],λx=>decide (0<x.1.length)&&decide (x.1.length<=1000000),λx=>(x.1,())⟩
def Ch (p f:L8) (b:Bool) (e:AD):Bool:=Ax e.1 p&&(!(Op.bytesLess e.1 f||e.1==f)&&VA b e)
def CT (k:Int):Int:=min (max k 1) 20
def mu (s:BB) (p f:L8) (b:Bool):List AD:=s.2.1.filter (Ch p f b)
def BX (s:BB) (p f:L8) (k:Int) (b:Bool):List AD:=(mu s p f b).take (CT k).toNat
def CP (s:BB) (p f:L8) (k:Int) (b:Bool):Bool:=decide (CT k<((mu s p f b).length:Int))
def BZ (s:BB):Bool:=decide (s.2.1.length<=40)&&s.2.1.all λe=>decide (1<=e.2.1.length)&&decide (e.2.1.length<=12)
def PN (n:Nat) (b:Bool):PSpec:=⟨[A9,.str,.str,IT,.fn n],[.slice AB,.bool],λx=>BZ x.1,λx=>(BX x.1 x.2.1 x.2.2.1 x.2.2.2.1 b,CP x.1 x.2.1 x.2.2.1 x.2.2.2.1 b,())⟩
def FH (s:BB) (p f:L8) (k:Int) (b:Bool):List (L8):=(BX s p f k b).map (·.1)
def KR:PSpec:=⟨[A9,.str,.str,IT],[.slice .str,.bool],λx=>BZ x.1,λx=>(FH x.1 x.2.1 x.2.2.1 x.2.2.2.1 true,CP x.1 x.2.1 x.2.2.1 x.2.2.2.1 true,())⟩
def PP:PSpec:=⟨[A9,.str,.str,IT],[.slice AB,.bool],λx=>BZ x.1,λx=>(BX x.1 x.2.1 x.2.2.1 x.2.2.2.1 false,CP x.1 x.2.1 x.2.2.1 x.2.2.2.1 false,())⟩
theorem PQ {s:BB} (h:Bb s=true):BZ s=true:=by
 unfold Bb at h;simp only[Bool.and_eq_true,decide_eq_true_eq] at h;obtain⟨-, -,a, -,b, -⟩:=h;unfold BZ;rw[Bool.and_eq_true,decide_eq_true_eq];refine⟨a,List.all_eq_true.2 λe c=> ?_⟩;obtain⟨i,d,rfl⟩:=List.getElem_of_mem c;have:=IP.1 b i (Nat.zero_le _) (by omega);unfold JB at this
 rw[Bool.and_eq_true] at this;have f:AQ s.2.1 i=s.2.1[i]:=by
  unfold AQ;rw[List.getD_eq_getElem?_getD,List.getElem?_eq_getElem d];rfl
 have:=J9 (f▸this.1);rw[Bool.and_eq_true,decide_eq_true_eq,decide_eq_true_eq];exact this
abbrev PO:=Option (AA [.slice AB,.bool])
abbrev KO:=Option (AA [.slice .str,.bool])
def hO (_:L8) (l:List Ae):Option (AA [Aa,.bool]):=
 bif (l.length:Int)==0 then some ((0,false,[],()),false,()) else gd [decide (((l.length:Int)-1).toNat<l.length),decide (0<=(l.length:Int)-1),decide ((l.length:Int)-1<(l.length:Int)),decide (Ad .i64 ((l.length:Int)-1))]
  (bif (l.getD ((l.length:Int)-1).toNat (Aa).dflt).2.1 then some (l.getD ((l.length:Int)-1).toNat (Aa).dflt,false,()) else some (l.getD ((l.length:Int)-1).toNat (Aa).dflt,true,()))
theorem bN {k:L8} {l:List Ae} (h:l.length<=140737488355328):hO k l=some ((CI (k,l,())).1,(CI (k,l,())).2,()):=by
 unfold hO CI;dsimp only;cases l with
 |nil=>rfl
 |cons v r=>
  have b:(((v::r).length:Int)==0)=false:=by rw[beq_eq_false_iff_ne];simp only[List.length_cons];omega
  have c:((v::r).length==0)=false:=rfl;have d:(((v::r).length:Int)-1).toNat=(v::r).length-1:=by omega
  have e:0<(v::r).length:=by simp
  rw[b,c,xF,xF,d,AP (by omega),AP (by omega),AP (by omega),AP (AH.2 ⟨by omega,by omega⟩),xG];show(bif (Bi (k,v::r,())).2.1 then some (Bi (k,v::r,()),false,()) else some (Bi (k,v::r,()),true,()))=_;cases a:(Bi (k,v::r,())).2.1
  ·simp only;rfl
  ·simp only;rfl
def Mg (b:Bool) (p f:L8) (k:Int) (l o:List AD) (m i:Int) (a:List AD->PO):PO:=
 bif decide (i<m) then gd [decide (i.toNat<l.length),decide (0<=i),decide (i<(l.length:Int))]
  (bif Ax (l.getD i.toNat (AB).dflt).1 p then(bif !(Op.bytesLess (l.getD i.toNat (AB).dflt).1 f||(l.getD i.toNat (AB).dflt).1==f) then
   (bif VA b ((l.getD i.toNat (AB).dflt).1,(l.getD i.toNat (AB).dflt).2.1,()) then
     gd [decide (Ad .i64 (i+1)),decide ((2*(o.length+[((l.getD i.toNat (AB).dflt).1,(l.getD i.toNat (AB).dflt).2.1,())].length)+400)*40<=281474976710656),decide (0<(l.getD i.toNat (AB).dflt).2.1.length)&&decide ((l.getD i.toNat (AB).dflt).2.1.length<=1000000),decide ((l.getD i.toNat (AB).dflt).2.1.length<=140737488355328)] (a (o++[((l.getD i.toNat (AB).dflt).1,(l.getD i.toNat (AB).dflt).2.1,())]))
    else gd [decide (Ad .i64 (i+1)),decide ((l.getD i.toNat (AB).dflt).2.1.length<=140737488355328)] (a o))
   else gd [decide (Ad .i64 (i+1))] (a o)) else gd [decide (Ad .i64 (i+1))] (a o))
 else bif decide ((o.length:Int)>k) then gd [decide (0<=min (o.length:Int) k),decide (min (o.length:Int) k<=(o.length:Int))] (some (List.take (min (o.length:Int) k).toNat o,true,()))
  else gd [decide (0<=min (o.length:Int) k),decide (min (o.length:Int) k<=(o.length:Int))] (some (List.take (min (o.length:Int) k).toNat o,false,()))
theorem r6 {b:Bool} {p f:L8} {k:Int} {l:List AD} {h:Nat->List AD->Int->PO} (s:∀N o i,h (N+1) o i=Mg b p f k l o (l.length:Int) i (λd=>h N d (i+1))) (C:0<=k) (D:l.length<=40) (w:∀e,e∈l->1<=e.2.1.length/\e.2.1.length<=12):
  ∀(r i N:Nat) (o:List AD),l.length=i+r->r<N->o.length<=i->h N o (i:Int)=some ((o++(l.drop i).filter (Ch p f b)).take k.toNat,decide (k<((o++(l.drop i).filter (Ch p f b)).length:Int)),()):=by
 intro r
 induction r with
 |zero=>
  intro i N o x hN y;obtain⟨N,rfl⟩:∃k,N=k+1:=⟨N-1,by omega⟩
  rw[s];unfold Mg;rw[Av (by omega),List.drop_eq_nil_of_le (by omega),List.filter_nil,List.append_nil];have t:∀n:Nat,n=(min (o.length:Int) k).toNat->List.take n o=o.take k.toNat:=λn z=>by
   by_cases a:o.length<=k.toNat
   ·rw[List.take_of_length_le a,List.take_of_length_le (by omega)]
   ·rw[z,show(min (o.length:Int) k).toNat=k.toNat by omega]
  by_cases u:(o.length:Int)>k
  ·rw[Au u,AP (by omega),AP (by omega),xG,t _ rfl,decide_eq_true (show k<(o.length:Int) by omega)]
  ·rw[Av u,AP (by omega),AP (by omega),xG,t _ rfl,decide_eq_false (show ¬k<(o.length:Int) by omega)]
 |succ r A=>
  intro i N o x hN y;obtain⟨N,rfl⟩:∃k,N=k+1:=⟨N-1,by omega⟩
  have a:i<l.length:=by omega
  have c:Ad .i64 ((i:Int)+1):=AH.2 ⟨by omega,by omega⟩;have hd:l.drop i=AQ l i::l.drop (i+1):=by
   rw[List.drop_eq_getElem_cons a];congr 1;unfold AQ;rw[List.getD_eq_getElem?_getD,List.getElem?_eq_getElem a];rfl
  obtain⟨E,v2⟩:=w (AQ l i) (by
   show l.getD i _∈l;rw[List.getD_eq_getElem?_getD,List.getElem?_eq_getElem a];exact List.getElem_mem a)
  have g:∀d:List AD,d.length<=i+1->h N d ((i:Int)+1)=some ((d++(l.drop (i+1)).filter (Ch p f b)).take k.toNat,decide (k<((d++(l.drop (i+1)).filter (Ch p f b)).length:Int)),()):=λd B=>by
   have:=A (i+1) N d (by omega) (by omega) B;simpa only[Int.natCast_add,Int.natCast_one] using this
  have skip:Ch p f b (AQ l i)=false->h N o ((i:Int)+1)=some ((o++(l.drop i).filter (Ch p f b)).take k.toNat,decide (k<((o++(l.drop i).filter (Ch p f b)).length:Int)),()):=λm=>by
   rw[hd,List.filter_cons_of_neg (by rw[m];exact Bool.false_ne_true)];exact g o (by omega)
  have take:Ch p f b (AQ l i)=true->h N (o++[AQ l i]) ((i:Int)+1)=some ((o++(l.drop i).filter (Ch p f b)).take k.toNat,decide (k<((o++(l.drop i).filter (Ch p f b)).length:Int)),()):=λm=>by
   have:=g (o++[AQ l i]) (by rw[List.length_append,List.length_singleton];omega);rw[hd,List.filter_cons_of_pos m];simpa only[List.append_assoc,List.singleton_append] using this
  rw[s];unfold Mg;rw[Au (by omega),AP (by omega),AP (by omega),AP (by omega),xG];show(bif Ax (AQ l i).1 p then(bif !(Op.bytesLess (AQ l i).1 f||(AQ l i).1==f) then(bif VA b (AQ l i) then gd [decide (Ad .i64 ((i:Int)+1)),decide ((2*(o.length+[AQ l i].length)+400)*40<=281474976710656),decide (0<(AQ l i).2.1.length)&&decide ((AQ l i).2.1.length<=1000000),decide ((AQ l i).2.1.length<=140737488355328)] (h N (o++[AQ l i]) ((i:Int)+1)) else gd [decide (Ad .i64 ((i:Int)+1)),decide ((AQ l i).2.1.length<=140737488355328)] (h N o ((i:Int)+1))) else gd [decide (Ad .i64 ((i:Int)+1))] (h N o ((i:Int)+1))) else gd [decide (Ad .i64 ((i:Int)+1))] (h N o ((i:Int)+1)))=_
  cases j:Ax (AQ l i).1 p
  ·rw[xF,AP c,xG];exact skip (by unfold Ch;rw[j];rfl)
  cases q: !(Op.bytesLess (AQ l i).1 f||(AQ l i).1==f)
  ·rw[xT,xF,AP c,xG];exact skip (by unfold Ch;rw[j,q];rfl)
  cases v:VA b (AQ l i)
  ·rw[xT,xT,xF,AP c,AP (by omega),xG];exact skip (by unfold Ch;rw[j,q,v];rfl)
  rw[xT,xT,xT,AP c,AP (by simp only[List.length_singleton];omega),Ag (by rw[decide_eq_true (show 0<(AQ l i).2.1.length by omega),decide_eq_true (show(AQ l i).2.1.length<=1000000 by omega)];rfl),AP (by omega),xG];exact take (by unfold Ch;rw[j,q,v];rfl)
def Il (g:Bool) (l:List AD) (o:List (L8)) (m i:Int) (a:List (L8)->KO):KO:=
 bif decide (i<m) then gd [decide (Ad .i64 (i+1)),decide ((2*(o.length+[(l.getD i.toNat (AB).dflt).1].length)+400)*16<=281474976710656),decide (i.toNat<l.length),decide (0<=i),decide (i<(l.length:Int))] (a (o++[(l.getD i.toNat (AB).dflt).1])) else some (o,g,())
theorem hU {g:Bool} {l:List AD} {h:Nat->List (L8)->Int->KO} (b:∀N o i,h (N+1) o i=Il g l o (l.length:Int) i (λc=>h N c (i+1))) (j:l.length<=1000):
  ∀(r i N:Nat) (o:List (L8)),l.length=i+r->r<N->o.length<=i->h N o (i:Int)=some (o++(l.drop i).map (·.1),g,()):=by
 intro r
 induction r with
 |zero=>
  intro i N o d hN e;obtain⟨N,rfl⟩:∃k,N=k+1:=⟨N-1,by omega⟩
  rw[b];unfold Il;rw[Av (by omega),List.drop_eq_nil_of_le (by omega),List.map_nil,List.append_nil]
 |succ r f=>
  intro i N o d hN e;obtain⟨N,rfl⟩:∃k,N=k+1:=⟨N-1,by omega⟩
  have a:i<l.length:=by omega
  have hd:l.drop i=AQ l i::l.drop (i+1):=by
   rw[List.drop_eq_getElem_cons a];congr 1;unfold AQ;rw[List.getD_eq_getElem?_getD,List.getElem?_eq_getElem a];rfl
  have:=f (i+1) N (o++[(AQ l i).1]) (by omega) (by omega) (by rw[List.length_append,List.length_singleton];omega);simp only[Int.natCast_add,Int.natCast_one] at this;rw[b];unfold Il;rw[Au (by omega),AP (AH.2 ⟨by omega,by omega⟩),AP (by simp only[List.length_singleton];omega),AP (by omega),AP (by omega),AP (by omega),xG,hd,List.map_cons]
  refine this.trans ?_;rw[List.append_assoc,List.singleton_append]
theorem MB (k:Int):0<=CT k:=by unfold CT;omega
theorem Qx {s:BB} (h:BZ s=true):s.2.1.length<=40/\∀e,e∈s.2.1->1<=e.2.1.length/\e.2.1.length<=12:=by
 unfold BZ at h;rw[Bool.and_eq_true,decide_eq_true_eq,List.all_eq_true] at h;exact⟨h.1,λe a=>by have:=h.2 e a;rwa[Bool.and_eq_true,decide_eq_true_eq,decide_eq_true_eq] at this⟩
theorem D7 {s:BB} {p f:L8} {k:Int} {b:Bool}:(BX s p f k b).length<=20:=by
 unfold BX CT;rw[List.length_take];omega
end Nice
namespace Go.Proofs.YtkgejlchafionaaGreatDoor
open Tryz
open Nice
def r7 (x:AA [AB]):Option (AA [Aa,.bool]):=fO prog (AL []) (AC []) f118 [AB] [Aa,.bool] x
theorem x3 (k:L8) (l:List Ae):r7 ((k,l,()),())=hO k l:=by kernel_rfl
theorem XP:PC 118 Gr:=(AN (AG (l:=[]) trivial) AM func118 (by kernel_rfl) (by decide)).nice λ⟨⟨k,l,()⟩,()⟩ h=>by
 show r7 _=_;rw[x3];exact bN (of_decide_eq_true h)
def k5 (x:AA [AB]):BO:=fO prog (AL [(118,Gr)]) (AC []) f167 [AB] [.bool] x
theorem r8 (k:L8) (l:List Ae):k5 ((k,l,()),())=(bif (CI (k,l,())).2 then gd [decide (l.length<=140737488355328)] (bO true) else gd [decide (l.length<=140737488355328)] (bO false)):=by kernel_rfl
theorem mw:PC 167 (bM true):=(AN (AG (l:=[(118,Gr)]) ⟨XP,trivial⟩) AM func167 (by kernel_rfl) (by decide)).nice λ⟨⟨k,l,()⟩,()⟩ h=>by
 have h:l.length<=140737488355328:=of_decide_eq_true h;show k5 _=some ((CI (k,l,())).2,());rw[r8];cases(CI (k,l,())).2
 ·rw[xF,AP h,xG];rfl
 ·rw[xT,AP h,xG];rfl
def k6 (x:AA [AB]):BO:=fO prog (AL []) (AC []) f168 [AB] [.bool] x
theorem r9 (k:L8) (l:List Ae):k6 ((k,l,()),())=bO true:=by kernel_rfl
theorem my:PC 168 (bM false):=(AN (AG (l:=[]) trivial) AM func168 (by kernel_rfl) (by decide)).nice λ⟨⟨k,l,()⟩,()⟩ h=>by
 show k6 _=some (true,());rw[r9];rfl
def XQ (x:AA [.slice Aa]):Option (AA [.slice Aa]):=fO prog (AL []) (AC []) f156 [.slice Aa] [.slice Aa] x
theorem hX (l:List Ae):XQ (l,())=gd [decide ((2*(0+l.length)+400)*32<=281474976710656),decide (0<l.length)] (some (l,())):=by kernel_rfl
theorem SX:PC 156 MA:=(AN (AG (l:=[]) trivial) AM func156 (by kernel_rfl) (by decide)).nice λ⟨l,()⟩ h=>by
 have h:(decide (0<List.length (α:=Ae) l)&&decide (List.length (α:=Ae) l<=1000000))=true:=h;rw[Bool.and_eq_true,decide_eq_true_eq,decide_eq_true_eq] at h;show XQ _=_;rw[hX,AP (by omega),AP h.1,xG]
def sA (x:AA [.str,.str]):BO:=fO prog (AL [(138,A0)]) (AC []) f93 [.str,.str] [.bool] x
theorem x4 (s p:L8):sA (s,p,())=(bif Ax s p then bO true else bO false):=by kernel_rfl
theorem k7:PC 93 A0:=(AN (AG (l:=[(138,A0)]) ⟨Ve,trivial⟩) AM func93 (by kernel_rfl) (by decide)).nice λ⟨s,p,()⟩ _=>by
 show sA _=some (Ax s p,());rw[x4];cases Ax s p<;>rfl
abbrev VB:List (Nat×List (Nat×Sh)):=[(4,[(1,(.one .sym)),(2,(.one .sym)),(3,(.one .sym)),(4,(.one .any)),(10,(.one .any)),(11,(.one .sym)),(12,(.one (.vec AB 68))),(19,(.one (.dat AB))),(20,(.one .sym)),(21,(.one .sym))])]
abbrev bP (n:Nat) (b:Bool):Eng.Env:=AL [(93,A0),(156,MA),(n,bM b)]
def k8 (n:Nat) (b:Bool) (N:Nat) (p f:L8) (k:Int) (o l:List AD) (m i:Int):PO:=rH prog (bP n b) (AC VB) f166 [.slice AB,.bool] N 0 [(1,sy (.string (bs p))),(2,sy (.string (bs f))),(3,sy (.int .i64 k)),(4,Value.func (Fn.func n) { toList:=[]} { toList:=[]}),(10,Value.slice none 0 0),(11,.bool false),(12,dt 10),(19,dt 11),(20,sy (.int .i64 m)),(21,sy (.int .i64 i))] [.vec AB o 68,.dat AB l]
def x5 (n:Nat) (b:Bool) (x:AA [A9,.str,.str,IT,.fn n]):PO:=fO prog (bP n b) (AC VB) f166 [A9,.str,.str,IT,.fn n] [.slice AB,.bool] x
theorem k9 (n:Nat) (b:Bool) (x:AA [A9,.str,.str,IT,.fn n]):x5 n b x=BV prog (bP n b) (AC VB) f166 [A9,.str,.str,IT,.fn n] [.slice AB,.bool] AE x:=rfl
theorem mz (N:Nat) (q:Int) (l:List AD) (m:List AU) (a b c d e:Int) (p f:L8) (k:Int):BV prog (bP 167 true) (AC VB) f166 [A9,.str,.str,IT,.fn 167] [.slice AB,.bool] N ((q,l,m,(a,b,c,d,e,()),()),p,f,k,(),())=k8 167 true N p f (CT k) [] l (l.length:Int) 0:=by kernel_rfl
theorem ABz (N:Nat) (q:Int) (l:List AD) (m:List AU) (a b c d e:Int) (p f:L8) (k:Int):BV prog (bP 168 false) (AC VB) f166 [A9,.str,.str,IT,.fn 168] [.slice AB,.bool] N ((q,l,m,(a,b,c,d,e,()),()),p,f,k,(),())=k8 168 false N p f (CT k) [] l (l.length:Int) 0:=by kernel_rfl
theorem AB0 (N:Nat) (p f:L8) (k:Int) (o l:List AD) (m i:Int):k8 167 true (N+1) p f k o l m i=Mg true p f k l o m i (λa=>k8 167 true N p f k a l m (i+1)):=by kernel_rfl
theorem AB1 (N:Nat) (p f:L8) (k:Int) (o l:List AD) (m i:Int):k8 168 false (N+1) p f k o l m i=Mg false p f k l o m i (λa=>k8 168 false N p f k a l m (i+1)):=by kernel_rfl
theorem sB {s:BB} (h:BZ s=true) (p f:L8) (k:Int):x5 167 true (s,p,f,k,(),())=some (BX s p f k true,CP s p f k true,()):=by
 obtain⟨q,l,m,⟨a,b,c,d,e,⟨⟩⟩,⟨⟩⟩:=s;obtain⟨g,j⟩:=Qx h;rw[k9,mz];have:=r6 (b:=true) (p:=p) (f:=f) (k:=CT k) (l:=l) (h:=λN o i=>k8 167 true N p f (CT k) o l (l.length:Int) i) (λN o i=>AB0 N p f (CT k) o l _ i) (MB k) g j l.length 0 AE [] (by omega) (Nat.lt_of_le_of_lt g (by unfold AE;omega)) (Nat.le_refl _)
 exact this
theorem sC {s:BB} (h:BZ s=true) (p f:L8) (k:Int):x5 168 false (s,p,f,k,(),())=some (BX s p f k false,CP s p f k false,()):=by
 obtain⟨q,l,m,⟨a,b,c,d,e,⟨⟩⟩,⟨⟩⟩:=s;obtain⟨g,j⟩:=Qx h;rw[k9,ABz];have:=r6 (b:=false) (p:=p) (f:=f) (k:=CT k) (l:=l) (h:=λN o i=>k8 168 false N p f (CT k) o l (l.length:Int) i) (λN o i=>AB1 N p f (CT k) o l _ i) (MB k) g j l.length 0 AE [] (by omega) (Nat.lt_of_le_of_lt g (by unfold AE;omega)) (Nat.le_refl _)
 exact this
theorem sD:PC 166 (PN 167 true):=(AN (sh:=AC VB) (AG (l:=[(93,A0),(156,MA),(167,bM true)]) ⟨k7,SX,mw,trivial⟩) AM func166 (by kernel_rfl) (by decide)).nice λ⟨s,p,f,k,(),()⟩ h=>sB h p f k
theorem sE:PC 166 (PN 168 false):=(AN (sh:=AC VB) (AG (l:=[(93,A0),(156,MA),(168,bM false)]) ⟨k7,SX,my,trivial⟩) AM func166 (by kernel_rfl) (by decide)).nice λ⟨s,p,f,k,(),()⟩ h=>sC h p f k
abbrev bQ:List (Nat×List (Nat×Sh)):=[(4,[(8,(.one .any)),(9,(.one .sym)),(11,(.one .sym)),(12,(.one (.vec .str 9))),(23,(.one (.dat AB))),(24,(.one .sym)),(25,(.one .sym))])]
abbrev hY:Eng.Env:=AL [(166,PN 167 true)]
def lA (N:Nat) (g:Bool) (o:List (L8)) (l:List AD) (m i:Int):KO:=rH prog hY (AC bQ) f121 [.slice .str,.bool] N 0 [(8,Value.slice none 0 0),(9,.bool false),(11,.bool g),(12,dt 10),(23,dt 11),(24,sy (.int .i64 m)),(25,sy (.int .i64 i))] [.vec .str o 9,.dat AB l]
def zu (x:AA [A9,.str,.str,IT]):KO:=fO prog hY (AC bQ) f121 [A9,.str,.str,IT] [.slice .str,.bool] x
theorem sF (x:AA [A9,.str,.str,IT]):zu x=BV prog hY (AC bQ) f121 [A9,.str,.str,IT] [.slice .str,.bool] AE x:=rfl
def zv (N:Nat) (s:BB) (p f:L8) (k:Int):KO:=bif CP s p f k true then gd [BZ s] (lA N true [] (BX s p f k true) ((BX s p f k true).length:Int) 0) else gd [BZ s] (lA N false [] (BX s p f k true) ((BX s p f k true).length:Int) 0)
theorem sG (N:Nat) (q:Int) (l:List AD) (m:List AU) (a b c d e:Int) (p f:L8) (k:Int):BV prog hY (AC bQ) f121 [A9,.str,.str,IT] [.slice .str,.bool] N ((q,l,m,(a,b,c,d,e,()),()),p,f,k,())=zv N (q,l,m,(a,b,c,d,e,()),()) p f k:=by kernel_rfl
theorem AB2 (N:Nat) (o:List (L8)) (l:List AD) (m i:Int):lA (N+1) true o l m i=Il true l o m i (λa=>lA N true a l m (i+1)):=by kernel_rfl
theorem AB3 (N:Nat) (o:List (L8)) (l:List AD) (m i:Int):lA (N+1) false o l m i=Il false l o m i (λa=>lA N false a l m (i+1)):=by kernel_rfl
theorem x6 {s:BB} (h:BZ s=true) (p f:L8) (k:Int):zu (s,p,f,k,())=some (FH s p f k true,CP s p f k true,()):=by
 obtain⟨q,l,m,⟨a,b,c,d,e,⟨⟩⟩,⟨⟩⟩:=s;rw[sF,sG];unfold zv;have j:=D7 (s:=(q,l,m,(a,b,c,d,e,()),())) (p:=p) (f:=f) (k:=k) (b:=true);have g:(BX (q,l,m,(a,b,c,d,e,()),()) p f k true).length<AE:=Nat.lt_of_le_of_lt j (by unfold AE;omega);cases CP (q,l,m,(a,b,c,d,e,()),()) p f k true
 ·rw[xF,Ag h,xG];exact hU (h:=λN o i=>lA N false o (BX (q,l,m,(a,b,c,d,e,()),()) p f k true) _ i) (λN o i=>AB3 N o _ _ i) (by omega) _ 0 AE [] (Nat.zero_add _).symm g (Nat.le_refl _)
 ·rw[xT,Ag h,xG];exact hU (h:=λN o i=>lA N true o (BX (q,l,m,(a,b,c,d,e,()),()) p f k true) _ i) (λN o i=>AB2 N o _ _ i) (by omega) _ 0 AE [] (Nat.zero_add _).symm g (Nat.le_refl _)
theorem hZ:PC 121 KR:=(AN (sh:=AC bQ) (AG (l:=[(166,PN 167 true)]) ⟨sD,trivial⟩) AM func121 (by kernel_rfl) (by decide)).nice λ⟨s,p,f,k,()⟩ h=>x6 h p f k
def zw (x:AA [A9,.str,.str,IT]):PO:=fO prog (AL [(166,PN 168 false)]) (AC []) f122 [A9,.str,.str,IT] [.slice AB,.bool] x
def zx (s:BB) (p f:L8) (k:Int):PO:=bif CP s p f k false then gd [BZ s] (some (BX s p f k false,true,())) else gd [BZ s] (some (BX s p f k false,false,()))
theorem evs (q:Int) (l:List AD) (m:List AU) (a b c d e:Int) (p f:L8) (k:Int):zw ((q,l,m,(a,b,c,d,e,()),()),p,f,k,())=zx (q,l,m,(a,b,c,d,e,()),()) p f k:=by kernel_rfl
theorem AB4:PC 122 PP:=(AN (AG (l:=[(166,PN 168 false)]) ⟨sE,trivial⟩) AM func122 (by kernel_rfl) (by decide)).nice λ⟨⟨q,l,m,⟨a,b,c,d,e,()⟩,()⟩,p,f,k,()⟩ h=>by
 have h:BZ (q,l,m,(a,b,c,d,e,()),())=true:=h;show zw _=some (BX (q,l,m,(a,b,c,d,e,()),()) p f k false,CP (q,l,m,(a,b,c,d,e,()),()) p f k false,());rw[evs];unfold zx;cases CP (q,l,m,(a,b,c,d,e,()),()) p f k false
 ·rw[xF,Ag h,xG]
 ·rw[xT,Ag h,xG]
end Go.Proofs.YtkgejlchafionaaGreatDoor
namespace Nice
abbrev AO1:=Option (AA [Ah])
abbrev rT:=Option (AA [Gz])
def SY (a:Ak):Ak:=(a.1,cut a.2.1 42,a.2.2.1,cut a.2.2.2.1 302,a.2.2.2.2.1,cut a.2.2.2.2.2.1 10,cut a.2.2.2.2.2.2.1 42,cut a.2.2.2.2.2.2.2.1 42,a.2.2.2.2.2.2.2.2.1,a.2.2.2.2.2.2.2.2.2.1,())
def bR:PSpec:=⟨[Ah],[Ah],λ_=>true,λx=>(SY x.1,())⟩
def zSh:O2:=([],[],false,[],())
def sH (l:List (L8)):L8:=l.getD (l.length-1) Ty.str.dflt
def nA (l:List (L8)) (g:Bool):O2:=(l,[],g,bif g then sH l else [],())
def AB6 (l:List AD) (g:Bool):O2:=([],l,g,bif g then(AQ l (l.length-1)).1 else [],())
def DJ (s:BB) (a:Ak):O2:=bif a.1==4 then nA (FH s a.2.2.2.2.2.2.1 a.2.2.2.2.2.2.2.1 a.2.2.2.2.2.2.2.2.1 true) (CP s a.2.2.2.2.2.2.1 a.2.2.2.2.2.2.2.1 a.2.2.2.2.2.2.2.2.1 true)
 else bif a.1==5 then AB6 (BX s a.2.2.2.2.2.2.1 a.2.2.2.2.2.2.2.1 a.2.2.2.2.2.2.2.2.1 false) (CP s a.2.2.2.2.2.2.1 a.2.2.2.2.2.2.2.1 a.2.2.2.2.2.2.2.2.1 false) else zSh
def LF (s:BB) (a:Ak):O2:=bif Bb s then(bif EV a then DJ s a else zSh) else zSh
def Mh (s:BB) (a:Ak):Bool:=EF s&&ED a
def bS:PSpec:=⟨[A9,Ah],[Gz],λx=>Mh x.1 x.2.1,λx=>(LF x.1 x.2.1,())⟩
abbrev XR {α:Type} (l:List α):List Bool:=[decide (((l.length:Int)-1).toNat<l.length),decide (0<=(l.length:Int)-1),decide ((l.length:Int)-1<(l.length:Int)),decide (Ad .i64 ((l.length:Int)-1))]
theorem SZ {α β:Type} {l:List α} (b:0<l.length) (c:l.length<=1000) (a:List Bool) (y:Option β):gd (XR l++a) y=gd a y:=by
 unfold XR;simp only[List.cons_append,List.nil_append];rw[AP (by omega),AP (by omega),AP (by omega),AP (AH.2 ⟨by omega,by omega⟩)]
def xD (s:BB) (l:List (L8)) (g:Bool):rT:=bif g then gd (XR l++[BZ s]) (some ((l,[],true,l.getD ((l.length:Int)-1).toNat Ty.str.dflt,()),())) else gd [BZ s] (some ((l,[],false,[],()),()))
def xE (s:BB) (l:List AD) (g:Bool):rT:=bif g then gd (XR l++[BZ s]) (some (([],l,true,(l.getD ((l.length:Int)-1).toNat (AB).dflt).1,()),())) else gd [BZ s] (some (([],l,false,[],()),()))
theorem lB {s:BB} {l:List (L8)} {g:Bool} (a:BZ s=true) (b:l.length<=1000) (c:g=true->0<l.length):xD s l g=some (nA l g,()):=by
 unfold xD nA;cases g
 ·rw[xF,Ag a,xG];rfl
 ·have:=c rfl;rw[xT,SZ this b,Ag a,xG,show((l.length:Int)-1).toNat=l.length-1 by omega];rfl
theorem lC {s:BB} {l:List AD} {g:Bool} (a:BZ s=true) (b:l.length<=1000) (c:g=true->0<l.length):xE s l g=some (AB6 l g,()):=by
 unfold xE AB6;cases g
 ·rw[xF,Ag a,xG];rfl
 ·have:=c rfl;rw[xT,SZ this b,Ag a,xG,show((l.length:Int)-1).toNat=l.length-1 by omega];rfl
theorem IB {s:BB} {p f:L8} {k:Int} {b:Bool} (h:CP s p f k b=true):((BX s p f k b).length:Int)=CT k:=by
 have h:CT k<((mu s p f b).length:Int):=of_decide_eq_true h;have a:=MB k;unfold BX;rw[List.length_take];omega
theorem JP (k:Int):1<=CT k:=by unfold CT;omega
def bT (s:BB) (a:Ak):rT:=
 bif Bb s then(bif EV a then gd [ED a,EF s] (bif a.1==4 then xD s (FH s a.2.2.2.2.2.2.1 a.2.2.2.2.2.2.2.1 a.2.2.2.2.2.2.2.2.1 true) (CP s a.2.2.2.2.2.2.1 a.2.2.2.2.2.2.2.1 a.2.2.2.2.2.2.2.2.1 true)
  else bif a.1==5 then xE s (BX s a.2.2.2.2.2.2.1 a.2.2.2.2.2.2.2.1 a.2.2.2.2.2.2.2.2.1 false) (CP s a.2.2.2.2.2.2.1 a.2.2.2.2.2.2.2.1 a.2.2.2.2.2.2.2.2.1 false) else some (zSh,())) else gd [ED a,EF s] (some (zSh,()))) else gd [EF s] (some (zSh,()))
theorem h6 {s:BB} {a:Ak} (h:Mh s a=true):bT s a=some (LF s a,()):=by
 unfold Mh at h;rw[Bool.and_eq_true] at h;unfold bT LF;cases d:Bb s
 ·rw[xF,xF,Ag h.1,xG]
 rw[xT,xT];have c:=PQ d;cases EV a
 ·rw[xF,xF,Ag h.2,Ag h.1,xG]
 rw[xT,xT,Ag h.2,Ag h.1,xG];unfold DJ;cases a.1==4
 ·rw[xF,xF];cases a.1==5
  ·rw[xF,xF]
  ·rw[xT,xT];refine lC c (Nat.le_trans D7 (by omega)) λb=> ?_
   have:=IB b;have:=JP a.2.2.2.2.2.2.2.2.1;omega
 ·rw[xT,xT];refine lB c ?_ λb=> ?_
  ·unfold FH;rw[List.length_map];exact Nat.le_trans D7 (by omega)
  ·have:=IB b;have:=JP a.2.2.2.2.2.2.2.2.1;unfold FH;rw[List.length_map];omega
end Nice
namespace Go.Proofs.YtkgejlchafionaaGreatDoor
open Tryz
open Nice
theorem sJ:PC 12 Nv:=by
 have e:cj=Nv:=by
  unfold cj Nv;congr 1;funext x;rw[WJ];cases EV x.1<;>rfl
 rw[<-e];exact pT
def sK (x:AA [Ah]):AO1:=fO prog (AL [(22,PG)]) (AC []) f7 [Ah] [Ah] x
theorem sL (a:Int) (key:L8) (v:Int) (b:L8) (c:Int) (t p f:L8) (d:Int) (e:Bool):sK ((a,key,v,b,c,t,p,f,d,e,()),())=some (SY (a,key,v,b,c,t,p,f,d,e,()),()):=by kernel_rfl
theorem nC:PC 7 bR:=(AN (AG (l:=[(22,PG)]) ⟨cc,trivial⟩) AM func7 (by kernel_rfl) (by decide)).nice λ⟨⟨a,key,v,b,c,t,p,f,d,e,()⟩,()⟩ _=>sL a key v b c t p f d e
def sM (x:AA [A9,Ah]):rT:=fO prog (AL [(64,Ie),(12,Nv),(121,KR),(122,PP)]) (AC []) f79 [A9,Ah] [Gz] x
theorem sN (q:Int) (l:List AD) (m:List AU) (a b c d e g:Int) (key:L8) (v:Int) (h:L8) (i:Int) (t p f:L8) (j:Int) (k:Bool):sM ((q,l,m,(a,b,c,d,e,()),()),(g,key,v,h,i,t,p,f,j,k,()),())=bT (q,l,m,(a,b,c,d,e,()),()) (g,key,v,h,i,t,p,f,j,k,()):=by kernel_rfl
theorem nD:PC 79 bS:=(AN (AG (l:=[(64,Ie),(12,Nv),(121,KR),(122,PP)]) ⟨bL,sJ,hZ,AB4,trivial⟩) AM func79 (by kernel_rfl) (by decide)).nice λ⟨⟨q,l,m,⟨a,b,c,d,e,()⟩,()⟩,⟨g,key,v,i,j,t,p,f,k,n,()⟩,()⟩ h=>(sN q l m a b c d e g key v i j t p f k n).trans (h6 h)
end Go.Proofs.YtkgejlchafionaaGreatDoor
namespace Nice
abbrev ZW:Type:=Int×Int×Unit
def FI (n:Int):Int:=bif decide (n.tmod 65521<0) then n.tmod 65521+65521 else n.tmod 65521
def zB (z:ZW):Bool:=decide (0<=z.1/\z.1<=70000/\0<=z.2.1/\z.2.1<=70000)
def Gi (a b:ZW):ZW:=(FI (a.1+b.1),FI (a.2.1+b.2.1),())
def Ed (a b:ZW):ZW:=(FI (a.1*b.1-a.2.1*b.2.1),FI (a.1*b.2.1+a.2.1*b.1),())
def XS (z:ZW) (s:L8):ZW:=s.foldl (λz c=>Gi (Ed z (3,5,())) ((c.toNat:Int)+1,0,())) z
def x7:L8:=[48,49,50,51,52,53,54,55,56,57,97,98,99,100,101,102]
def Y3 (n:Int):UInt8:=UInt8.ofNat ((x7.getD n.toNat 0).toNat:Int).toNat
def D8 (n:Int):L8:=[Y3 ((n.tdiv 4096).tmod 16),Y3 ((n.tdiv 256).tmod 16),Y3 ((n.tdiv 16).tmod 16),Y3 (n.tmod 16)]
def Sa (n:Int):Bool:=decide (0<=n/\n<=70000)
def Sb (z:ZW):L8:=D8 z.1++D8 z.2.1
def HI (s:L8):ZW:=XS (0,1,()) s
def Im (s:L8):L8:=Sb (HI s)
abbrev Gs:Ty:=.pair (.int .i64) (.pair (.int .i64) .unit)
def bU:PSpec:=⟨[.int .i64],[.int .i64],λ_=>true,λx=>(FI x.1,())⟩
def PS:PSpec:=⟨[Gs,Gs],[Gs],λx=>zB x.1&&zB x.2.1,λx=>(Gi x.1 x.2.1,())⟩
def PT:PSpec:=⟨[Gs,Gs],[Gs],λx=>zB x.1&&zB x.2.1,λx=>(Ed x.1 x.2.1,())⟩
def x8:PSpec:=⟨[Gs,.str],[Gs],λx=>zB x.1&&AY x.2.1,λx=>(XS x.1 x.2.1,())⟩
def bV:PSpec:=⟨[.int .i64],[.str],λx=>Sa x.1,λx=>(D8 x.1,())⟩
def bW:PSpec:=⟨[Gs],[.str],λx=>zB x.1,λx=>(Sb x.1,())⟩
def bX:PSpec:=⟨[.str],[Gs],λx=>AY x.1,λx=>(HI x.1,())⟩
def Qy:PSpec:=⟨[.str],[.str],λx=>AY x.1,λx=>(Im x.1,())⟩
theorem VD (n:Int): -65521<n.tmod 65521/\n.tmod 65521<65521:=by
 rcases Int.le_total 0 n with h|h
 ·rw[Int.tmod_eq_emod_of_nonneg h];omega
 ·obtain⟨u,rfl⟩:∃u,n= -u:=⟨-n,by omega⟩
  rw[Int.neg_tmod,Int.tmod_eq_emod_of_nonneg (by omega)];omega
theorem HJ (n:Int):0<=FI n/\FI n<65521:=by
 have:=VD n;unfold FI;by_cases h:n.tmod 65521<0
 ·rw[Au h];omega
 ·rw[Av h];omega
theorem HK {z:ZW}:zB z=true↔(0<=z.1/\z.1<=70000/\0<=z.2.1/\z.2.1<=70000):=decide_eq_true_iff
theorem bY (a b:ZW):zB (Gi a b)=true:=by
 have c:=HJ (a.1+b.1);have d:=HJ (a.2.1+b.2.1);exact HK.2 ⟨c.1,by show FI _<=_;omega,d.1,by show FI _<=_;omega⟩
theorem nE (a b:ZW):zB (Ed a b)=true:=by
 have c:=HJ (a.1*b.1-a.2.1*b.2.1);have d:=HJ (a.1*b.2.1+a.2.1*b.1);exact HK.2 ⟨c.1,by show FI _<=_;omega,d.1,by show FI _<=_;omega⟩
theorem sP:∀(s:L8) (z:ZW),zB z=true->zB (XS z s)=true
 |[],_,h=>h
 |_::s,_,_=>sP s _ (bY _ _)
theorem Sc (s:L8):(Im s).length=8:=rfl
theorem HL {a b:Int} (d:0<=a) (e:a<=70000) (c:0<=b) (f:b<=70000):0<=a*b/\a*b<=4900000000:=
 ⟨Int.mul_nonneg d c,by
  have:=Int.mul_le_mul e f c (by omega);omega⟩
theorem Qz {n k:Int} (a:0<=n) (b:n<=70000) (c:1<=k):0<=n.tdiv k/\n.tdiv k<=70000:=by
 rw[Int.tdiv_eq_ediv_of_nonneg a];exact⟨Int.ediv_nonneg a (by omega),Int.le_trans (Int.ediv_le_self k a) b⟩
theorem Q0 {n:Int} (a:0<=n):0<=n.tmod 16/\n.tmod 16<16:=by
 rw[Int.tmod_eq_emod_of_nonneg a];omega
def un (w:Nat):Int:=(Rb w .i64).getD 0
def xH (lo a:Int) (w:Nat):Bool:=decide (w=fN (un w))&&(decide (lo<=un w)&&decide (un w<=a))
def rU (w:Nat):Bool:=xH 0 65520 w
def Y4 (w:Nat):Bool:=xH (-1125899906842624) 1125899906842624 w
def Lr (z:Nat×Nat):Bool:=rU z.1&&rU z.2
def cz (z:Nat×Nat):ZW:=(un z.1,un z.2,())
def cf (z:ZW):Nat×Nat:=(fN z.1,fN z.2.1)
def HN (w:Nat):Nat:=fN (FI (un w))
def bZ:PSpec:=⟨[.f64],[.f64],λx=>Y4 x.1,λx=>(HN x.1,())⟩
def Sd:PSpec:=⟨[.cx],[.cx],λx=>Y4 x.1.1&&Y4 x.1.2,λx=>((HN x.1.1,HN x.1.2),())⟩
def PU:PSpec:=⟨[.cx,.cx],[.cx],λx=>Lr x.1&&Lr x.2.1,λx=>(cf (Gi (cz x.1) (cz x.2.1)),())⟩
def PV:PSpec:=⟨[.cx,.cx],[.cx],λx=>Lr x.1&&Lr x.2.1,λx=>(cf (Ed (cz x.1) (cz x.2.1)),())⟩
def nF:PSpec:=⟨[.cx,.slice .byte],[.cx],λx=>Lr x.1&&AY x.2.1,λx=>(cf (XS (cz x.1) x.2.1),())⟩
def VE:PSpec:=⟨[.slice .byte],[.cx],λx=>AY x.1,λx=>(cf (HI x.1),())⟩
def VF:PSpec:=⟨[.cx],[.str],λx=>Lr x.1,λx=>(Sb (cz x.1),())⟩
def IY:PSpec:=⟨[.str],[.str],λx=>AY x.1,λx=>(Im x.1,())⟩
theorem DK {n:Int} (h:n.natAbs<2^53):un (fN n)=n:=by unfold un;rw[jA h];rfl
theorem XT {lo d:Int} {w:Nat} (e: -2000000000000000<=lo) (f:d<=2000000000000000):xH lo d w=true↔∃n:Int,lo<=n/\n<=d/\w=fN n:=by
 unfold xH;rw[Bool.and_eq_true,Bool.and_eq_true,decide_eq_true_eq,decide_eq_true_eq,decide_eq_true_eq];constructor
 ·rintro⟨a,b,c⟩;exact⟨un w,b,c,a⟩
 ·rintro⟨n,a,b,rfl⟩;rw[DK (by omega)];exact⟨rfl,a,b⟩
theorem Q1 {w:Nat}:rU w=true↔∃n:Int,0<=n/\n<=65520/\w=fN n:=XT (by decide) (by decide)
theorem MC {w:Nat}:Y4 w=true↔∃n:Int, -1125899906842624<=n/\n<=1125899906842624/\w=fN n:=XT (by decide) (by decide)
theorem Q2 {n:Int} (a: -1125899906842624<=n) (b:n<=1125899906842624):Y4 (fN n)=true:=MC.2 ⟨n,a,b,rfl⟩
theorem ba {n:Int} (a:0<=n) (b:n<=65520):rU (fN n)=true:=Q1.2 ⟨n,a,b,rfl⟩
theorem KS {z:ZW} (a:0<=z.1/\z.1<65521) (b:0<=z.2.1/\z.2.1<65521):Lr (cf z)=true:=by
 unfold Lr cf;rw[Bool.and_eq_true];exact⟨ba a.1 (by omega),ba b.1 (by omega)⟩
theorem PW {z:ZW} (c:0<=z.1/\z.1<65521) (d:0<=z.2.1/\z.2.1<65521):cz (cf z)=z:=by
 obtain⟨a,b,⟨⟩⟩:=z;show(un (fN a),un (fN b),())=(a,b,());have c:0<=a/\a<65521:=c;have d:0<=b/\b<65521:=d;rw[DK (by omega),DK (by omega)]
theorem bb (a b:ZW):(0<=(Gi a b).1/\(Gi a b).1<65521)/\0<=(Gi a b).2.1/\(Gi a b).2.1<65521:=⟨HJ _,HJ _⟩
theorem nG (a b:ZW):(0<=(Ed a b).1/\(Ed a b).1<65521)/\0<=(Ed a b).2.1/\(Ed a b).2.1<65521:=⟨HJ _,HJ _⟩
theorem KT {a b:Int} (c:0<=a) (g:a<=65520) (d:0<=b) (h:b<=65520):(BH (fN a)&&BH (fN b))=true/\K9 (fN a) (fN b)=true:=by
 obtain⟨e,f⟩:=mc c (by omega) d (by omega);refine⟨e,f.trans ?_⟩;rw[decide_eq_true (show a<65521 by omega),decide_eq_true (show b<65521 by omega)];rfl
theorem h7 {a b:Int} (c:0<=a) (d:0<=b) (h:a+b<9007199254740992):JO .add (fN a) (fN b)=true/\fA .add (fN a) (fN b)=fN (a+b):=by
 unfold JO fA;rw[yV c d h];exact⟨rfl,rfl⟩
theorem x9 {a b:Int} (c:0<=a) (d:0<=b) (e:a<9007199254740992) (f:b<9007199254740992):JO .sub (fN a) (fN b)=true/\fA .sub (fN a) (fN b)=fN (a-b):=by
 unfold JO fA;rw[yW c d e f];exact⟨rfl,rfl⟩
theorem h8 {a b:Int} (d:0<=a) (c:0<=b) (e:a<=65521) (f:b<=65521):JO .mul (fN a) (fN b)=true/\fA .mul (fN a) (fN b)=fN (a*b):=by
 have g:a*b<=65521*65521:=Int.mul_le_mul e f c (by decide);unfold JO fA;rw[yX d c (by omega) (by omega) (by omega)];exact⟨rfl,rfl⟩
theorem c50:(4832362400168542208:Nat)=fN 1125899906842624:=by decide
theorem yA:(14055734437023318016:Nat)=fN (-1125899906842624):=by decide
theorem c1:(4607182418800017408:Nat)=fN 1:=by decide
theorem c3:(4613937818241073152:Nat)=fN 3:=by decide
theorem c5:(4617315517961601024:Nat)=fN 5:=by decide
end Nice
namespace Go.Proofs.YtkgejlchafionaaGreatDoor
open Tryz
open Nice Go.RowKit
def lD (x:AA [.f64]):Option (AA [.f64]):=fO prog (AL []) (AC []) f295 [.f64] [.f64] x
theorem sQ (x:Nat):lD (x,())=gd [(Rb x .i64).isSome] (bif decide (((Rb x .i64).getD 0).tmod 65521<0) then gd [decide (Ad .i64 (((Rb x .i64).getD 0).tmod 65521+65521))] (some (fN (((Rb x .i64).getD 0).tmod 65521+65521),())) else some (fN (((Rb x .i64).getD 0).tmod 65521),())):=by kernel_rfl
theorem nH:PC 295 bZ:=(AN (AG (l:=[]) trivial) AM func295 (by kernel_rfl) (by decide)).nice λ⟨x,()⟩ h=>by
 obtain⟨n,c,d,rfl⟩:=MC.1 h;have e:=VD n;have a:un (fN n)=n:=DK (by omega);show lD _=some (fN (FI (un (fN n))),());rw[sQ,a,jA (by omega),Ag (b:=(some n).isSome) rfl,xG,Option.getD_some];unfold FI;by_cases h:n.tmod 65521<0
 ·rw[Au h,Au h,AP (AH.2 ⟨by omega,by omega⟩),xG]
 ·rw[Av h,Av h]
def lE (x:AA [.cx]):Option (AA [.cx]):=fO prog (AL [(195,JH),(295,bZ)]) (AC []) f272 [.cx] [.cx] x
theorem sS (a b:Nat):lE ((a,b),())=(bif Cq a 14055734437023318016 4832362400168542208 then(bif Cq b 14055734437023318016 4832362400168542208 then gd [Y4 b,Y4 a,BH b,BH a] (some ((HN a,HN b),())) else gd [BH b,BH a] (some ((0,0),()))) else gd [BH a] (some ((0,0),()))):=by kernel_rfl
theorem bc:PC 272 Sd:=(AN (AG (l:=[(195,JH),(295,bZ)]) ⟨YL,nH,trivial⟩) AM func272 (by kernel_rfl) (by decide)).nice λ⟨⟨a,b⟩,()⟩ h=>by
 have h:(Y4 a&&Y4 b)=true:=h;rw[Bool.and_eq_true] at h;obtain⟨n,c,d,rfl⟩:=MC.1 h.1;obtain⟨m,e,f,rfl⟩:=MC.1 h.2;have g:Cq (fN n) (fN (-1125899906842624)) (fN 1125899906842624)=true:=by
  rw[dB (by omega) (by decide) (by decide),decide_eq_true c,decide_eq_true d];rfl
 have i:Cq (fN m) (fN (-1125899906842624)) (fN 1125899906842624)=true:=by
  rw[dB (by omega) (by decide) (by decide),decide_eq_true e,decide_eq_true f];rfl
 show lE _=_;rw[sS,c50,yA,g,xT,i,xT,Ag h.2,Ag h.1,Ag (WM (by omega)).2,Ag (WM (by omega)).2,xG]
def lF (x:AA [.cx,.cx]):Option (AA [.cx]):=fO prog (AL [(149,Fx),(272,Sd)]) (AC []) f239 [.cx,.cx] [.cx] x
theorem sU (a b c d:Nat):lF ((a,b),(c,d),())=(bif K9 a b then(bif K9 c d then gd [Y4 (fA .add a c)&&Y4 (fA .add b d),JO .add a c,JO .add b d,BH c&&BH d,BH a&&BH b] (some ((HN (fA .add a c),HN (fA .add b d)),())) else gd [BH c&&BH d,BH a&&BH b] (some ((0,0),()))) else gd [BH a&&BH b] (some ((0,0),()))):=by kernel_rfl
def lG (x:AA [.cx,.cx]):Option (AA [.cx]):=fO prog (AL [(149,Fx),(272,Sd)]) (AC []) f240 [.cx,.cx] [.cx] x
theorem sV (a b c d:Nat):lG ((a,b),(c,d),())=(bif K9 a b then(bif K9 c d then gd [Y4 (fA .sub (fA .mul a c) (fA .mul b d))&&Y4 (fA .add (fA .mul a d) (fA .mul b c)),JO .mul a c,JO .mul b d,JO .sub (fA .mul a c) (fA .mul b d),JO .mul a d,JO .mul b c,JO .add (fA .mul a d) (fA .mul b c),BH c&&BH d,BH a&&BH b] (some ((HN (fA .sub (fA .mul a c) (fA .mul b d)),HN (fA .add (fA .mul a d) (fA .mul b c))),())) else gd [BH c&&BH d,BH a&&BH b] (some ((0,0),()))) else gd [BH a&&BH b] (some ((0,0),()))):=by kernel_rfl
theorem IC {z:Nat×Nat} (h:Lr z=true):∃a b:Int,(0<=a/\a<=65520)/\(0<=b/\b<=65520)/\z=(fN a,fN b):=by
 obtain⟨x,y⟩:=z;have h:(rU x&&rU y)=true:=h;rw[Bool.and_eq_true] at h;obtain⟨a,c,a2,rfl⟩:=Q1.1 h.1;obtain⟨b,d,e,rfl⟩:=Q1.1 h.2;exact⟨a,b,⟨c,a2⟩,⟨d,e⟩,rfl⟩
theorem nI:PC 239 PU:=(AN (AG (l:=[(149,Fx),(272,Sd)]) ⟨T4,bc,trivial⟩) AM func239 (by kernel_rfl) (by decide)).nice λ⟨z,u,()⟩ h=>by
 have h:(Lr z&&Lr u)=true:=h;rw[Bool.and_eq_true] at h;obtain⟨a,b,e,f,rfl⟩:=IC h.1;obtain⟨c,d,g,hd,rfl⟩:=IC h.2;obtain⟨i,j⟩:=KT e.1 e.2 f.1 f.2;obtain⟨k,m⟩:=KT g.1 g.2 hd.1 hd.2;obtain⟨o,p⟩:=h7 (a:=a) (b:=c) (by omega) (by omega) (by omega);obtain⟨q,r⟩:=h7 (a:=b) (b:=d) (by omega) (by omega) (by omega)
 have s:=Q2 (n:=a+c) (by omega) (by omega);have t:=Q2 (n:=b+d) (by omega) (by omega);show lF _=some (cf (Gi (un (fN a),un (fN b),()) (un (fN c),un (fN d),())),());rw[sU,j,xT,m,xT,p,r,Ag (by rw[s,t];rfl),Ag o,Ag q,Ag k,Ag i,xG,DK (by omega),DK (by omega),DK (by omega),DK (by omega)]
 unfold HN;rw[DK (by omega),DK (by omega)];rfl
theorem nJ:PC 240 PV:=(AN (AG (l:=[(149,Fx),(272,Sd)]) ⟨T4,bc,trivial⟩) AM func240 (by kernel_rfl) (by decide)).nice λ⟨z,u,()⟩ h=>by
 have h:(Lr z&&Lr u)=true:=h;rw[Bool.and_eq_true] at h;obtain⟨a,b,e,f,rfl⟩:=IC h.1;obtain⟨c,d,g,hd,rfl⟩:=IC h.2;obtain⟨i,j⟩:=KT e.1 e.2 f.1 f.2;obtain⟨k,m⟩:=KT g.1 g.2 hd.1 hd.2;obtain⟨o,p⟩:=h8 (a:=a) (b:=c) (by omega) (by omega) (by omega) (by omega);obtain⟨q,r⟩:=h8 (a:=b) (b:=d) (by omega) (by omega) (by omega) (by omega)
 obtain⟨s,t⟩:=h8 (a:=a) (b:=d) (by omega) (by omega) (by omega) (by omega);obtain⟨v,w⟩:=h8 (a:=b) (b:=c) (by omega) (by omega) (by omega) (by omega);have E:=HL (a:=a) (b:=c) (by omega) (by omega) (by omega) (by omega);have F:=HL (a:=b) (b:=d) (by omega) (by omega) (by omega) (by omega)
 have G:=HL (a:=a) (b:=d) (by omega) (by omega) (by omega) (by omega);have H:=HL (a:=b) (b:=c) (by omega) (by omega) (by omega) (by omega);obtain⟨x,y⟩:=x9 (a:=a*c) (b:=b*d) (by omega) (by omega) (by omega) (by omega);obtain⟨A,B⟩:=h7 (a:=a*d) (b:=b*c) (by omega) (by omega) (by omega)
 have C:=Q2 (n:=a*c-b*d) (by omega) (by omega);have D:=Q2 (n:=a*d+b*c) (by omega) (by omega);show lG _=some (cf (Ed (un (fN a),un (fN b),()) (un (fN c),un (fN d),())),());rw[sV,j,xT,m,xT,p,r,t,w,y,B,Ag (by rw[C,D];rfl),Ag o,Ag q,Ag x,Ag s,Ag v,Ag A,Ag k,Ag i,xG,DK (by omega),DK (by omega),DK (by omega),DK (by omega)]
 unfold HN;rw[DK (by omega),DK (by omega)];rfl
end Go.Proofs.YtkgejlchafionaaGreatDoor
namespace Nice
def lH (z:ZW) (c:UInt8):ZW:=Gi (Ed z (3,5,())) ((c.toNat:Int)+1,0,())
def Cj (n i:Int):Int:=IntKind.u8.wrap (IntKind.i64.wrap ((Nat.bitwise and (n.fdiv (2^min (4*i).toNat 64)%18446744073709551616).toNat 15:Nat):Int))
def Dl (d:Int):UInt8:=bif decide (d<10) then UInt8.ofNat (IntKind.u8.wrap (48+d)).toNat else UInt8.ofNat (IntKind.u8.wrap (IntKind.u8.wrap (97+d)-10)).toNat
abbrev TO:=Option (AA [.str])
def PX (n i:Int) (o:L8) (a:L8->TO) (fin:TO):TO:=
 bif decide (i>=0) then gd [decide (0<=4*i),decide (Ad .i64 (4*i))] (bif decide (Cj n i<10) then
     gd [decide (Ad .i64 (i-1)),decide ((2*(o.length+[UInt8.ofNat (IntKind.u8.wrap (48+Cj n i)).toNat].length)+400)*1<=281474976710656),decide (Ad .u8 (IntKind.u8.wrap (48+Cj n i)))] (a (o++[UInt8.ofNat (IntKind.u8.wrap (48+Cj n i)).toNat]))
  else gd [decide (Ad .i64 (i-1)),decide ((2*(o.length+[UInt8.ofNat (IntKind.u8.wrap (IntKind.u8.wrap (97+Cj n i)-10)).toNat].length)+400)*1<=281474976710656),decide (Ad .u8 (IntKind.u8.wrap (IntKind.u8.wrap (97+Cj n i)-10)))] (a (o++[UInt8.ofNat (IntKind.u8.wrap (IntKind.u8.wrap (97+Cj n i)-10)).toNat])))
 else fin
end Nice
namespace Go.Proofs.YtkgejlchafionaaGreatDoor
open Tryz
open Nice Go.RowKit
abbrev Se:List (Nat×List (Nat×Sh)):=[(4,[(0,(.one .sym)),(4,(.one .sym)),(10,(.one (.dat .byte))),(11,(.one .sym)),(12,(.one .sym))])]
def h9 (k a b c d:Nat) (l:L8) (m i:Int):Option (AA [.cx]):=rH prog (AL [(149,Fx),(239,PU),(240,PV)]) (AC Se) f200 [.cx] k 0 [(0,sy (.complex .f64 a b)),(4,sy (.complex .f64 c d)),(10,dt 10),(11,sy (.int .i64 m)),(12,sy (.int .i64 i))] [.dat .byte l]
def sW (x:AA [.cx,.slice .byte]):Option (AA [.cx]):=fO prog (AL [(149,Fx),(239,PU),(240,PV)]) (AC Se) f200 [.cx,.slice .byte] [.cx] x
theorem AB7 (N a b:Nat) (l:L8):BV prog (AL [(149,Fx),(239,PU),(240,PV)]) (AC Se) f200 [.cx,.slice .byte] [.cx] N ((a,b),l,())=
 (bif K9 a b then gd [BH a&&BH b] (h9 N a b 0 0 l (l.length:Int) 0) else gd [BH a&&BH b] (some ((0,0),()))):=by kernel_rfl
theorem nL (x:AA [.cx,.slice .byte]):sW x=BV prog (AL [(149,Fx),(239,PU),(240,PV)]) (AC Se) f200 [.cx,.slice .byte] [.cx] AE x:=rfl
theorem bd (k a b c d:Nat) (l:L8) (m i:Int) {Qb}[Qb':QA (fN ((l.getD i.toNat Ty.byte.dflt).toNat:Int)) Qb] {Qd}[Qd':QA (fA .add Qb 4607182418800017408,0) Qd] {Qc}[Qc':QA (4613937818241073152,4617315517961601024) Qc] {Qe}[Qe':QA (cf (Ed (cz (a,b)) (cz Qc))) Qe] {Qa}[Qa':QA (cf (Gi (cz Qe) (cz Qd))) Qa]:h9 (k+1) a b c d l m i= (bif decide (i<m) then gd [decide (Ad .i64 (i+1)),Lr Qe&&Lr Qd,JO .add Qb 4607182418800017408,Lr (a,b)&&Lr Qc,decide (i.toNat<l.length),decide (0<=i),decide (i<(l.length:Int))] (h9 k Qa.1 Qa.2 c d l m (i+1)) else some ((a,b),())):=by obtain ⟨rfl⟩:=Qa';obtain ⟨rfl⟩:=Qe';obtain ⟨rfl⟩:=Qc';obtain ⟨rfl⟩:=Qd';obtain ⟨rfl⟩:=Qb';kernel_rfl
theorem sX (c d:Nat) (l:L8) (C:l.length<=140737488355328):∀(r i k:Nat) (z:ZW),l.length=i+r->r<k->(0<=z.1/\z.1<65521)->(0<=z.2.1/\z.2.1<65521)->h9 k (cf z).1 (cf z).2 c d l (l.length:Int) (i:Int)=some (cf (XS z (l.drop i)),()):=by
 intro r
 induction r with
 |zero=>
  intro i k z p q f g;obtain⟨k,rfl⟩:∃m,k=m+1:=⟨k-1,by omega⟩
  rw[bd,Av (by omega),List.drop_eq_nil_of_le (by omega)];rfl
 |succ r s=>
  intro i k z p q f g;obtain⟨k,rfl⟩:∃m,k=m+1:=⟨k-1,by omega⟩
  have e:i<l.length:=by omega
  have hd:l.drop i=l.getD i Ty.byte.dflt::l.drop (i+1):=by
   rw[List.drop_eq_getElem_cons e,List.getD_eq_getElem?_getD,List.getElem?_eq_getElem e];rfl
  have D:=(l.getD i Ty.byte.dflt).toNat_lt;obtain⟨g1,t⟩:=bb (Ed z (3,5,())) (((l.getD i Ty.byte.dflt).toNat:Int)+1,0,());obtain⟨h,j⟩:=nG z (3,5,());have key:=s (i+1) k (lH z (l.getD i Ty.byte.dflt)) (by omega) (by omega) g1 t;simp only[Int.natCast_add,Int.natCast_one] at key;obtain⟨n,o⟩:=h7 (a:=((l.getD i Ty.byte.dflt).toNat:Int)) (b:=1) (by omega) (by omega) (by omega)
  have u:cz ((cf z).1,(cf z).2)=z:=PW f g;have v:cz (4613937818241073152,4617315517961601024)=(3,5,()):=by
   rw[c3,c5];exact PW (z:=(3,5,())) (by decide) (by decide)
  have w:cz (fN (((l.getD i Ty.byte.dflt).toNat:Int)+1),0)=(((l.getD i Ty.byte.dflt).toNat:Int)+1,0,()):=PW (z:=(((l.getD i Ty.byte.dflt).toNat:Int)+1,0,())) ⟨by show(0:Int)<=_+1;omega,by show _+(1:Int)<_;omega⟩ ⟨Int.le_refl 0,(by decide:(0:Int)<65521)⟩;have x:Lr ((cf z).1,(cf z).2)=true:=KS f g
  have y:Lr (4613937818241073152,4617315517961601024)=true:=by
   rw[c3,c5];exact KS (z:=(3,5,())) (by decide) (by decide)
  have A:Lr (fN (((l.getD i Ty.byte.dflt).toNat:Int)+1),0)=true:=KS (z:=(((l.getD i Ty.byte.dflt).toNat:Int)+1,0,())) ⟨by show(0:Int)<=_+1;omega,by show _+(1:Int)<_;omega⟩ ⟨Int.le_refl 0,(by decide:(0:Int)<65521)⟩;have B:=KS h j;rw[bd,Au (by omega),show(i:Int).toNat=i from rfl];rw[<-c1] at n o
  rw[o,u,v,w,PW h j,AP (AH.2 ⟨by omega,by omega⟩),Ag (by rw[B,A];rfl),Ag n,Ag (by rw[x,y];rfl),AP e,AP (by omega),AP (by omega),xG,hd];exact key
theorem sY:PC 200 nF:=(AN (sh:=AC Se) (AG (l:=[(149,Fx),(239,PU),(240,PV)]) ⟨T4,nI,nJ,trivial⟩) AM func200 (by kernel_rfl) (by decide)).nice λ⟨z,l,()⟩ h=>by
 have h:(Lr z&&AY l)=true:=h;rw[Bool.and_eq_true] at h;have e:l.length<=140737488355328:=of_decide_eq_true h.2;obtain⟨a,b,c,d,rfl⟩:=IC h.1;obtain⟨f,g⟩:=KT c.1 c.2 d.1 d.2;show sW _=some (cf (XS (un (fN a),un (fN b),()) l),());rw[nL,AB7,g,xT,Ag f,xG,DK (by omega),DK (by omega)]
 exact sX 0 0 l e l.length 0 AE (a,b,()) (by omega) (by unfold AE;omega) ⟨c.1,by show a<65521;omega⟩ ⟨d.1,by show b<65521;omega⟩
def ABN (x:AA [.slice .byte]):Option (AA [.cx]):=fO prog (AL [(200,nF)]) (AC []) f161 [.slice .byte] [.cx] x
theorem nM (l:L8):ABN (l,())=gd [Lr (0,4607182418800017408)&&AY l] (some (cf (XS (cz (0,4607182418800017408)) l),())):=by kernel_rfl
theorem iA:PC 161 VE:=(AN (AG (l:=[(200,nF)]) ⟨sY,trivial⟩) AM func161 (by kernel_rfl) (by decide)).nice λ⟨l,()⟩ h=>by
 have h:AY l=true:=h;have e:cz (0,4607182418800017408)=(0,1,()):=by
  rw[c1];exact PW (z:=(0,1,())) (by decide) (by decide)
 have o:Lr (0,4607182418800017408)=true:=by
  rw[c1];exact KS (z:=(0,1,())) (by decide) (by decide)
 show ABN _=some (cf (XS (0,1,()) l),());rw[nM,e,Ag (by rw[o,h];rfl),xG]
abbrev bf:List (Nat×List (Nat×Sh)):=[(9,[(2,(.one .sym)),(3,(.one (.vec .byte 5))),(6,(.one .sym)),(7,(.one .sym)),(16,(.agg [.sym,.sym])),(17,(.one .any))])]
def FJ (k:Nat) (j:Int) (t o:L8) (n i:Int) (a b:Nat):TO:=rH prog (AL [(149,Fx)]) (AC bf) f160 [.str] k 1 [(2,sy (.string (bs t))),(3,dt 10),(6,sy (.int .i64 n)),(7,sy (.int .i64 i)),(16,.agg #[sy (.float .f64 a),sy (.float .f64 b)]),(17,.int .i64 j)] [.vec .byte o 5]
def zy (x:AA [.cx]):TO:=fO prog (AL [(149,Fx)]) (AC bf) f160 [.cx] [.str] x
theorem sZ (x:AA [.cx]):zy x=BV prog (AL [(149,Fx)]) (AC bf) f160 [.cx] [.str] AE x:=rfl
theorem sa (N a b:Nat):BV prog (AL [(149,Fx)]) (AC bf) f160 [.cx] [.str] N ((a,b),())=
 (bif K9 a b then gd [(Rb a .i64).isSome,BH a&&BH b] (FJ N 0 [] [] ((Rb a .i64).getD 0) 3 a b) else gd [BH a&&BH b] (some ([],()))):=by kernel_rfl
theorem Sf (k:Nat) (t o:L8) (n i:Int) (a b:Nat):FJ (k+1) 0 t o n i a b=PX n i o (λc=>FJ k 0 t c n (i-1) a b) (gd [(Rb b .i64).isSome] (FJ k 1 t o ((Rb b .i64).getD 0) 3 a b)):=by kernel_rfl
theorem Sg (k:Nat) (t o:L8) (n i:Int) (a b:Nat):FJ (k+1) 1 t o n i a b=PX n i o (λc=>FJ k 1 t c n (i-1) a b) (some (o,())):=by kernel_rfl
open Nice
def sb (x:AA [.int .i64]):Option (AA [.int .i64]):=fO prog (AL []) (AC []) f194 [.int .i64] [.int .i64] x
theorem yB (n:Int):sb (n,())=(bif decide (n.tmod 65521<0) then gd [decide (Ad .i64 (n.tmod 65521+65521))] (some (n.tmod 65521+65521,())) else some (n.tmod 65521,())):=by kernel_rfl
theorem lI:PC 194 bU:=(AN (AG (l:=[]) trivial) AM func194 (by kernel_rfl) (by decide)).nice λ⟨n,()⟩ _=>by
 have:=VD n;show sb _=some (FI n,());rw[yB];unfold FI;by_cases h:n.tmod 65521<0
 ·rw[Au h,Au h,AP (AH.2 ⟨by omega,by omega⟩),BM]
 ·rw[Av h,Av h]
def lJ (x:AA [Gs,Gs]):Option (AA [Gs]):=fO prog (AL [(194,bU)]) (AC []) f145 [Gs,Gs] [Gs] x
theorem sc (a b c d:Int):lJ ((a,b,()),(c,d,()),())=gd [decide (Ad .i64 (b+d)),decide (Ad .i64 (a+c))] (some ((FI (a+c),FI (b+d),()),())):=by kernel_rfl
theorem nN:PC 145 PS:=(AN (AG (l:=[(194,bU)]) ⟨lI,trivial⟩) AM func145 (by kernel_rfl) (by decide)).nice λ⟨⟨a,b,()⟩,⟨c,d,()⟩,()⟩ h=>by
 have h:(zB (a,b,())&&zB (c,d,()))=true:=h;rw[Bool.and_eq_true,HK,HK] at h;obtain⟨⟨e,f,g,i⟩,j,k,m,n⟩:=h;dsimp only at e f g i j k m n;show lJ _=_;rw[sc,AP (AH.2 ⟨by omega,by omega⟩),AP (AH.2 ⟨by omega,by omega⟩),BM];rfl
def lK (x:AA [Gs,Gs]):Option (AA [Gs]):=fO prog (AL [(194,bU)]) (AC []) f146 [Gs,Gs] [Gs] x
theorem sd (a b c d:Int):lK ((a,b,()),(c,d,()),())=gd [decide (Ad .i64 (a*d+b*c)),decide (Ad .i64 (b*c)),decide (Ad .i64 (a*d)),decide (Ad .i64 (a*c-b*d)),decide (Ad .i64 (b*d)),decide (Ad .i64 (a*c))] (some ((FI (a*c-b*d),FI (a*d+b*c),()),())):=by kernel_rfl
theorem AB8:PC 146 PT:=(AN (AG (l:=[(194,bU)]) ⟨lI,trivial⟩) AM func146 (by kernel_rfl) (by decide)).nice λ⟨⟨a,b,()⟩,⟨c,d,()⟩,()⟩ h=>by
 have h:(zB (a,b,())&&zB (c,d,()))=true:=h;rw[Bool.and_eq_true,HK,HK] at h;obtain⟨⟨e,f,g,i⟩,j,k,m,n⟩:=h;dsimp only at e f g i j k m n;obtain⟨o,p⟩:=HL e f j k;obtain⟨q,r⟩:=HL g i m n;obtain⟨s,t⟩:=HL e f m n;obtain⟨u,v⟩:=HL g i j k;show lK _=_
 rw[sd,AP (AH.2 ⟨by omega,by omega⟩),AP (AH.2 ⟨by omega,by omega⟩),AP (AH.2 ⟨by omega,by omega⟩),AP (AH.2 ⟨by omega,by omega⟩),AP (AH.2 ⟨by omega,by omega⟩),AP (AH.2 ⟨by omega,by omega⟩),BM];rfl
abbrev bg:List (Nat×List (Nat×Sh)):=[(2,[(1,(.one .sym)),(2,(.obj [.sym,.sym])),(4,(.obj [.sym,.sym])),(5,(.one .sym))])]
def XU (n:Nat) (t1:L8) (t2_0 t2_1 t4_0 t4_1 t5:Int):Option (AA [Gs]):=rH prog (AL [(145,PS),(146,PT)]) (AC bg) f97 [Gs] n 0 [(1,sy (.string (bs t1))),(2,.pointer (some ⟨10,0,none⟩)),(4,.pointer (some ⟨11,0,none⟩)),(5,sy (.int .i64 t5))] [.row [sy (.int .i64 t2_0),sy (.int .i64 t2_1)] 78 false,.row [sy (.int .i64 t4_0),sy (.int .i64 t4_1)] 78 false]
def zz (x:AA [Gs,.str]):Option (AA [Gs]):=fO prog (AL [(145,PS),(146,PT)]) (AC bg) f97 [Gs,.str] [Gs] x
theorem se (a b:Int) (s:L8):∀N:Nat,BV prog (AL [(145,PS),(146,PT)]) (AC bg) f97 [Gs,.str] [Gs] N ((a,b,()),s,())=XU N s a b 0 0 0:=λN=>by kernel_rfl
theorem sf (x:AA [Gs,.str]):zz x=BV prog (AL [(145,PS),(146,PT)]) (AC bg) f97 [Gs,.str] [Gs] AE x:=rfl
def Q3 (a b:Int) (c:UInt8):ZW:=Gi (Ed (a,b,()) (3,5,())) ((c.toNat:Int)+1,0,())
theorem lL (n:Nat) (t1:L8) (a b c d i:Int) {Qa}[Qa':QA (t1.getD i.toNat 0) Qa]:XU (n+1) t1 a b c d i= (bif decide (i<(t1.length:Int)) then gd [decide (Ad .i64 (i+1)),zB (Ed (a,b,()) (3,5,()))&&zB ((Qa.toNat:Int)+1,0,()),decide (Ad .i64 ((Qa.toNat:Int)+1)),decide (Ad .i64 (Qa.toNat:Int)),decide (0<=i),decide (i<(t1.length:Int)),zB (a,b,())&&zB (3,5,())] (XU n t1 (Q3 a b Qa).1 (Q3 a b Qa).2.1 c d (i+1)) else some ((a,b,()),())):=by obtain ⟨rfl⟩:=Qa';kernel_rfl
theorem yC (s:L8) (o:s.length<=140737488355328):∀(r i n:Nat) (a b c d:Int),s.length=i+r->r<n->zB (a,b,())=true->XU n s a b c d (i:Int)=some (XS (a,b,()) (s.drop i),()):=by
 intro r
 induction r with
 |zero=>
  intro i n a b c d h j f;obtain⟨n,rfl⟩:∃k,n=k+1:=⟨n-1,by omega⟩
  rw[lL,Av (by omega),List.drop_eq_nil_of_le (by omega)];rfl
 |succ r l=>
  intro i n a b c d h j f;obtain⟨n,rfl⟩:∃k,n=k+1:=⟨n-1,by omega⟩
  have g:i<s.length:=by omega
  have p:((s.getD i 0).toNat:Int)<=255:=by have:=(s.getD i 0).toNat_lt;omega
  have m:(0:Int)<=((s.getD i 0).toNat:Int):=by omega
  have hd:s.drop i=s.getD i 0::s.drop (i+1):=by
   rw[List.drop_eq_getElem_cons g,List.getD_eq_getElem?_getD,List.getElem?_eq_getElem g];rfl
  have SQ:=bY (Ed (a,b,()) (3,5,())) (((s.getD i 0).toNat:Int)+1,0,());have e:zB (((s.getD i 0).toNat:Int)+1,0,())=true:=HK.2 ⟨by show(0:Int)<=_+1;omega,by show _+(1:Int)<=_;omega,Int.le_refl 0,(by decide:(0:Int)<=70000)⟩;have key:=l (i+1) n (Q3 a b (s.getD i 0)).1 (Q3 a b (s.getD i 0)).2.1 c d (by omega) (by omega) SQ
  rw[lL,Au (by omega),show(i:Int).toNat=i from rfl,AP (AH.2 ⟨by omega,by omega⟩),Ag (by rw[nE,e];rfl),AP (AH.2 ⟨by omega,by omega⟩),AP (AH.2 ⟨by omega,by omega⟩),AP (by omega),AP (by omega),Ag (by rw[f];rfl),BM];simp only[Int.natCast_add,Int.natCast_one] at key;rw[key,hd];rfl
theorem yD:PC 97 x8:=(AN (sh:=AC bg) (AG (l:=[(145,PS),(146,PT)]) ⟨nN,AB8,trivial⟩) AM func97 (by kernel_rfl) (by decide)).nice λ⟨⟨a,b,()⟩,s,()⟩ h=>by
 have h:(zB (a,b,())&&AY s)=true:=h;rw[Bool.and_eq_true] at h;have c:s.length<=140737488355328:=of_decide_eq_true h.2;show zz _=_;rw[sf,se];exact yC s c s.length 0 AE a b 0 0 (by omega) (by unfold AE;omega) h.1
def lM (x:AA [.int .i64]):Option (AA [.str]):=fO prog (AL []) (AC []) f96 [.int .i64] [.str] x
theorem sg (n:Int):lM (n,())=gd [decide (0<=n.tmod 16),decide (n.tmod 16<16),decide (0<=(n.tdiv 16).tmod 16),decide ((n.tdiv 16).tmod 16<16),decide (Ad .i64 (n.tdiv 16)),decide (0<=(n.tdiv 256).tmod 16),decide ((n.tdiv 256).tmod 16<16),decide (Ad .i64 (n.tdiv 256)),decide (0<=(n.tdiv 4096).tmod 16),decide ((n.tdiv 4096).tmod 16<16),decide (Ad .i64 (n.tdiv 4096))] (some (D8 n,())):=by kernel_rfl
theorem nP:PC 96 bV:=(AN (AG (l:=[]) trivial) AM func96 (by kernel_rfl) (by decide)).nice λ⟨n,()⟩ h=>by
 obtain⟨a,b⟩:0<=n/\n<=70000:=of_decide_eq_true h;obtain⟨g,a2⟩:=Qz a b (by decide:(1:Int)<=16);obtain⟨i,j⟩:=Qz a b (by decide:(1:Int)<=256);obtain⟨c1,c2⟩:=Qz a b (by decide:(1:Int)<=4096);have c:=Q0 a;have d:=Q0 g;have e:=Q0 i;have f:=Q0 c1;show lM _=_;rw[sg,AP c.1,AP c.2,AP d.1,AP d.2,AP (AH.2 ⟨by omega,by omega⟩),AP e.1,AP e.2,AP (AH.2 ⟨by omega,by omega⟩),AP f.1,AP f.2,AP (AH.2 ⟨by omega,by omega⟩),BM]
def lN (x:AA [Gs]):Option (AA [.str]):=fO prog (AL [(96,bV)]) (AC []) f55 [Gs] [.str] x
theorem si (a b:Int):lN ((a,b,()),())=gd [decide ((D8 a).length+(D8 b).length<=1099511627776),Sa b,Sa a] (some (D8 a++D8 b,())):=by kernel_rfl
theorem nQ:PC 55 bW:=(AN (AG (l:=[(96,bV)]) ⟨nP,trivial⟩) AM func55 (by kernel_rfl) (by decide)).nice λ⟨⟨a,b,()⟩,()⟩ h=>by
 obtain⟨c,d,e,f⟩:=HK.1 h;show lN _=_;rw[si,AP (show(D8 a).length+(D8 b).length<=1099511627776 from(by decide:4+4<=1099511627776)),Ag (show Sa b=true from decide_eq_true ⟨e,f⟩),Ag (show Sa a=true from decide_eq_true ⟨c,d⟩),BM];rfl
def lO (x:AA [.str]):Option (AA [Gs]):=fO prog (AL [(97,x8)]) (AC []) f56 [.str] [Gs] x
theorem sj (s:L8):lO (s,())=gd [zB (0,1,())&&AY s] (some (XS (0,1,()) s,())):=by kernel_rfl
theorem nR:PC 56 bX:=(AN (AG (l:=[(97,x8)]) ⟨yD,trivial⟩) AM func56 (by kernel_rfl) (by decide)).nice λ⟨s,()⟩ h=>by
 have h:AY s=true:=h;show lO _=_;rw[sj,Ag (by rw[h];rfl),BM];rfl
def sk (x:AA [.str]):Option (AA [.str]):=fO prog (AL [(55,bW),(56,bX)]) (AC []) f30 [.str] [.str] x
theorem yE (s:L8):sk (s,())=gd [zB (HI s),AY s] (some (Im s,())):=by kernel_rfl
theorem XV:PC 30 Qy:=(AN (AG (l:=[(55,bW),(56,bX)]) ⟨nQ,nR,trivial⟩) AM func30 (by kernel_rfl) (by decide)).nice λ⟨s,()⟩ h=>by
 have h:AY s=true:=h;show sk _=_;rw[yE,Ag (show zB (HI s)=true from sP s _ (by decide)),Ag h,BM]
end Go.Proofs.YtkgejlchafionaaGreatDoor
namespace Nice
theorem MD {n k:Nat} {i:Int} (h:n<65536) (a:(4*i).toNat=k) (b:k<=12):Cj (n:Int) i=((n/2^k%16:Nat):Int):=by
 unfold Cj;rw[a,Nat.min_eq_left (by omega)];have c:((n:Int).fdiv (2^k))=((n/2^k:Nat):Int):=by
  have d:(2:Int)^k=((2^k:Nat):Int):=by rw[Int.natCast_pow];rfl
  rw[d,Int.fdiv_eq_ediv_of_nonneg _ (Int.natCast_nonneg _),Int.natCast_ediv]
 have e:n/2^k<=n:=Nat.div_le_self ..;rw[c];generalize n/2^k=q at e⊢;have f:((q:Int)%18446744073709551616).toNat=q:=by omega
 have g:Nat.bitwise and q 15=q%16:=Nat.and_two_pow_sub_one_eq_mod q 4;rw[f,g,Hj (AH.2 ⟨by omega,by omega⟩),Hj (JD.2 ⟨by omega,by omega⟩)]
theorem iB:(List.range 16).all (λd=>Dl (d:Int)==Y3 (d:Int))=true:=by kernel_rfl
theorem Q5 {d:Nat} (h:d<16):Dl (d:Int)=Y3 (d:Int):=beq_iff_eq.1 (List.all_eq_true.1 iB d (List.mem_range.2 h))
theorem XW {n:Nat} (c:n<65536):D8 (n:Int)=[Dl (Cj (n:Int) 3),Dl (Cj (n:Int) 2),Dl (Cj (n:Int) 1),Dl (Cj (n:Int) 0)]:=by
 rw[MD (k:=12) c rfl (by decide),MD (k:=8) c rfl (by decide),MD (k:=4) c rfl (by decide),MD (k:=0) c rfl (by decide),Q5 (Nat.mod_lt _ (by decide)),Q5 (Nat.mod_lt _ (by decide)),Q5 (Nat.mod_lt _ (by decide)),Q5 (Nat.mod_lt _ (by decide))];have t:∀a b:Nat,((a:Int).tdiv (b:Int)).tmod 16=((a/b%16:Nat):Int):=λa b=>by
  rw[Int.tdiv_eq_ediv_of_nonneg (Int.natCast_nonneg a),<-Int.natCast_ediv,Int.tmod_eq_emod_of_nonneg (Int.natCast_nonneg _)];rfl
 unfold D8;have t0:((n:Int)).tmod 16=((n/1%16:Nat):Int):=by
  rw[Int.tmod_eq_emod_of_nonneg (Int.natCast_nonneg _),Nat.div_one];rfl
 rw[t0,show((n:Int).tdiv 4096).tmod 16=_ from t n 4096,show((n:Int).tdiv 256).tmod 16=_ from t n 256,show((n:Int).tdiv 16).tmod 16=_ from t n 16]
theorem E3 {n:Nat} {i:Int} {o:L8} {a:L8->TO} {fin:TO} (b:0<=i) (c:i<=3) (d:o.length<=100):PX (n:Int) i o a fin=a (o++[Dl (Cj (n:Int) i)]):=by
 unfold PX Dl;rw[Au b,AP (by omega),AP (AH.2 ⟨by omega,by omega⟩),xG];by_cases h:Cj (n:Int) i<10
 ·rw[Au h,Au h,AP (AH.2 ⟨by omega,by omega⟩),AP (by rw[List.length_singleton];omega),AP (JD.2 (by rw[MW];omega)),xG]
 ·rw[Av h,Av h,AP (AH.2 ⟨by omega,by omega⟩),AP (by rw[List.length_singleton];omega),AP (JD.2 (by rw[MW];omega)),xG]
theorem XX {n i:Int} {o:L8} {a:L8->TO} {fin:TO} (b:¬i>=0):PX n i o a fin=fin:=by
 unfold PX;rw[Av b]
end Nice
namespace Go.Proofs.YtkgejlchafionaaGreatDoor
open Tryz
open Nice Go.RowKit
theorem yH (k:Nat) (t o:L8) {n:Nat} (c:n<65536) (d:o.length<=50) (a b:Nat):FJ (k+5) 0 t o (n:Int) 3 a b=gd [(Rb b .i64).isSome] (FJ k 1 t (o++D8 (n:Int)) ((Rb b .i64).getD 0) 3 a b):=by
 have l:∀(o:L8) (x:UInt8),(o++[x]).length=o.length+1:=λo x=>by rw[List.length_append];rfl
 rw[Sf,E3 (by decide) (by decide) (by omega)];show FJ (k+4) 0 t (o++[Dl (Cj (n:Int) 3)]) (n:Int) 2 a b=_;rw[Sf,E3 (by decide) (by decide) (by rw[l];omega)];show FJ (k+3) 0 t (o++[Dl (Cj (n:Int) 3)]++[Dl (Cj (n:Int) 2)]) (n:Int) 1 a b=_;rw[Sf,E3 (by decide) (by decide) (by rw[l,l];omega)]
 show FJ (k+2) 0 t (o++[Dl (Cj (n:Int) 3)]++[Dl (Cj (n:Int) 2)]++[Dl (Cj (n:Int) 1)]) (n:Int) 0 a b=_;rw[Sf,E3 (by decide) (by decide) (by rw[l,l,l];omega)];show FJ (k+1) 0 t (o++[Dl (Cj (n:Int) 3)]++[Dl (Cj (n:Int) 2)]++[Dl (Cj (n:Int) 1)]++[Dl (Cj (n:Int) 0)]) (n:Int) (-1) a b=_
 rw[Sf,XX (by decide),XW c];simp only[List.append_assoc,List.cons_append,List.nil_append]
theorem yI (k:Nat) (t o:L8) {n:Nat} (c:n<65536) (d:o.length<=50) (a b:Nat):FJ (k+5) 1 t o (n:Int) 3 a b=some (o++D8 (n:Int),()):=by
 have l:∀(o:L8) (x:UInt8),(o++[x]).length=o.length+1:=λo x=>by rw[List.length_append];rfl
 rw[Sg,E3 (by decide) (by decide) (by omega)];show FJ (k+4) 1 t (o++[Dl (Cj (n:Int) 3)]) (n:Int) 2 a b=_;rw[Sg,E3 (by decide) (by decide) (by rw[l];omega)];show FJ (k+3) 1 t (o++[Dl (Cj (n:Int) 3)]++[Dl (Cj (n:Int) 2)]) (n:Int) 1 a b=_;rw[Sg,E3 (by decide) (by decide) (by rw[l,l];omega)]
 show FJ (k+2) 1 t (o++[Dl (Cj (n:Int) 3)]++[Dl (Cj (n:Int) 2)]++[Dl (Cj (n:Int) 1)]) (n:Int) 0 a b=_;rw[Sg,E3 (by decide) (by decide) (by rw[l,l,l];omega)];show FJ (k+1) 1 t (o++[Dl (Cj (n:Int) 3)]++[Dl (Cj (n:Int) 2)]++[Dl (Cj (n:Int) 1)]++[Dl (Cj (n:Int) 0)]) (n:Int) (-1) a b=_
 rw[Sg,XX (by decide),XW c];simp only[List.append_assoc,List.cons_append,List.nil_append]
theorem bh:∃m,AE=m+5+5:=⟨AE-10,by unfold AE;omega⟩
theorem iC:PC 160 VF:=(AN (sh:=AC bf) (AG (l:=[(149,Fx)]) ⟨T4,trivial⟩) AM func160 (by kernel_rfl) (by decide)).nice λ⟨z,()⟩ h=>by
 obtain⟨a,b,c,d,rfl⟩:=IC h;obtain⟨e,f⟩:=KT c.1 c.2 d.1 d.2;obtain⟨n,rfl⟩:∃n:Nat,a=(n:Int):=⟨a.toNat,by omega⟩
 obtain⟨m,rfl⟩:∃n:Nat,b=(n:Int):=⟨b.toNat,by omega⟩
 obtain⟨K,g⟩:=bh;show zy _=some (D8 (un (fN (n:Int)))++D8 (un (fN (m:Int))),());rw[sZ,sa,f,xT,jA (by omega),Ag (b:=(some (n:Int)).isSome) rfl,Ag e,xG,Option.getD_some,g,yH _ _ _ (by omega) (by decide),jA (by omega),Ag (b:=(some (m:Int)).isSome) rfl,xG,Option.getD_some,yI _ _ _ (by omega) (by show([]++D8 (n:Int)).length<=50;exact(by decide:4<=50)),DK (by omega),DK (by omega)]
 rfl
def lP (x:AA [.str]):TO:=fO prog (AL [(160,VF),(161,VE)]) (AC []) f114 [.str] [.str] x
theorem sl (s:L8):lP (s,())=gd [Lr (cf (HI s)),AY s] (some (Sb (cz (cf (HI s))),())):=by kernel_rfl
theorem ACL:∀(s:L8) (z:ZW),(0<=z.1/\z.1<65521)/\(0<=z.2.1/\z.2.1<65521)->(0<=(XS z s).1/\(XS z s).1<65521)/\(0<=(XS z s).2.1/\(XS z s).2.1<65521)
 |[],_,h=>h
 |c::s,z,_=>ACL s (lH z c) (bb _ _)
theorem VG:PC 114 IY:=(AN (AG (l:=[(160,VF),(161,VE)]) ⟨iC,iA,trivial⟩) AM func114 (by kernel_rfl) (by decide)).nice λ⟨s,()⟩ h=>by
 have h:AY s=true:=h;obtain⟨a,b⟩:=ACL s (0,1,()) ⟨by decide,by decide⟩;show lP _=some (Sb (HI s),());have o:Lr (cf (HI s))=true:=KS a b;have e:cz (cf (HI s))=HI s:=PW a b;rw[sl,Ag o,Ag h,xG,e]
end Go.Proofs.YtkgejlchafionaaGreatDoor
namespace Nice
abbrev BS:Type:=Option (AA [.str])
def sO (s:L8):BS:=some (s,())
def Mi:L8:=[60,118,101,114,115,105,111,110,32,105,100,61,34]
def Si:L8:=[34,32,116,97,103,61,34]
def sn:L8:=[34,47,62]
def PY:L8:=[103,111,110,101]
def Mj:L8:=[60,110,97,109,101,62]
def Ee:L8:=[60,47,110,97,109,101,62]
def O3:L8:=[60,47,107,101,121,62]
def KU:L8:=[60,107,101,121,62,60,110,97,109,101,62]
def Y5:L8:=[60,108,105,115,116,62]
def Q6:L8:=[60,47,108,105,115,116,62]
def IZ:L8:=[60,110,101,120,116,62]
def Mk:L8:=[60,47,110,101,120,116,62]
def Sj (d m:L8):L8:=Mi++d++Si++m++sn
def sq (v:Ae):L8:=bif v.2.1 then PY else Im v.2.2.1
def Q7 (v:Ae):L8:=Sj (DV v.1) (sq v)
def HO (l:List Ae):L8:=l.reverse.flatMap Q7
def Io (e:AD):L8:=KU++e.1++Ee++HO e.2.1++O3
def FW (k:L8):L8:=Mj++k++Ee
def PZ (m:Bool) (x:L8):L8:=bif m then IZ++x++Mk else []
def sr (s:O2):L8:=Y5++s.1.flatMap FW++s.2.1.flatMap Io++PZ s.2.2.1 s.2.2.2.1++Q6
def HQ (s:O2):L8:=bif Gm s then sr s else []
def LG:PSpec:=⟨[AB],[.str],λx=>Bh x.1,λx=>(Io x.1,())⟩
def Pa:PSpec:=⟨[Gz],[.str],λx=>Eu x.1,λx=>(HQ x.1,())⟩
theorem Q8 (v:Ae):(sq v).length<=8:=by
 unfold sq;cases v.2.1
 ·rw[xF,Sc];exact Nat.le_refl _
 ·exact(by decide:PY.length<=8)
theorem Sk (d m:L8):(Sj d m).length=23+d.length+m.length:=by
 unfold Sj;simp only[List.length_append,show Mi.length=13 from rfl,show Si.length=7 from rfl,show sn.length=3 from rfl];omega
theorem Ml {v:Ae} (h:CS v=true):(Q7 v).length<=51:=by
 have a:=Q8 v;unfold CS at h;rw[Bool.and_eq_true,Bool.and_eq_true,decide_eq_true_eq,decide_eq_true_eq] at h;have:=Go.Proofs.YtkgejlchafionaaGreatDoor.fmt_len (n:=v.1) (by omega) h.2.1;unfold Q7;rw[Sk];omega
theorem EX:∀(l:List Ae) (b:Int),Hu b l=true->∀v,v∈l->CS v=true
 |[],_,_,v,h=>by cases h
 |a::l,b,h,v,c=>by
  rw[N8,Bool.and_eq_true,Bool.and_eq_true] at h;rcases List.mem_cons.1 c with rfl|c
  ·exact h.1
  ·exact EX l a.1 h.2.2 v c
theorem FX {e:AD}:Bh e=true↔Hu 0 e.2.1=true/\isKey e.1=true/\1<=e.2.1.length/\e.2.1.length<=12:=by
 unfold Bh;rw[Bool.and_eq_true,Bool.and_eq_true,Bool.and_eq_true,decide_eq_true_eq,decide_eq_true_eq]
theorem Mm (l:List Ae) (v:Ae):HO (l++[v])=Q7 v++HO l:=by
 unfold HO;rw[List.reverse_append];rfl
theorem Pb:∀(l:List Ae),(∀v,v∈l->CS v=true)->(HO l).length<=51*l.length
 |[],_=>Nat.le_refl _
 |v::l,h=>by
  have b:=Pb l λu a=>h u (List.mem_cons_of_mem _ a)
  have c:=Ml (h v List.mem_cons_self);have e:HO (v::l)=HO l++Q7 v:=by
   unfold HO;rw[List.reverse_cons,List.flatMap_append];simp
  rw[e,List.length_append,List.length_cons];omega
theorem Sl {e:AD} (h:Bh e=true):(Io e).length<=700:=by
 obtain⟨a,b,_,c⟩:=FX.1 h;have:=Pb e.2.1 (EX _ _ a);have:=Eb b;unfold Io;simp only[List.length_append,show KU.length=11 from rfl,show Ee.length=7 from rfl,show O3.length=6 from rfl];omega
abbrev gV (t:L8) (i:Int) (d m:L8):List Bool:=[decide (Ad .i64 (i-1)),decide (t.length+(Sj d m).length<=1099511627776),decide ((Mi++d++Si++m).length+3<=1099511627776),decide ((Mi++d++Si).length+m.length<=1099511627776),decide ((Mi++d).length+7<=1099511627776),decide (13+d.length<=1099511627776)]
theorem XY {t d m:L8} {i:Int} (a:0<=i) (b:i<=1099511627776) (c:t.length<=549755813888) (hd:d.length<=20) (e:m.length<=8) {α:Type} (q:List Bool) (y:Option α):gd (gV t i d m++q) y=gd q y:=by
 have f:=Sk d m;have g:(Mi++d++Si++m).length=20+d.length+m.length:=by
  simp only[List.length_append,show Mi.length=13 from rfl,show Si.length=7 from rfl];omega
 have h:(Mi++d++Si).length=20+d.length:=by
  simp only[List.length_append,show Mi.length=13 from rfl,show Si.length=7 from rfl];omega
 have j:(Mi++d).length=13+d.length:=by
  simp only[List.length_append,show Mi.length=13 from rfl]
 unfold gV;simp only[List.cons_append,List.nil_append];rw[AP (AH.2 ⟨by omega,by omega⟩),AP (by omega),AP (by omega),AP (by omega),AP (by omega),AP (by omega)]
def VH (l:List Ae) (t:L8) (i:Int) (a:L8->BS):BS:=
 bif decide (i>=0) then gd [AY (l.getD i.toNat (Aa).dflt).2.2.1,decide (i.toNat<l.length),decide (0<=i),decide (i<(l.length:Int))] (bif (l.getD i.toNat (Aa).dflt).2.1 then
     gd (gV t i (DV (l.getD i.toNat (Aa).dflt).1) PY++[Hw.pre ((l.getD i.toNat (Aa).dflt).1,10,())]) (a (t++Sj (DV (l.getD i.toNat (Aa).dflt).1) PY))
  else gd (gV t i (DV (l.getD i.toNat (Aa).dflt).1) (Im (l.getD i.toNat (Aa).dflt).2.2.1)++[Hw.pre ((l.getD i.toNat (Aa).dflt).1,10,())]) (a (t++Sj (DV (l.getD i.toNat (Aa).dflt).1) (Im (l.getD i.toNat (Aa).dflt).2.2.1))))
 else gd [decide (t.length+6<=1099511627776)] (sO (t++O3))
end Nice
namespace Go.Proofs.YtkgejlchafionaaGreatDoor
open Tryz
open Nice Go.RowKit
abbrev ABO:List (Nat×List (Nat×Sh)):=[(3,[(1,(.obj [.sym,(.dat Aa)])),(2,(.one .sym)),(3,(.one .sym)),(4,(.one .sym))])]
def xI (N:Nat) (k:L8) (l:List Ae) (t:L8) (i:Int):BS:=rH prog (AL [(114,IY),(48,Hw)]) (AC ABO) f120 [.str] N 0 [(1,.pointer (some ⟨11,0,none⟩)),(2,sy (.string (bs []))),(3,sy (.string (bs t))),(4,sy (.int .i64 i))] [.dat Aa l,.row [sy (.string (bs k)),dt 10] 68 false]
def z1 (x:AA [AB]):BS:=fO prog (AL [(114,IY),(48,Hw)]) (AC ABO) f120 [AB] [.str] x
theorem ss (x:AA [AB]):z1 x=BV prog (AL [(114,IY),(48,Hw)]) (AC ABO) f120 [AB] [.str] AE x:=rfl
theorem su (N:Nat) (k:L8) (l:List Ae):BV prog (AL [(114,IY),(48,Hw)]) (AC ABO) f120 [AB] [.str] N ((k,l,()),())=gd [decide (Ad .i64 ((l.length:Int)-1)),decide ((KU++k).length+7<=1099511627776),decide (11+k.length<=1099511627776)] (xI N k l (KU++k++Ee) ((l.length:Int)-1)):=by kernel_rfl
theorem lQ (N:Nat) (k:L8) (l:List Ae) (t:L8) (i:Int):xI (N+1) k l t i=VH l t i (λa=>xI N k l a (i-1)):=by kernel_rfl
theorem yJ (k:L8) (l:List Ae) (w:l.length<=12) (i:∀v,v∈l->CS v=true):∀(j N:Nat) (t:L8),j<=l.length->j<N->t.length+100*j<=549755813888->xI N k l t ((j:Int)-1)=some (t++HO (l.take j)++O3,()):=by
 intro j
 induction j with
 |zero=>
  intro N t _ hN o;obtain⟨N,rfl⟩:∃m,N=m+1:=⟨N-1,by omega⟩
  rw[lQ];unfold VH;rw[Av (by omega),AP (by omega),xG,List.take_zero];show sO _=sO (t++[]++O3);rw[List.append_nil]
 |succ j p=>
  intro N t x hN o;obtain⟨N,rfl⟩:∃m,N=m+1:=⟨N-1,by omega⟩
  have a:j<l.length:=by omega
  have q:l.getD j (Aa).dflt∈l:=by
   rw[List.getD_eq_getElem?_getD,List.getElem?_eq_getElem a];exact List.getElem_mem a
  have g:=i _ q;have e:l.take (j+1)=l.take j++[l.getD j (Aa).dflt]:=by
   rw[List.take_succ_eq_append_getElem a,List.getD_eq_getElem?_getD,List.getElem?_eq_getElem a];rfl
  have r:=Ml g;have this:=p N (t++Q7 (l.getD j (Aa).dflt)) (by omega) (by omega) (by rw[List.length_append];omega);have c:=g;unfold CS at c;rw[Bool.and_eq_true,Bool.and_eq_true,Bool.and_eq_true,decide_eq_true_eq,decide_eq_true_eq,decide_eq_true_eq] at c;obtain⟨y,s,z,_⟩:=c;have h:=fmt_len (n:=(l.getD j (Aa).dflt).1) (by omega) s
  have d:=Q8 (l.getD j (Aa).dflt);have f:AY (l.getD j (Aa).dflt).2.2.1=true:=by unfold AY;exact decide_eq_true (by omega)
  have b:Hw.pre ((l.getD j (Aa).dflt).1,10,())=true:=by
   show(BR (l.getD j (Aa).dflt).1&&(10:Int)==10)=true;rw[J4.2 ⟨by omega,by omega⟩];rfl
  rw[lQ];unfold VH;rw[Au (by omega),show(((j+1:Nat):Int)-1)=(j:Int) by omega,show(j:Int).toNat=j from rfl,Ag f,AP a,AP (by omega),AP (by omega),xG,e,Mm,<-List.append_assoc t,<-this];unfold Q7 sq at d⊢;cases u:(l.getD j (Aa).dflt).2.1
  ·rw[u] at d;rw[xF,XY (by omega) (by omega) (by omega) h (by exact d),Ag b,xG];rfl
  ·rw[xT,XY (by omega) (by omega) (by omega) h (by decide),Ag b,xG];rfl
theorem yK:PC 120 LG:=(AN (sh:=AC ABO) (AG (l:=[(114,IY),(48,Hw)]) ⟨VG,eT,trivial⟩) AM func120 (by kernel_rfl) (by decide)).nice λ⟨⟨k,l,()⟩,()⟩ h=>by
 obtain⟨c,a,e,b⟩:=FX.1 h;have a:=Eb a;have a:k.length<=40:=a;have b:l.length<=12:=b;show z1 _=some (Io (k,l,()),());have d:(KU++k).length=11+k.length:=by rw[List.length_append];rfl
 have f:(KU++k++Ee).length=18+k.length:=by rw[List.length_append,d,show Ee.length=7 from rfl];omega
 rw[ss,su,AP (AH.2 ⟨by omega,by omega⟩),AP (by omega),AP (by omega),xG,yJ k l b (EX _ _ c) l.length AE _ (Nat.le_refl _) (by unfold AE;omega) (by omega),List.take_length];rfl
end Go.Proofs.YtkgejlchafionaaGreatDoor
namespace Nice
abbrev U3:OT:=.pair (.d .str) (.pair (.d .bool) .unit)
end Nice
namespace Nice
def yL (m:AU):List Value:=[.int .i64 m.1,.int .i64 m.2.1.1,.int .i64 m.2.1.2.1]
def Ls (low a:Int) (m:AU):Bool:=decide (m.1<low)&&Ai m.1==a+1
end Nice
namespace Go.Proofs.YtkgejlchafionaaGreatDoor
open Tryz
open Nice Go.RowKit Go.Shelf Go.Lib
set_option maxHeartbeats 4000000 in
theorem AB9 (n:Int) (w:World):Calls prog 66 #[.int .i64 n] w λe w'=>e=.returned (.int .i64 (Ai n))/\w'=w:=by
 have mixed:Tryz.prog.follows .mixedOrders=true:=by kernel_rfl
 unfold Ai
 go_enter func66,ntmps66
 by_cases b:n<4294967296
 ·rw[decide_eq_true b]
  go_wp2
  go_ret
  exact⟨rfl,rfl⟩
 ·rw[decide_eq_false b];by_cases c:25769803776<=n
  ·rw[show decide (n>=25769803776)=true from decide_eq_true c]
   go_wp2
   go_ret
   exact⟨rfl,rfl⟩
  ·rw[show decide (n>=25769803776)=false from decide_eq_false c];have a:n.tmod 4294967296=n%4294967296:=Int.tmod_eq_emod_of_nonneg (by omega);rw[a];by_cases d:n%4294967296=0
   ·rw[show(n%4294967296==0)=true from beq_iff_eq.2 d]
    go_wp2
    go_ret
    exact⟨rfl,rfl⟩
   ·rw[show(n%4294967296==0)=false from beq_eq_false_iff_ne.2 d];have f:IntKind.i64.wrap (n.tdiv 4294967296)=n.tdiv 4294967296:=by
     rw[IntKind.wrap_i64,Int.tdiv_eq_ediv_of_nonneg (by omega)];omega
    go_wp2
    go_ret
    exact⟨rfl,rfl⟩
set_option maxHeartbeats 4000000 in
theorem sx (m:AU) (low b:Int) (y:0<=b) (z:b<=5) (B1 i B2 j:Nat) (W:World) (o:B1<W.heap.size) (p:B2<W.heap.size) (r:W.cell? ⟨B1,i,none⟩=some (.int .i64 low)) (s:W.cell? ⟨B2,j,none⟩=some (.int .i64 b)):
  Calls prog 72 #[.agg (yL m).toArray,.pointer (some ⟨B1,i,none⟩),.pointer (some ⟨B2,j,none⟩)] W λe w'=>e=.returned (.bool (Ls low b m))/\Bx W w':=by
 have mixed:Tryz.prog.follows .mixedOrders=true:=by kernel_rfl
 obtain⟨a,⟨er,k,⟨⟩⟩,⟨⟩⟩:=m;have t:IntKind.i64.wrap (b+1)=b+1:=by rw[IntKind.wrap_i64];omega
 have l:B1≠W.heap.size:=by omega
 have n:B2≠W.heap.size:=by omega
 show Calls prog 72 #[.agg #[.int .i64 a,.int .i64 er,.int .i64 k],_,_] W _;obtain⟨g,d⟩:∃g,g=Ai a:=⟨_,rfl⟩
 have c:=AB9 a;rw[<-d] at c;have HM:Aside (g=Ai a):=d;clear d;have h:∀args w,(callFunc 66 args).run prog w=.ok (.enter 66 args) w:=enters_of func66 (by kernel_rfl) rfl;have HS:∀q,Bx W ((W.alloc (.cells #[.int .i64 a,.int .i64 er,.int .i64 k] 75)).drewN q):=λq=>⟨by show _<=(W.heap.push _).size;rw[Array.size_push];omega,rfl,rfl,λx u=>Af W _ u⟩
 by_cases f:a<low
 ·go_enter func72,ntmps72
  go_wp2_with fail
  go_quiet_o (first|(go_at_fn 66;refine Calls.quiet_of_same (c _)))
  go_wp2
  go_ret
  refine⟨?_,HS _⟩;show Ending.returned (.bool (g==b+1))=.returned (.bool (decide (a<low)&&Ai a==b+1));rw[decide_eq_true f,<-HM.out];rfl
 ·have v:low<=a:=by omega
  have hd:decide (a<low)=false:=decide_eq_false f;clear c h;have HD:Aside (decide (a<low)=false):=hd
  go_enter func72,ntmps72
  go_wp2_with fail
  go_quiet_o (fail)
  go_wp2
  go_ret
  refine⟨?_,HS _⟩;show Ending.returned (.bool false)=.returned (.bool (decide (a<low)&&Ai a==b+1));rw[HD.out];rfl
