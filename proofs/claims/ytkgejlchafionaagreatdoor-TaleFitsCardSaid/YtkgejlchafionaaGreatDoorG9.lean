/-
  Part of the proof. No condition.
-/
import Derived.Test.YtkgejlchafionaaGreatDoorG8
set_option maxRecDepth 1000000
open Go Go.Eng
noncomputable section
namespace Nice
def dN:PSpec:=⟨[A9,.str],[IT,.bool],λx=>decide (x.1.2.1.length<=1000000)&&Cd (x.1.2.1.map (Ca x.2.1)),λx=>((D0 (Ca x.2.1) (EH x.2.1) x.1.2.1 0).1,(D0 (Ca x.2.1) (EH x.2.1) x.1.2.1 0).2,())⟩
def dO:PSpec:=⟨[A9,IT],[IT,.bool],λx=>decide (x.1.2.2.1.length<=1000000)&&Cd (x.1.2.2.1.map (Do x.2.1)),λx=>((D0 (Do x.2.1) (Fq x.2.1) x.1.2.2.1 0).1,(D0 (Do x.2.1) (Fq x.2.1) x.1.2.2.1 0).2,())⟩
def WS:PSpec:=⟨[A9,IT],[IT,.bool],λx=>decide (x.1.2.2.1.length<=1000000),λx=>((D0 (Do x.2.1) (Fq x.2.1) x.1.2.2.1 0).1,(D0 (Do x.2.1) (Fq x.2.1) x.1.2.2.1 0).2,())⟩
def L2 (e:AD) (c:Int) (t:L8):Bool:=bif c==0 then true else bif c==1 then !(CI e).2 else bif c==2 then(CI e).2&&Im (CI e).1.2.2.1==t else false
def CJ (e:AD):Bool:=decide (e.2.1.length<=1000000)
def Gx (e:AD):Bool:=CJ e&&AY (CI e).1.2.2.1
def aC:PSpec:=⟨[AB,IT,.str],[.bool],λx=>Gx x.1,λx=>(L2 x.1 x.2.1 x.2.2.1,())⟩
def Ba (e:AD) (v:Ae):AD×Bool:=bif decide (12<=e.2.1.length)||(decide (0<e.2.1.length)&&decide (v.1<=(Bi e).1)) then(e,false) else((e.1,e.2.1++[v],()),true)
def P7:PSpec:=⟨[AB,Aa],[AB,.bool],λx=>CJ x.1,λx=>((Ba x.1 x.2.1).1,(Ba x.1 x.2.1).2,())⟩
def Be (e:AD) (v:Int):AD×Bool:=bif decide (DF e.2.1 v<0) then(e,false) else((e.1,e.2.1.take (DF e.2.1 v).toNat++e.2.1.drop ((DF e.2.1 v).toNat+1),()),true)
def P8:PSpec:=⟨[AB,IT],[AB,.bool],λx=>CJ x.1,λx=>((Be x.1 x.2.1).1,(Be x.1 x.2.1).2,())⟩
def jI (e:AD) (c:Int) (t:L8):BO:=
 bif (CI e).2 then gd [decide (e.2.1.length<=140737488355328)] (bif c==0 then bO true else bif c==1 then bO false else bif c==2 then(bif Im (CI e).1.2.2.1==t then gd [AY (CI e).1.2.2.1] (bO true) else gd [AY (CI e).1.2.2.1] (bO false)) else bO false)
 else gd [decide (e.2.1.length<=140737488355328)] (bif c==0 then bO true else bif c==1 then bO true else bif c==2 then bO false else bO false)
theorem dP {e:AD} {c:Int} {t:L8} (h:Gx e=true):jI e c t=bO (L2 e c t):=by
 unfold Gx CJ at h;rw[Bool.and_eq_true,decide_eq_true_eq] at h;unfold jI L2;rw[AP (by omega),AP (by omega),xG,xG,Ag h.2,Ag h.2,xG,xG];cases(CI e).2<;>cases c==0<;>cases c==1<;>cases c==2<;>cases Im (CI e).1.2.2.1==t<;>rfl
abbrev aD:=Option (AA [AB,.bool])
def xN (e:AD) (v:Ae):aD:=bif decide ((e.2.1.length:Int)>=12) then some ((e.1,e.2.1,()),false,()) else gd [decide ((2*(e.2.1.length+[v].length)+400)*32<=281474976710656),decide (e.2.1.length<=1000000)] (some ((e.1,e.2.1++[v],()),true,()))
def xO (e:AD) (v:Ae):aD:=bif decide ((e.2.1.length:Int)>0) then(bif decide (v.1<=(CI e).1.1) then some ((e.1,e.2.1,()),false,()) else xN e v) else xN e v
def dQ (e:AD) (v:Ae):aD:=bif (CI e).2 then gd [decide (e.2.1.length<=140737488355328)] (xO e v) else gd [decide (e.2.1.length<=140737488355328)] (xO e v)
theorem Tq {e:AD} (h:0<e.2.1.length):(CI e).1=Bi e:=by
 unfold CI;rw[show(e.2.1.length==0)=false from beq_eq_false_iff_ne.2 (by omega)];rfl
theorem ta {e:AD} {v:Ae} (h:e.2.1.length<=1000000):xN e v=bif decide (12<=e.2.1.length) then some (e,false,()) else some ((e.1,e.2.1++[v],()),true,()):=by
 unfold xN;by_cases a:12<=e.2.1.length
 ·rw[Au (by omega),Au a]
 ·rw[Av (by omega),Av a,AP (by simp only[List.length_cons,List.length_nil];omega),AP h,xG]
theorem jJ {e:AD} {v:Ae} (h:CJ e=true):dQ e v=some ((Ba e v).1,(Ba e v).2,()):=by
 have h:e.2.1.length<=1000000:=of_decide_eq_true h;unfold dQ;have b:xO e v=some ((Ba e v).1,(Ba e v).2,()):=by
  unfold xO Ba;rw[ta h];by_cases a:0<e.2.1.length
  ·rw[Au (by omega),Tq a,decide_eq_true a,Bool.true_and];cases decide (v.1<=(Bi e).1)<;>cases decide (12<=e.2.1.length)<;>rfl
  ·rw[Av (by omega),decide_eq_false a,decide_eq_false (show ¬12<=e.2.1.length by omega)];rfl
 rw[AP (by omega),xG,b];cases(CI e).2<;>rfl
def dR (e:AD) (v:Int):aD:=
 gd [decide (e.2.1.length<=1000000)] (bif decide (DF e.2.1 v<0) then some ((e.1,e.2.1,()),false,())
 else gd [decide (0<=DF e.2.1 v)&&(decide ((DF e.2.1 v).toNat<e.2.1.length)&&(decide (DF e.2.1 v+1=DF e.2.1 v+1)&&decide (e.2.1.length<=1000000))),decide (Ad .i64 (DF e.2.1 v+1)),decide (e.2.1.length<=1000000)] (some ((e.1,e.2.1.take (DF e.2.1 v).toNat++e.2.1.drop ((DF e.2.1 v).toNat+1),()),true,())))
theorem WT (l:List Ae) (v:Int):DF l v= -1\/∃k:Nat,DF l v=(k:Int)/\k<l.length:=by
 rcases F2 (λy:Ae=>y.1==v) l 0 with⟨h, -⟩|⟨k,h,a⟩
 ·exact .inl h
 ·exact .inr ⟨k,by rw[show DF l v=((0+k:Nat):Int) from h,Nat.zero_add],a⟩
theorem jK {e:AD} {v:Int} (h:CJ e=true):dR e v=some ((Be e v).1,(Be e v).2,()):=by
 have h:e.2.1.length<=1000000:=of_decide_eq_true h;unfold dR Be;rw[AP h,xG];rcases WT e.2.1 v with a|⟨k,a,b⟩
 ·rw[a];rfl
 ·rw[a,Av (by omega),Av (by omega),Ag (by rw[Bool.and_eq_true,Bool.and_eq_true,Bool.and_eq_true];exact⟨decide_eq_true (by omega),decide_eq_true b,decide_eq_true rfl,decide_eq_true h⟩),AP (AH.2 ⟨by omega,by omega⟩),AP h,xG]
def jL (m:List AU) (k i:Int):U4:=bif decide (i<(m.length:Int)) then(bif (Ay m i.toNat).1==k then gd (gX m i) (some (i,true,())) else gd (gX m i) (some (i,false,()))) else some (i,false,())
def Rv (m:List AU) (k i:Int) (a:U4):U4:=bif decide (i<(m.length:Int)) then(bif decide ((Ay m i.toNat).1<k) then gd (decide (Ad .i64 (i+1))::gX m i) a else gd (gX m i) (jL m k i)) else jL m k i
def xP (l:List Ae):List Bool:=[decide (((l.length:Int)-1).toNat<l.length),decide (0<=(l.length:Int)-1),decide ((l.length:Int)-1<(l.length:Int)),decide (Ad .i64 ((l.length:Int)-1))]
def xQ (g:List Bool) (e:AD) (v:Ae):aD:=gd (decide ((2*(e.2.1.length+[v].length)+400)*32<=281474976710656)::decide ((2*(0+e.2.1.length)+400)*32<=281474976710656)::g) (some ((e.1,e.2.1++[v],()),true,()))
def dS (e:AD) (v:Ae):aD:=bif decide ((e.2.1.length:Int)>=12) then some ((e.1,e.2.1,()),false,()) else bif decide ((e.2.1.length:Int)>0) then(bif decide (v.1<=(e.2.1.getD ((e.2.1.length:Int)-1).toNat (Aa).dflt).1) then gd (xP e.2.1) (some ((e.1,e.2.1,()),false,())) else xQ (xP e.2.1) e v) else xQ [] e v
theorem jM {e:AD} {v:Ae} (h:CJ e=true):dS e v=some ((Ba e v).1,(Ba e v).2,()):=by
 have h:e.2.1.length<=1000000:=of_decide_eq_true h;have a:∀g:List Bool,(∀y:aD,gd g y=y)->xQ g e v=some ((e.1,e.2.1++[v],()),true,()):=λg f=>by
  unfold xQ;rw[AP (by simp only[List.length_cons,List.length_nil];omega),AP (by omega),f]
 unfold dS Ba;by_cases b:12<=e.2.1.length
 ·rw[Au (by omega),decide_eq_true b];rfl
 ·rw[Av (by omega),decide_eq_false b,Bool.false_or];by_cases c:0<e.2.1.length
  ·have d:∀y:aD,gd (xP e.2.1) y=y:=λy=>by
    unfold xP;rw[AP (by omega),AP (by omega),AP (by omega),AP (AH.2 ⟨by omega,by omega⟩),xG]
   rw[Au (by omega),decide_eq_true c,Bool.true_and,a _ d,d,show e.2.1.getD ((e.2.1.length:Int)-1).toNat (Aa).dflt=Bi e from by
    unfold Bi;rw[show((e.2.1.length:Int)-1).toNat=e.2.1.length-1 by omega]]
   cases decide (v.1<=(Bi e).1)<;>rfl
  ·rw[Av (by omega),decide_eq_false c,Bool.false_and,a [] (λy=>xG y)];rfl
def dT (e:AD) (v:Int):aD:=
 bif (C6 v e.2.1 0).2 then gd [decide ((2*(([]++Bw e.2.1 none (some (C6 v e.2.1 0).1)).length+(Bw e.2.1 (some ((C6 v e.2.1 0).1+1)) none).length)+400)*32<=281474976710656),decide (0<=(C6 v e.2.1 0).1+1),decide ((C6 v e.2.1 0).1+1<=(e.2.1.length:Int)),decide (Ad .i64 ((C6 v e.2.1 0).1+1)),decide ((2*(0+(Bw e.2.1 none (some (C6 v e.2.1 0).1)).length)+400)*32<=281474976710656),decide (0<=(C6 v e.2.1 0).1),decide ((C6 v e.2.1 0).1<=(e.2.1.length:Int)),DU (e.1,e.2.1,())]
  (some ((e.1,[]++Bw e.2.1 none (some (C6 v e.2.1 0).1)++Bw e.2.1 (some ((C6 v e.2.1 0).1+1)) none,()),true,())) else gd [DU (e.1,e.2.1,())] (some ((e.1,e.2.1,()),false,()))
theorem Jy {α:Type} (l:List α) (k:Nat):Bw l none (some (k:Int))=l.take k:=by
 unfold Bw;simp
theorem MS {α:Type} (l:List α) (k:Nat):Bw l (some (k:Int)) none=l.drop k:=by
 unfold Bw;simp
theorem jN {e:AD} {v:Int} (h:CJ e=true):dT e v=some ((Be e v).1,(Be e v).2,()):=by
 have c:DU (e.1,e.2.1,())=true:=h;have h:e.2.1.length<=1000000:=of_decide_eq_true h;unfold dT Be;rcases R6 (n:=v) e.2.1 0 with⟨a,b⟩|⟨k,a,d,b⟩
 ·have a:DF e.2.1 v= -1:=a;rw[a,b,Ag c,xG];rfl
 ·have a:DF e.2.1 v=((0+k:Nat):Int):=a;rw[Nat.zero_add] at a b;rw[a,b,Av (by omega),xT,Jy,show((k:Int),true).1+1=((k+1:Nat):Int) from rfl,MS];have f:(e.2.1.take k).length<=e.2.1.length:=by rw[List.length_take];omega
  have g:(e.2.1.drop (k+1)).length<=e.2.1.length:=by rw[List.length_drop];omega
  rw[AP (by simp only[List.nil_append];omega),AP (by omega),AP (by omega),AP (AH.2 ⟨by omega,by omega⟩),AP (by omega),AP (by show(0:Int)<=k;omega),AP (by show(k:Int)<=_;omega),Ag c,xG];rfl
def spB (p:Bool) (x:Int×Bool):U4:=bif x.2 then gd [p] (some (x.1,true,())) else gd [p] (some (x.1,false,()))
theorem lu {p:Bool} {x:Int×Bool} (h:p=true):spB p x=some (x.1,x.2,()):=by
 unfold spB;rw[Ag h,Ag h,xG,xG];cases x.2<;>rfl
end Nice
namespace Go.Proofs.YtkgejlchafionaaGreatDoor
open Tryz
open Nice
def tb (x:AA [A9,.str]):U4:=fO prog (AL [(151,qF 152)]) (AC []) f105 [A9,.str] [IT,.bool] x
theorem tc (q:Int) (l:List AD) (m:List AU) (a b c d e:Int) (k:L8):tb ((q,l,m,(a,b,c,d,e,()),()),k,())=spB (decide (l.length<=1000000)&&Cd (l.map (Ca k))) (D0 (Ca k) (EH k) l 0):=by kernel_rfl
theorem oT:PC 105 dN:=(AN (AG (l:=[(151,qF 152)]) ⟨vQ,trivial⟩) AM func105 (by kernel_rfl) (by decide)).nice λ⟨⟨q,l,m,⟨a,b,c,d,e,()⟩,()⟩,k,()⟩ h=>(tc q l m a b c d e k).trans (lu h)
def td (x:AA [A9,IT]):U4:=fO prog (AL [(102,qG 103)]) (AC []) f67 [A9,IT] [IT,.bool] x
theorem tf (q:Int) (l:List AD) (m:List AU) (a b c d e k:Int):td ((q,l,m,(a,b,c,d,e,()),()),k,())=spB (decide (m.length<=1000000)&&Cd (m.map (Do k))) (D0 (Do k) (Fq k) m 0):=by kernel_rfl
theorem oU:PC 67 dO:=(AN (AG (l:=[(102,qG 103)]) ⟨vS,trivial⟩) AM func67 (by kernel_rfl) (by decide)).nice λ⟨⟨q,l,m,⟨a,b,c,d,e,()⟩,()⟩,k,()⟩ h=>(tf q l m a b c d e k).trans (lu h)
def yf (x:AA [AB,IT,.str]):BO:=fO prog (AL [(118,Gr),(114,IY)]) (AC []) f107 [AB,IT,.str] [.bool] x
theorem yg (k:L8) (l:List Ae) (c:Int) (t:L8):yf ((k,l,()),c,t,())=jI (k,l,()) c t:=by kernel_rfl
theorem tg:PC 107 aC:=(AN (AG (l:=[(118,Gr),(114,IY)]) ⟨XP,VG,trivial⟩) AM func107 (by kernel_rfl) (by decide)).nice λ⟨⟨k,l,()⟩,c,t,()⟩ h=>(yg k l c t).trans (dP h)
def th (x:AA [AB,IT,.str]):BO:=fO prog (AL [(53,Gr),(30,Qy)]) (AC []) f61 [AB,IT,.str] [.bool] x
theorem tj (k:L8) (l:List Ae) (c:Int) (t:L8):th ((k,l,()),c,t,())=jI (k,l,()) c t:=by kernel_rfl
theorem oV:PC 61 aC:=(AN (AG (l:=[(53,Gr),(30,Qy)]) ⟨SP,XV,trivial⟩) AM func61 (by kernel_rfl) (by decide)).nice λ⟨⟨k,l,()⟩,c,t,()⟩ h=>(tj k l c t).trans (dP h)
def tk (x:AA [AB,Aa]):aD:=fO prog (Dc [(118,Gr)] [(156,UM)]) (AC []) f108 [AB,Aa] [AB,.bool] x
theorem tl (k:L8) (l:List Ae) (v:Int) (g:Bool) (b:L8):tk ((k,l,()),(v,g,b,()),())=dQ (k,l,()) (v,g,b,()):=by kernel_rfl
theorem oX:PC 108 P7:=(AN (BN (l:=[(118,Gr)]) (o:=[(156,UM)]) ⟨XP,trivial⟩ ⟨fD,trivial⟩) AM func108 (by kernel_rfl) (by decide)).nice λ⟨⟨k,l,()⟩,⟨v,g,b,()⟩,()⟩ h=>(tl k l v g b).trans (jJ h)
def tm (x:AA [AB,Aa]):aD:=fO prog (Dc [(53,Gr)] []) (AC []) f63 [AB,Aa] [AB,.bool] x
theorem tn (k:L8) (l:List Ae) (v:Int) (g:Bool) (b:L8):tm ((k,l,()),(v,g,b,()),())=dS (k,l,()) (v,g,b,()):=by kernel_rfl
theorem oY:PC 63 P7:=(AN (BN (l:=[(53,Gr)]) (o:=[]) ⟨SP,trivial⟩ trivial) AM func63 (by kernel_rfl) (by decide)).nice λ⟨⟨k,l,()⟩,⟨v,g,b,()⟩,()⟩ h=>(tn k l v g b).trans (jM h)
def tp (x:AA [AB,IT]):aD:=fO prog (Dc [(162,Ot)] [(156,UM),(197,fE)]) (AC []) f154 [AB,IT] [AB,.bool] x
theorem tq (k:L8) (l:List Ae) (v:Int):tp ((k,l,()),v,())=dR (k,l,()) v:=by kernel_rfl
theorem oZ:PC 154 P8:=(AN (BN (l:=[(162,Ot)]) (o:=[(156,UM),(197,fE)]) ⟨Yw,trivial⟩ ⟨fD,qR,trivial⟩) AM func154 (by kernel_rfl) (by decide)).nice λ⟨⟨k,l,()⟩,v,()⟩ h=>(tq k l v).trans (jK h)
def tr (x:AA [AB,IT]):aD:=fO prog (Dc [(54,gU)] []) (AC []) f62 [AB,IT] [AB,.bool] x
theorem tt (k:L8) (l:List Ae) (v:Int):tr ((k,l,()),v,())=dT (k,l,()) v:=by kernel_rfl
theorem oa:PC 62 P8:=(AN (BN (l:=[(54,gU)]) (o:=[]) ⟨mo,trivial⟩ trivial) AM func62 (by kernel_rfl) (by decide)).nice λ⟨⟨k,l,()⟩,v,()⟩ h=>(tt k l v).trans (jN h)
abbrev Ts:List (Nat×List (Nat×Sh)):=[(2,[(1,.one .sym),(2,.obj [.sym,.dat AB,.dat Ab,.sym,.sym,.sym,.sym,.sym]),(6,.one .sym)])]
def jO (N:Nat) (s:BB) (k i:Int):U4:=rH prog (AL []) (AC Ts) f34 [IT,.bool] N 0 [(1,sy (.int .i64 k)),(2,.pointer (some ⟨12,0,none⟩)),(6,sy (.int .i64 i))] [.dat AB s.2.1,.dat Ab s.2.2.1,.row [sy (.int .i64 s.1),dt 10,dt 11,sy (.int .i64 s.2.2.2.1.1),sy (.int .i64 s.2.2.2.1.2.1),sy (.int .i64 s.2.2.2.1.2.2.1),sy (.int .i64 s.2.2.2.1.2.2.2.1),sy (.int .i64 s.2.2.2.1.2.2.2.2.1)] 28 false]
def tu (x:AA [A9,IT]):U4:=fO prog (AL []) (AC Ts) f34 [A9,IT] [IT,.bool] x
theorem oc (x:AA [A9,IT]):tu x=BV prog (AL []) (AC Ts) f34 [A9,IT] [IT,.bool] AE x:=rfl
theorem od (N:Nat) (q:Int) (l:List AD) (m:List AU) (a b c d e k:Int):BV prog (AL []) (AC Ts) f34 [A9,IT] [IT,.bool] N ((q,l,m,(a,b,c,d,e,()),()),k,())=jO N (q,l,m,(a,b,c,d,e,()),()) k 0:=by kernel_rfl
theorem dU (N:Nat) (s:BB) (k i:Int):jO (N+1) s k i=Rv s.2.2.1 k i (jO N s k (i+1)):=by kernel_rfl
theorem ABu {s:BB} {k:Int} (f:s.2.2.1.length<=1000000):∀(L:List AU) (i N:Nat),s.2.2.1.drop i=L->i+L.length=s.2.2.1.length->L.length<N->jO N s k (i:Int)=some ((D0 (Do k) (Fq k) L i).1,(D0 (Do k) (Fq k) L i).2,())
 |[],i,N,hd,c,hN=>by
  obtain⟨N,rfl⟩:∃k,N=k+1:=⟨N-1,by omega⟩
  simp only[List.length_nil] at c;rw[dU];unfold Rv jL;rw[Av (by omega),Av (by omega)];rfl
 |e::r,i,N,hd,c,hN=>by
  simp only[List.length_cons] at c hN;obtain⟨N,rfl⟩:∃k,N=k+1:=⟨N-1,by omega⟩
  have a:i<s.2.2.1.length:=by omega
  have b:=List.drop_eq_getElem_cons a;rw[hd] at b;have d:Ay s.2.2.1 ((i:Int)).toNat=e:=by
   show s.2.2.1.getD i _=e;rw[List.getD_eq_getElem?_getD,List.getElem?_eq_getElem a];exact(List.cons.inj b).1.symm
  have g:s.2.2.1.drop (i+1)=r:=(List.cons.inj b).2.symm;have h:=ABu (k:=k) f r (i+1) N g (by omega) (by omega);rw[dU];unfold Rv D0;rw[Au (by omega),d];show(bif Do k e then _ else _)=_;cases Do k e
  ·rw[xF,xF,D5 a];unfold jL;rw[Au (by omega),d,D5 a,D5 a];show(bif Fq k e then _ else _)=_;cases Fq k e<;>rfl
  ·rw[xT,xT,H6 a (decide_eq_true (AH.2 ⟨by omega,by omega⟩))];exact h
theorem tv:PC 34 WS:=(AN (sh:=AC Ts) (AG (l:=[]) trivial) AM func34 (by kernel_rfl) (by decide)).nice λ⟨⟨q,l,m,⟨a,b,c,d,e,()⟩,()⟩,k,()⟩ h=>by
 have h:m.length<=1000000:=of_decide_eq_true h;show tu _=_;rw[oc,od];exact ABu (s:=(q,l,m,(a,b,c,d,e,()),())) h m 0 AE rfl (by simp) (by unfold AE;omega)
end Go.Proofs.YtkgejlchafionaaGreatDoor
namespace Nice
abbrev A7:Ty:=.pair IT (.pair .str (.pair .str (.pair IT (.pair IT (.pair .str (.pair IT (.pair IT .unit)))))))
abbrev Aj:=Int×L8×L8×Int×Int×L8×Int×Int×Unit
abbrev L3:=Int×Int×Unit
abbrev Gy:=Option (AA [A9,FR])
def I9 (l:List AD) (p:Int×Bool) (e:AD):List AD:=l.take p.1.toNat++((bif e.2.1.length==0 then [] else [e])++l.drop (bif p.2 then p.1.toNat+1 else p.1.toNat))
def P9 (s:BB) (l:List AD):BB:=(s.1,l,s.2.2.1,s.2.2.2.1,())
def Hq (s:BB) (i:Int) (e:AD) (a:Int):BB×L3:=bif (Be e a).2 then(P9 s (I9 s.2.1 (i,true) (Be e a).1),(0,a,())) else(s,(6,0,()))
def QB (s:BB) (i:Int) (e:AD) (a:Int):Bool:=CJ e&&(!(Be e a).2||(decide (0<=i)&&(decide (i.toNat<s.2.1.length)&&decide (s.2.1.length<=1000000))))
def dV:PSpec:=⟨[A9,IT,AB,IT],[A9,FR],λx=>QB x.1 x.2.1 x.2.2.1 x.2.2.2.1,λx=>((Hq x.1 x.2.1 x.2.2.1 x.2.2.2.1).1,(Hq x.1 x.2.1 x.2.2.1 x.2.2.2.1).2,())⟩
def sR (s:BB) (l:List AD) (r:L3):Gy:=some ((s.1,l,s.2.2.1,s.2.2.2.1,()),r,())
def lx (l:List AD) (i:Int):Bool:=decide (0<=i)&&(decide (i.toNat<l.length)&&(decide (i+1=i+1)&&decide (l.length<=1000000)))
def dW (s:BB) (i:Int) (e:AD) (a:Int):Gy:=
 bif (Be e a).2 then gd [decide (s.2.1.length<=1000000),CJ e] (bif (((Be e a).1.2.1.length:Int))==0 then gd [lx s.2.1 i,decide (Ad .i64 (i+1))] (sR s (s.2.1.take i.toNat++s.2.1.drop (i.toNat+1)) (0,a,())) else gd (gX s.2.1 i) (sR s (s.2.1.set i.toNat ((Be e a).1.1,(Be e a).1.2.1,())) (0,a,())))
 else gd [CJ e] (sR s s.2.1 (6,0,()))
theorem dX {α:Type} (l:List α) (i:Nat) (x:α) (h:i<l.length):l.set i x=l.take i++([x]++l.drop (i+1)):=by
 rw[List.set_eq_take_append_cons_drop,if_pos h];rfl
theorem jP {s:BB} {i:Int} {e:AD} {a:Int} (h:QB s i e a=true):dW s i e a=some ((Hq s i e a).1,(Hq s i e a).2,()):=by
 unfold QB at h;rw[Bool.and_eq_true] at h;obtain⟨c,h⟩:=h;unfold dW Hq;cases g:(Be e a).2
 ·rw[xF,xF,Ag c,xG];rfl
 ·rw[g] at h;have h:(decide (0<=i)&&(decide (i.toNat<s.2.1.length)&&decide (s.2.1.length<=1000000)))=true:=h;simp only[Bool.and_eq_true,decide_eq_true_eq] at h;obtain⟨j,b,d⟩:=h;obtain⟨n,rfl⟩:∃n:Nat,i=(n:Int):=⟨i.toNat,by omega⟩
  have b:n<s.2.1.length:=b;rw[xT,xT,AP d,Ag c,xG];by_cases f:(Be e a).1.2.1.length=0
  ·rw[show((((Be e a).1.2.1.length:Int))==0)=true from beq_iff_eq.2 (by omega),xT,Ag (by unfold lx;simp only[Bool.and_eq_true,decide_eq_true_eq];exact⟨by omega,b,trivial,d⟩),AP (AH.2 ⟨by omega,by omega⟩),xG];unfold I9;rw[show((Be e a).1.2.1.length==0)=true from beq_iff_eq.2 f];rfl
  ·rw[show((((Be e a).1.2.1.length:Int))==0)=false from beq_eq_false_iff_ne.2 (by omega),xF,D5 b];unfold I9;rw[show((Be e a).1.2.1.length==0)=false from beq_eq_false_iff_ne.2 f,show((n:Int)).toNat=n from rfl,dX _ _ _ b];rfl
def ABA (s:BB) (key:L8):AD:=bif (D0 (Ca key) (EH key) s.2.1 0).2 then Qr s.2.1 (D0 (Ca key) (EH key) s.2.1 0).1 else(key,[],())
def Bn (s:BB) (d:Aj):List AD×L3:=
 bif d.1==1&& !L2 (ABA s d.2.1) d.2.2.2.2.1 d.2.2.2.2.2.1 then(s.2.1,(9,0,()))
 else bif d.1 !=1&& !(D0 (Ca d.2.1) (EH d.2.1) s.2.1 0).2 then(s.2.1,(6,0,()))
 else bif d.1==3 then(bif (Be (ABA s d.2.1) d.2.2.2.1).2 then(I9 s.2.1 (D0 (Ca d.2.1) (EH d.2.1) s.2.1 0) (Be (ABA s d.2.1) d.2.2.2.1).1,(0,d.2.2.2.1,())) else(s.2.1,(6,0,())))
 else bif (Ba (ABA s d.2.1) (s.1,d.1==2,d.2.2.1,())).2&&((D0 (Ca d.2.1) (EH d.2.1) s.2.1 0).2|| !decide (40<=s.2.1.length)) then(I9 s.2.1 (D0 (Ca d.2.1) (EH d.2.1) s.2.1 0) (Ba (ABA s d.2.1) (s.1,d.1==2,d.2.2.1,())).1,(0,s.1,())) else(s.2.1,(5,0,()))
def Lb (q:Int) (e:AD):Bool:=decide (1<=e.2.1.length)&&(decide (e.2.1.length<=12)&&(decide ((Bi e).1<q)&&AY (Bi e).2.2.1))
def gx (s:BB) (d:Aj):Bool:=decide (s.2.1.length<=40)&&(Cd (s.2.1.map (Ca d.2.1))&&(s.2.1.all (Lb s.1)&&(d.1==1||(d.1==2||d.1==3))))
def yh:PSpec:=⟨[A9,A7],[A9,FR],λx=>gx x.1 x.2.1,λx=>(P9 x.1 (Bn x.1 x.2.1).1,(Bn x.1 x.2.1).2,())⟩
def dk (a:Int) (f:Bool->Gy):Gy:=bif a==2 then f true else f false
def sw (a:Int) (e:Gy) (hd b:Bool) (f c d:Gy):Gy:=bif a==3 then e else bif a==1 then(bif hd then gd [b] (bif a==2 then c else d) else gd [b] f) else bif a==2 then c else d
def ly (s:BB) (i:Int) (e:AD) (a:Int):Gy:=gd [QB s i (e.1,e.2.1,()) a] (some ((Hq s i (e.1,e.2.1,()) a).1,(Hq s i (e.1,e.2.1,()) a).2,()))
def xU (s:BB) (i:Int) (e:AD) (v:Ae):Gy:=bif (Ba (e.1,e.2.1,()) v).2 then gd (gX s.2.1 i++[decide (s.2.1.length<=1000000),CJ (e.1,e.2.1,())]) (sR s (s.2.1.set i.toNat (Ba (e.1,e.2.1,()) v).1) (0,s.1,())) else gd (gX s.2.1 i++[decide (s.2.1.length<=1000000),CJ (e.1,e.2.1,())]) (sR s (s.2.1.set i.toNat (Ba (e.1,e.2.1,()) v).1) (0,s.1,()))
def dY (l:List AD) (i:Int) (vs:List AD):Bool:=decide (0<=i)&&(decide (i.toNat<=l.length)&&(decide (vs.length=1)&&decide (l.length<=1000000)))
def inE (s:BB) (i:Int) (e:AD) (v:Ae):Gy:=bif (Ba e v).2 then gd [dY s.2.1 i [(Ba e v).1],decide (s.2.1.length<=1000000),CJ e] (sR s (s.2.1.take i.toNat++([(Ba e v).1]++s.2.1.drop i.toNat)) (0,s.1,())) else gd [dY s.2.1 i [(Ba e v).1],decide (s.2.1.length<=1000000),CJ e] (sR s (s.2.1.take i.toNat++([(Ba e v).1]++s.2.1.drop i.toNat)) (0,s.1,()))
def yi (s:BB) (d:Aj) (p:Int×Bool) (a:Bool) (E:AD):Gy:=
 bif p.2 then gd (gX s.2.1 p.1++[a]) (bif decide ((E.2.1.length:Int)>=12) then dk d.1 (λ_=>sw d.1 (ly s p.1 E d.2.2.2.1) (L2 (E.1,E.2.1,()) d.2.2.2.2.1 d.2.2.2.2.2.1) (Gx (E.1,E.2.1,())) (sR s s.2.1 (9,0,())) (sR s s.2.1 (5,0,())) (sR s s.2.1 (5,0,())))
  else dk d.1 (λg=>sw d.1 (ly s p.1 E d.2.2.2.1) (L2 (E.1,E.2.1,()) d.2.2.2.2.1 d.2.2.2.2.2.1) (Gx (E.1,E.2.1,())) (sR s s.2.1 (9,0,())) (xU s p.1 E (s.1,g,d.2.2.1,())) (xU s p.1 E (s.1,g,d.2.2.1,()))))
 else gd [a] (bif decide ((s.2.1.length:Int)>=40) then dk d.1 (λ_=>sw d.1 (ly s p.1 (d.2.1,[],()) d.2.2.2.1) (L2 (d.2.1,[],()) d.2.2.2.2.1 d.2.2.2.2.2.1) (Gx (d.2.1,[],())) (sR s s.2.1 (9,0,())) (sR s s.2.1 (6,0,())) (sR s s.2.1 (5,0,())))
  else dk d.1 (λg=>sw d.1 (ly s p.1 (d.2.1,[],()) d.2.2.2.1) (L2 (d.2.1,[],()) d.2.2.2.2.1 d.2.2.2.2.2.1) (Gx (d.2.1,[],())) (sR s s.2.1 (9,0,())) (sR s s.2.1 (6,0,())) (inE s p.1 (d.2.1,[],()) (s.1,g,d.2.2.1,()))))
theorem IM {α:Type} (lt eq:α->Bool) (l:List α):∃n:Nat,(D0 lt eq l 0).1=(n:Int)/\n<=l.length/\((D0 lt eq l 0).2=true->n<l.length):=by
 have:∀(l:List α) (i:Nat),∃n:Nat,(D0 lt eq l i).1=((i+n:Nat):Int)/\n<=l.length/\((D0 lt eq l i).2=true->n<l.length):=by
  intro l
  induction l with
  |nil=>exact λi=>⟨0,rfl,Nat.le_refl _,λh=>by cases h⟩
  |cons x r d=>
   intro i;unfold D0;cases lt x
   ·exact⟨0,rfl,Nat.zero_le _,λ_=>by simp⟩
   ·rw[xT];obtain⟨n,a,c,b⟩:=d (i+1);exact⟨n+1,by rw[a];congr 1;omega,by simp;omega,λh=>by have:=b h;simp;omega⟩
 obtain⟨n,a,c,b⟩:=this l 0;exact⟨n,by rw[a,Nat.zero_add],c,b⟩
theorem Jz {α β:Type} {l:List α} {i:Nat} (h:i<l.length) (a:List Bool) (y:Option β):gd (gX l (i:Int)++a) y=gd a y:=by
 show gd (decide ((i:Int).toNat<l.length)::decide (0<=(i:Int))::decide ((i:Int)<(l.length:Int))::a) y=_;rw[AP (by omega),AP (by omega),AP (by omega)]
theorem jQ {a:Int} {f d g e Y:Gy} {hd c:Bool} (h:a=3->f=Y) (b:c=true) (i:a=1->hd=false->d=Y) (j:a=1->hd=true->e=Y) (k:a=2->g=Y) (l:a=1\/a=2\/a=3):sw a f hd c d g e=Y:=by
 unfold sw;rcases l with rfl|rfl|rfl
 ·show(bif hd then gd [c] e else gd [c] d)=Y;rw[Ag b,Ag b,xG,xG];cases hd
  ·exact i rfl rfl
  ·exact j rfl rfl
 ·exact k rfl
 ·exact h rfl
theorem jR {a:Int} {f:Bool->Gy} {Y:Gy} (h:f (a==2)=Y):dk a f=Y:=by
 unfold dk;cases b:a==2
 ·rw[xF,<-h,b]
 ·rw[xT,<-h,b]
theorem YD {e:AD} {q:Int} (h:Lb q e=true):Gx e=true:=by
 unfold Lb at h;simp only[Bool.and_eq_true,decide_eq_true_eq] at h;unfold Gx CJ;rw[decide_eq_true (by omega),Tq (by omega),h.2.2.2];rfl
theorem J0 (s:BB) (l:List AD) (r:L3):sR s l r=some (P9 s l,r,()):=rfl
theorem tw {s:BB} {d:Aj} (h:gx s d=true):yi s d (D0 (Ca d.2.1) (EH d.2.1) s.2.1 0) (decide (s.2.1.length<=1000000)&&Cd (s.2.1.map (Ca d.2.1))) (s.2.1.getD (D0 (Ca d.2.1) (EH d.2.1) s.2.1 0).1.toNat (AB).dflt)=some (P9 s (Bn s d).1,(Bn s d).2,()):=by
 unfold gx at h;simp only[Bool.and_eq_true,Bool.or_eq_true,decide_eq_true_eq,beq_iff_eq] at h;obtain⟨I,D,F,J⟩:=h;have w:(decide (s.2.1.length<=1000000)&&Cd (s.2.1.map (Ca d.2.1)))=true:=by rw[decide_eq_true (by omega),D];rfl
 have B:∃n:Nat,(D0 (Ca d.2.1) (EH d.2.1) s.2.1 0).1=(n:Int)/\n<=s.2.1.length/\((D0 (Ca d.2.1) (EH d.2.1) s.2.1 0).2=true->n<s.2.1.length):=IM _ _ _;unfold yi Bn ABA;generalize D0 (Ca d.2.1) (EH d.2.1) s.2.1 0=p at B⊢;obtain⟨i,x⟩:=p;obtain⟨n,y,c,G⟩:=B;have y:i=(n:Int):=y
 subst y;rw[w];cases x
 ·
  rw[xF,xF,Ag rfl,xG];have j:Gx (d.2.1,[],())=true:=by unfold Gx;rfl
  have H:(Be (d.2.1,[],()) d.2.2.2.1).2=false:=rfl;have f:ly s (n:Int) (d.2.1,[],()) d.2.2.2.1=sR s s.2.1 (6,0,()):=by
   unfold ly;rw[Ag (by unfold QB;rw[show(Be ((d.2.1,[],()):AD) d.2.2.2.1).2=false from rfl];rfl),xG];rfl
  have a:∀v:Ae,Ba (d.2.1,[],()) v=((d.2.1,[v],()),true):=λv=>rfl
  by_cases q:40<=s.2.1.length
  ·rw[Au (by omega)];refine jR (jQ (λe=> ?_) j (λe hd=> ?_) (λe hd=> ?_) (λe=> ?_) (by omega))
   ·rw[f,J0,show(d.1==1)=false from beq_eq_false_iff_ne.2 (by omega),show(d.1 !=1)=true from bne_iff_ne.2 (by omega)];rfl
   ·rw[J0,show(d.1==1)=true from beq_iff_eq.2 e,hd];rfl
   ·rw[J0,show(d.1==1)=true from beq_iff_eq.2 e,hd,show(d.1 !=1)=false from bne_eq_false_iff_eq.2 e,show(d.1==3)=false from beq_eq_false_iff_ne.2 (by omega),decide_eq_true q,a];rfl
   ·rw[J0,show(d.1==1)=false from beq_eq_false_iff_ne.2 (by omega),show(d.1 !=1)=true from bne_iff_ne.2 (by omega)];rfl
  ·rw[Av (by omega)];refine jR (jQ (λe=> ?_) j (λe hd=> ?_) (λe hd=> ?_) (λe=> ?_) (by omega))
   ·rw[f,J0,show(d.1==1)=false from beq_eq_false_iff_ne.2 (by omega),show(d.1 !=1)=true from bne_iff_ne.2 (by omega)];rfl
   ·rw[J0,show(d.1==1)=true from beq_iff_eq.2 e,hd];rfl
   ·unfold inE;rw[a,xT,Ag (by unfold dY;simp only[Bool.and_eq_true,decide_eq_true_eq];exact⟨by omega,c,rfl,by omega⟩),AP (by omega),Ag (show CJ (d.2.1,[],())=true from rfl),xG,J0,show(d.1==1)=true from beq_iff_eq.2 e,hd,show(d.1 !=1)=false from bne_eq_false_iff_eq.2 e,show(d.1==3)=false from beq_eq_false_iff_ne.2 (by omega),decide_eq_false q,xF];rfl
   ·rw[J0,show(d.1==1)=false from beq_eq_false_iff_ne.2 (by omega),show(d.1 !=1)=true from bne_iff_ne.2 (by omega)];rfl
 ·have c:n<s.2.1.length:=G rfl;obtain⟨E,z⟩:∃E,E=Qr s.2.1 (n:Int):=⟨_,rfl⟩
  have A:s.2.1.getD ((n:Int)).toNat (AB).dflt=E:=by rw[z]
  have r:E∈s.2.1:=by
   rw[z];show s.2.1.getD n _∈s.2.1;rw[List.getD_eq_getElem?_getD,List.getElem?_eq_getElem c];exact List.getElem_mem c
  have l:=List.all_eq_true.1 F E r;have j:Gx E=true:=YD l;unfold Lb at l;simp only[Bool.and_eq_true,decide_eq_true_eq] at l;obtain⟨K,L,C,M⟩:=l;have m:CJ E=true:=decide_eq_true (by omega);rw[xT,xT,Jz c,Ag rfl,xG,A,<-z];obtain⟨k,vs,⟨⟩⟩:=E;have C:(Bi (k,vs,())).1<s.1:=C
  have f:ly s (n:Int) (k,vs,()) d.2.2.2.1=some ((Hq s (n:Int) (k,vs,()) d.2.2.2.1).1,(Hq s (n:Int) (k,vs,()) d.2.2.2.1).2,()):=by
   unfold ly;rw[Ag (by
    unfold QB;rw[show CJ (k,vs,())=true from m,show(decide (0<=(n:Int))&&(decide (((n:Int)).toNat<s.2.1.length)&&decide (s.2.1.length<=1000000)))=true from by simp only[Bool.and_eq_true,decide_eq_true_eq];exact⟨by omega,c,by omega⟩,Bool.or_true];rfl),xG]
  by_cases t:12<=vs.length
  ·rw[Au (show(vs.length:Int)>=12 by omega)];have a:∀v:Ae,Ba (k,vs,()) v=((k,vs,()),false):=λv=>by
    unfold Ba;rw[show decide (12<=((k,vs,()):AD).2.1.length)=true from decide_eq_true t];rfl
   refine jR (jQ (λe=> ?_) j (λe hd=> ?_) (λe hd=> ?_) (λe=> ?_) (by omega))
   ·rw[f,show(d.1==1)=false from beq_eq_false_iff_ne.2 (by omega),show(d.1==3)=true from beq_iff_eq.2 e];unfold Hq;rw[Bool.false_and,xF,show(d.1 !=1&& !true)=false from Bool.and_false _,xF,xT];cases(Be (k,vs,()) d.2.2.2.1).2<;>rfl
   ·rw[J0,show(d.1==1)=true from beq_iff_eq.2 e,hd];rfl
   ·rw[J0,show(d.1==1)=true from beq_iff_eq.2 e,hd,show(d.1==3)=false from beq_eq_false_iff_ne.2 (by omega),a,show(d.1 !=1&& !true)=false from Bool.and_false _];rfl
   ·rw[J0,show(d.1==1)=false from beq_eq_false_iff_ne.2 (by omega),show(d.1==3)=false from beq_eq_false_iff_ne.2 (by omega),a,show(d.1 !=1&& !true)=false from Bool.and_false _];rfl
  ·rw[Av (show ¬(vs.length:Int)>=12 by omega)];have a:∀(g:Bool) (b:L8),Ba (k,vs,()) (s.1,g,b,())=((k,vs++[(s.1,g,b,())],()),true):=λg b=>by
    unfold Ba;rw[show decide (12<=((k,vs,()):AD).2.1.length)=false from decide_eq_false t,show decide (((s.1,g,b,()):Ae).1<=(Bi (k,vs,())).1)=false from decide_eq_false (show ¬s.1<=(Bi (k,vs,())).1 by omega),Bool.and_false];rfl
   have u:∀(g:Bool),xU s (n:Int) (k,vs,()) (s.1,g,d.2.2.1,())=sR s (s.2.1.set n (k,vs++[(s.1,g,d.2.2.1,())],())) (0,s.1,()):=λg=>by
    unfold xU;rw[a,xT,Jz c,AP (by omega),Ag m,xG];rfl
   have o:∀g:Bool,I9 s.2.1 ((n:Int),true) (k,vs++[(s.1,g,d.2.2.1,())],())=s.2.1.set n (k,vs++[(s.1,g,d.2.2.1,())],()):=λg=>by
    rw[dX _ _ _ c];unfold I9;rw[show(((k,vs++[(s.1,g,d.2.2.1,())],()):AD).2.1.length==0)=false from beq_eq_false_iff_ne.2 (by show(vs++[_]).length≠0;simp)];rfl
   refine jR (jQ (λe=> ?_) j (λe hd=> ?_) (λe hd=> ?_) (λe=> ?_) (by omega))
   ·rw[f,show(d.1==1)=false from beq_eq_false_iff_ne.2 (by omega),show(d.1==3)=true from beq_iff_eq.2 e];unfold Hq;rw[Bool.false_and,xF,show(d.1 !=1&& !true)=false from Bool.and_false _,xF,xT];cases(Be (k,vs,()) d.2.2.2.1).2<;>rfl
   ·rw[J0,show(d.1==1)=true from beq_iff_eq.2 e,hd];rfl
   ·rw[u,J0,show(d.1==1)=true from beq_iff_eq.2 e,hd,show(d.1==3)=false from beq_eq_false_iff_ne.2 (by omega),a,show(d.1 !=1&& !true)=false from Bool.and_false _];show _=some (P9 s (I9 s.2.1 ((n:Int),true) (k,vs++[(s.1,d.1==2,d.2.2.1,())],())),(0,s.1,()),());rw[o]
   ·rw[u,J0,show(d.1==1)=false from beq_eq_false_iff_ne.2 (by omega),show(d.1==3)=false from beq_eq_false_iff_ne.2 (by omega),a,show(d.1 !=1&& !true)=false from Bool.and_false _];show _=some (P9 s (I9 s.2.1 ((n:Int),true) (k,vs++[(s.1,d.1==2,d.2.2.1,())],())),(0,s.1,()),());rw[o]
end Nice
namespace Go.Proofs.YtkgejlchafionaaGreatDoor
open Tryz
open Nice
def tx (x:AA [A9,IT,AB,IT]):Gy:=fO prog (Dc [(154,P8)] [(109,UN),(155,fK)]) (AC []) f106 [A9,IT,AB,IT] [A9,FR] x
theorem tz (q:Int) (l:List AD) (m:List AU) (a b c d e i:Int) (k:L8) (vs:List Ae) (f:Int):tx ((q,l,m,(a,b,c,d,e,()),()),i,(k,vs,()),f,())=dW (q,l,m,(a,b,c,d,e,()),()) i (k,vs,()) f:=by kernel_rfl
theorem oe:PC 106 dV:=(AN (BN (l:=[(154,P8)]) (o:=[(109,UN),(155,fK)]) ⟨oZ,trivial⟩ ⟨fJ,qT,trivial⟩) AM func106 (by kernel_rfl) (by decide)).nice λ⟨⟨q,l,m,⟨a,b,c,d,e,()⟩,()⟩,i,⟨k,vs,()⟩,f,()⟩ h=>(tz q l m a b c d e i k vs f).trans (jP h)
abbrev yj:Eng.Env:=Dc [(105,dN),(107,aC),(108,P7),(106,dV)] [(109,UN),(110,fG)]
def odo (x:AA [A9,A7]):Gy:=fO prog yj (AC []) f68 [A9,A7] [A9,FR] x
theorem edo (q:Int) (l:List AD) (m:List AU) (a b c d e i:Int) (key body:L8) (f cond:Int) (g:L8) (h low:Int):
 odo ((q,l,m,(a,b,c,d,e,()),()),(i,key,body,f,cond,g,h,low,()),())=yi (q,l,m,(a,b,c,d,e,()),()) (i,key,body,f,cond,g,h,low,()) (D0 (Ca key) (EH key) l 0) (decide (l.length<=1000000)&&Cd (l.map (Ca key))) (l.getD (D0 (Ca key) (EH key) l 0).1.toNat (AB).dflt):=by kernel_rfl
theorem yk:PC 68 yh:=(AN (BN (l:=[(105,dN),(107,aC),(108,P7),(106,dV)]) (o:=[(109,UN),(110,fG)]) ⟨oT,tg,oX,oe,trivial⟩ ⟨fJ,qS,trivial⟩) AM func68 (by kernel_rfl) (by decide)).nice λ⟨⟨q,l,m,⟨a,b,c,d,e,()⟩,()⟩,⟨j,key,body,f,cond,g,i,low,()⟩,()⟩ h=>
 (edo q l m a b c d e j key body f cond g i low).trans (tw (s:=(q,l,m,(a,b,c,d,e,()),())) (d:=(j,key,body,f,cond,g,i,low,())) h)
end Go.Proofs.YtkgejlchafionaaGreatDoor
namespace Nice
abbrev QC:=Option (AA [.slice AB,FR])
def dZ:PSpec:=⟨[A9,A7],[.slice AB,FR],λx=>gx x.1 x.2.1,λx=>((Bn x.1 x.2.1).1,(Bn x.1 x.2.1).2,())⟩
def lr (l:List AD) (r:L3):QC:=some (l,r,())
abbrev jS (n:Nat):Bool:=decide ((2*n+400)*40<=281474976710656)
def uA (l:List AD) (i:Int):List Bool:=[jS (0+(Bw l none (some i)).length),decide (0<=i),decide (i<=(l.length:Int))]
def da (l:List AD) (i j:Int) (a:List Bool) (e:AD) (r:L3):QC:=
 bif decide ((e.2.1.length:Int)>0) then gd (jS (([]++Bw l none (some i)++[(e.1,e.2.1,())]).length+(Bw l (some j) none).length)::(a++[jS (([]++Bw l none (some i)).length+[(e.1,e.2.1,())].length)])) (lr ([]++Bw l none (some i)++[(e.1,e.2.1,())]++Bw l (some j) none) r)
 else gd (jS (([]++Bw l none (some i)).length+(Bw l (some j) none).length)::a) (lr ([]++Bw l none (some i)++Bw l (some j) none) r)
abbrev rZ (l:List AD) (i:Int):List Bool:=[decide (0<=i+1),decide (i+1<=(l.length:Int)),decide (Ad .i64 (i+1))]
abbrev gjF (l:List AD) (i:Int):List Bool:=[decide (0<=i),decide (i<=(l.length:Int))]
def uB (l:List AD) (i j:Int) (b:List Bool) (E:AD) (a:Int):QC:=bif (Be E a).2 then gd (uA l i++[CJ E]) (da l i j b (Be E a).1 (0,a,())) else gd [CJ E] (lr l (6,0,()))
def xV (l:List AD) (i:Int) (E:AD) (v:Ae):QC:=bif (Ba E v).2 then gd (uA l i++[CJ E]) (da l i (i+1) (rZ l i) (Ba E v).1 (0,v.1,())) else gd [CJ E] (lr l (5,0,()))
def adF (l:List AD) (i:Int) (E:AD) (v:Ae):QC:=bif (Ba E v).2 then gd [CJ E] (bif decide ((l.length:Int)>=40) then lr l (5,0,()) else gd (uA l i) (da l i i (gjF l i) (Ba E v).1 (0,v.1,()))) else gd [CJ E] (lr l (5,0,()))
def yR (a:Int) (c:QC) (b:Bool->QC):QC:=bif a==3 then c else bif a==2 then b true else b false
def xR (a:Int) (hd c:Bool) (b d Y:QC):QC:=bif a==1 then(bif hd then gd [c] (bif a !=1 then d else Y) else gd [c] b) else bif a !=1 then d else Y
def db (s:BB) (d:Aj) (p:Int×Bool) (a:Bool) (E:AD):QC:=
 bif p.2 then gd (gX s.2.1 p.1++[a]) (xR d.1 (L2 (E.1,E.2.1,()) d.2.2.2.2.1 d.2.2.2.2.2.1) (Gx (E.1,E.2.1,())) (lr s.2.1 (9,0,())) (yR d.1 (uB s.2.1 p.1 (p.1+1) (rZ s.2.1 p.1) (E.1,E.2.1,()) d.2.2.2.1) (λg=>xV s.2.1 p.1 (E.1,E.2.1,()) (s.1,g,d.2.2.1,()))) (yR d.1 (uB s.2.1 p.1 (p.1+1) (rZ s.2.1 p.1) (E.1,E.2.1,()) d.2.2.2.1) (λg=>xV s.2.1 p.1 (E.1,E.2.1,()) (s.1,g,d.2.2.1,()))))
 else gd [a] (xR d.1 (L2 (d.2.1,[],()) d.2.2.2.2.1 d.2.2.2.2.2.1) (Gx (d.2.1,[],())) (lr s.2.1 (9,0,())) (lr s.2.1 (6,0,())) (yR d.1 (uB s.2.1 p.1 p.1 (gjF s.2.1 p.1) (d.2.1,[],()) d.2.2.2.1) (λg=>adF s.2.1 p.1 (d.2.1,[],()) (s.1,g,d.2.2.1,()))))
theorem uC {a:Int} {b Y:QC} {c:Bool->QC} (f:a=3->b=Y) (h:a≠3->c (a==2)=Y):yR a b c=Y:=by
 unfold yR;cases d:a==3
 ·have h:=h (beq_eq_false_iff_ne.1 d);rw[xF];cases e:a==2
  ·rw[e] at h;exact h
  ·rw[e] at h;exact h
 ·exact f (beq_iff_eq.1 d)
theorem uD {b:Int} {hd d:Bool} {a f Y Z:QC} (c:d=true) (g:b=1->hd=false->a=Z) (h:b=1->hd=true->Y=Z) (i:b≠1->f=Z):xR b hd d a f Y=Z:=by
 unfold xR;rw[Ag c,Ag c,xG,xG];by_cases e:b=1
 ·subst e;show(bif hd then Y else a)=Z;cases hd
  ·exact g rfl rfl
  ·exact h rfl rfl
 ·rw[beq_eq_false_iff_ne.2 e,bne_iff_ne.2 e];exact i e
theorem WU {l:List AD} {n m:Nat} {a:List Bool} {e:AD} {r:L3} {b:Bool} (h:l.length<=40) (i:n<=l.length) (f:m=bif b then n+1 else n) (g:∀y:QC,gd a y=y) (c:∀(p:Bool) (y:QC),p=true->gd (a++[p]) y=y):da l (n:Int) (m:Int) a e r=lr (I9 l ((n:Int),b) e) r:=by
 have j:(l.take n).length<=40:=by rw[List.length_take];omega
 have k:(l.drop m).length<=40:=by rw[List.length_drop];omega
 unfold da I9;rw[Jy,MS];have hd:(bif ((n:Int),b).2 then((n:Int),b).1.toNat+1 else((n:Int),b).1.toNat)=m:=f.symm;rw[hd];by_cases d:e.2.1.length=0
 ·rw[Av (by omega),AP (by simp only[List.nil_append];omega),g,show(e.2.1.length==0)=true from beq_iff_eq.2 d,xT,List.nil_append,List.nil_append];rfl
 ·rw[Au (by omega),AP (by simp only[List.nil_append,List.length_append,List.length_cons,List.length_nil];omega),c _ _ (decide_eq_true (by simp only[List.nil_append,List.length_cons,List.length_nil];omega)),show(e.2.1.length==0)=false from beq_eq_false_iff_ne.2 d,xF,List.nil_append,List.append_assoc];rfl
theorem dc {l:List AD} {n:Nat} (b:l.length<=40) (c:n<=l.length) (a:List Bool) (y:QC):gd (uA l (n:Int)++a) y=gd a y:=by
 have d:(l.take n).length<=40:=by rw[List.length_take];omega
 unfold uA;rw[Jy];simp only[List.cons_append,List.nil_append];rw[AP (by omega),AP (by omega),AP (by omega)]
theorem jT {s:BB} {d:Aj} (h:gx s d=true):db s d (D0 (Ca d.2.1) (EH d.2.1) s.2.1 0) (decide (s.2.1.length<=1000000)) (s.2.1.getD (D0 (Ca d.2.1) (EH d.2.1) s.2.1 0).1.toNat (AB).dflt)=some ((Bn s d).1,(Bn s d).2,()):=by
 unfold gx at h;simp only[Bool.and_eq_true,Bool.or_eq_true,decide_eq_true_eq,beq_iff_eq] at h;obtain⟨o,K,I,L⟩:=h;have q:∃n:Nat,(D0 (Ca d.2.1) (EH d.2.1) s.2.1 0).1=(n:Int)/\n<=s.2.1.length/\((D0 (Ca d.2.1) (EH d.2.1) s.2.1 0).2=true->n<s.2.1.length):=IM _ _ _;unfold db Bn ABA
 generalize D0 (Ca d.2.1) (EH d.2.1) s.2.1 0=p at q⊢;obtain⟨i,x⟩:=p;obtain⟨n,z,c,J⟩:=q;have z:i=(n:Int):=z;subst z;rw[decide_eq_true (show s.2.1.length<=1000000 by omega)];cases x
 ·rw[xF,xF,Ag rfl,xG];have f:Gx (d.2.1,[],())=true:=by unfold Gx;rfl
  have A:∀v:Ae,Ba (d.2.1,[],()) v=((d.2.1,[v],()),true):=λv=>rfl
  refine uD f (λe hd=> ?_) (λe hd=> ?_) (λe=> ?_)
  ·rw[show(d.1==1)=true from beq_iff_eq.2 e,hd];rfl
  ·refine uC (λw=>by omega) λ_=> ?_
   unfold adF;rw[show(d.1==1)=true from beq_iff_eq.2 e,hd,show(d.1 !=1)=false from bne_eq_false_iff_eq.2 e,show(d.1==3)=false from beq_eq_false_iff_ne.2 (by omega),A,xT,Ag (show CJ (d.2.1,[],())=true from rfl),xG];by_cases r:40<=s.2.1.length
   ·rw[Au (by omega),decide_eq_true r];rfl
   ·have F:=dc (l:=s.2.1) (n:=n) o c [];rw[List.append_nil] at F;rw[Av (by omega),decide_eq_false r,F,xG];exact(WU (b:=false) (m:=n) o c rfl (λy=>by
      show gd [decide (0<=(n:Int)),decide ((n:Int)<=(s.2.1.length:Int))] y=y;rw[AP (by omega),AP (by omega),xG]) (λp y q=>by
      show gd [decide (0<=(n:Int)),decide ((n:Int)<=(s.2.1.length:Int)),p] y=y;rw[AP (by omega),AP (by omega),Ag q,xG])).trans rfl
  ·rw[show(d.1==1)=false from beq_eq_false_iff_ne.2 e,show(d.1 !=1)=true from bne_iff_ne.2 e];rfl
 ·have j:n<s.2.1.length:=J rfl;obtain⟨E,B⟩:∃E,E=Qr s.2.1 (n:Int):=⟨_,rfl⟩
  have C:s.2.1.getD ((n:Int)).toNat (AB).dflt=E:=by rw[B]
  have t:E∈s.2.1:=by
   rw[B];show s.2.1.getD n _∈s.2.1;rw[List.getD_eq_getElem?_getD,List.getElem?_eq_getElem j];exact List.getElem_mem j
  have D:=List.all_eq_true.1 I E t;have f:Gx E=true:=YD D;have a:CJ E=true:=by
   unfold Gx at f;rw[Bool.and_eq_true] at f;exact f.1
  rw[xT,xT,Jz j,Ag rfl,xG,C,<-B];obtain⟨k,vs,⟨⟩⟩:=E;have G:∀y:QC,gd (rZ s.2.1 (n:Int)) y=y:=λy=>by
   show gd [decide (0<=(n:Int)+1),decide ((n:Int)+1<=(s.2.1.length:Int)),decide (Ad .i64 ((n:Int)+1))] y=y;rw[AP (by omega),AP (by omega),AP (AH.2 ⟨by omega,by omega⟩),xG]
  have u:∀(p:Bool) (y:QC),p=true->gd (rZ s.2.1 (n:Int)++[p]) y=y:=λp y q=>by
   show gd [decide (0<=(n:Int)+1),decide ((n:Int)+1<=(s.2.1.length:Int)),decide (Ad .i64 ((n:Int)+1)),p] y=y;rw[AP (by omega),AP (by omega),AP (AH.2 ⟨by omega,by omega⟩),Ag q,xG]
  have H:¬(d.1=1/\L2 (k,vs,()) d.2.2.2.2.1 d.2.2.2.2.2.1=false)->yR d.1 (uB s.2.1 (n:Int) ((n:Int)+1) (rZ s.2.1 (n:Int)) (k,vs,()) d.2.2.2.1) (λg=>xV s.2.1 (n:Int) (k,vs,()) (s.1,g,d.2.2.1,()))=
    some ((bif d.1==3 then(bif (Be (k,vs,()) d.2.2.2.1).2 then(I9 s.2.1 ((n:Int),true) (Be (k,vs,()) d.2.2.2.1).1,(0,d.2.2.2.1,())) else(s.2.1,(6,0,()))) else bif (Ba (k,vs,()) (s.1,d.1==2,d.2.2.1,())).2 then(I9 s.2.1 ((n:Int),true) (Ba (k,vs,()) (s.1,d.1==2,d.2.2.1,())).1,(0,s.1,())) else(s.2.1,(5,0,())):List AD×L3).1,
     (bif d.1==3 then(bif (Be (k,vs,()) d.2.2.2.1).2 then(I9 s.2.1 ((n:Int),true) (Be (k,vs,()) d.2.2.2.1).1,(0,d.2.2.2.1,())) else(s.2.1,(6,0,()))) else bif (Ba (k,vs,()) (s.1,d.1==2,d.2.2.1,())).2 then(I9 s.2.1 ((n:Int),true) (Ba (k,vs,()) (s.1,d.1==2,d.2.2.1,())).1,(0,s.1,())) else(s.2.1,(5,0,())):List AD×L3).2,()):=λ_=>by
   refine uC (λw=> ?_) λw=> ?_
   ·rw[show(d.1==3)=true from beq_iff_eq.2 w,xT];unfold uB;cases(Be (k,vs,()) d.2.2.2.1).2
    ·rw[xF,xF,Ag a,xG];rfl
    ·rw[xT,xT,dc o c,Ag a,xG,show(n:Int)+1=((n+1:Nat):Int) from rfl,WU (b:=true) (m:=n+1) o c rfl G u];rfl
   ·rw[show(d.1==3)=false from beq_eq_false_iff_ne.2 w,xF];unfold xV;cases(Ba (k,vs,()) (s.1,d.1==2,d.2.2.1,())).2
    ·rw[xF,xF,Ag a,xG];rfl
    ·rw[xT,xT,dc o c,Ag a,xG,show(n:Int)+1=((n+1:Nat):Int) from rfl,WU (b:=true) (m:=n+1) o c rfl G u];rfl
  refine uD f (λe hd=> ?_) (λe hd=> ?_) (λe=> ?_)
  ·rw[show(d.1==1)=true from beq_iff_eq.2 e,hd];rfl
  ·rw[H (λh=>by rw[hd] at h;cases h.2),show(d.1==1)=true from beq_iff_eq.2 e,hd,show(d.1 !=1&& !true)=false from Bool.and_false _,Bool.true_or,Bool.and_true];rfl
  ·rw[H (λh=>e h.1),show(d.1==1)=false from beq_eq_false_iff_ne.2 e,show(d.1 !=1&& !true)=false from Bool.and_false _,Bool.true_or,Bool.and_true];rfl
end Nice
namespace Go.Proofs.YtkgejlchafionaaGreatDoor
open Tryz
open Nice
abbrev yl:Eng.Env:=Dc [(52,gT),(61,aC),(62,P8),(63,P7)] []
def uE (x:AA [A9,A7]):QC:=fO prog yl (AC []) f35 [A9,A7] [.slice AB,FR] x
theorem uF (q:Int) (l:List AD) (m:List AU) (a b c d e i:Int) (key body:L8) (f cond:Int) (g:L8) (h low:Int):
 uE ((q,l,m,(a,b,c,d,e,()),()),(i,key,body,f,cond,g,h,low,()),())=db (q,l,m,(a,b,c,d,e,()),()) (i,key,body,f,cond,g,h,low,()) (KN key l 0) (decide (l.length<=1000000)) (l.getD (KN key l 0).1.toNat (AB).dflt):=by kernel_rfl
theorem og:PC 35 dZ:=(AN (BN (l:=[(52,gT),(61,aC),(62,P8),(63,P7)]) (o:=[]) ⟨mn,oV,oa,oY,trivial⟩ trivial) AM func35 (by kernel_rfl) (by decide)).nice λ⟨⟨q,l,m,⟨a,b,c,d,e,()⟩,()⟩,⟨j,key,body,f,cond,g,i,low,()⟩,()⟩ h=>by
 refine(uF q l m a b c d e j key body f cond g i low).trans ?_;rw[e9];exact jT (s:=(q,l,m,(a,b,c,d,e,()),())) (d:=(j,key,body,f,cond,g,i,low,())) h
end Go.Proofs.YtkgejlchafionaaGreatDoor
namespace Nice
def YE (d:Aj):Bool:=d.2.2.2.1==0&&(decide (d.2.2.1.length<=300)&&(decide (0<=d.2.2.2.2.1)&&(decide (d.2.2.2.2.1<=2)&&(bif d.2.2.2.2.1==2 then(DT d.2.2.2.2.2.1).2 else d.2.2.2.2.2.1==[]))))
def K3 (d:Aj):Bool:=d.2.2.1==[]&&(d.2.2.2.2.1==0&&d.2.2.2.2.2.1==[])
def Hr (d:Aj):Bool:=bif d.1==1 then YE d else bif d.1==2 then K3 d&&d.2.2.2.1==0 else bif d.1==3 then K3 d&&(decide (1<=d.2.2.2.1)&&decide (d.2.2.2.1<=1099511627776)) else false
def Cw (d:Aj):Bool:=isKey d.2.1&&(!(Ai d.2.2.2.2.2.2.1==0)&&(!decide (d.2.2.2.2.2.2.2.1<0)&&(!decide (d.2.2.2.2.2.2.2.1>d.2.2.2.2.2.2.1)&&Hr d)))
def Lc:PSpec:=⟨[A7],[.bool],λx=>AY x.1.2.1,λx=>(Cw x.1,())⟩
def YF (d:Aj) (Y:BO):BO:=bif isKey d.2.1 then(bif Ai d.2.2.2.2.2.2.1==0 then gd [AY d.2.1] (bO false) else bif decide (d.2.2.2.2.2.2.2.1<0) then gd [AY d.2.1] (bO false) else bif decide (d.2.2.2.2.2.2.2.1>d.2.2.2.2.2.2.1) then gd [AY d.2.1] (bO false) else gd [AY d.2.1] Y) else gd [AY d.2.1] (bO false)
def dd (d:Aj) (k:Bool->BO):BO:=bif d.2.2.1==[] then(bif d.2.2.2.2.1==0 then(bif d.2.2.2.2.2.1==[] then k true else k false) else k false) else k false
def de (d:Aj) (a:Bool):BO:=bif d.2.2.2.1==0 then bif decide ((d.2.2.1.length:Int)<=300) then bif decide (d.2.2.2.2.1>=0) then bif decide (d.2.2.2.2.1<=2) then(bif a then(bif d.2.2.2.2.1==2 then bO true else bO false) else bif d.2.2.2.2.1==2 then bO false else bif d.2.2.2.2.2.1==[] then bO true else bO false) else bO false else bO false else bO false else bO false
def lz (d:Aj) (a:Bool):BO:=bif a then(bif d.2.2.2.1==0 then bO true else bO false) else bO false
def l3 (d:Aj) (a:Bool):BO:=bif a then(bif decide (d.2.2.2.1>=1) then(bif decide (d.2.2.2.1<=1099511627776) then bO true else bO false) else bO false) else bO false
def xW (d:Aj) (b a:Bool):BO:=bif d.1==1 then de d b else bif d.1==2 then lz d a else bif d.1==3 then l3 d a else bO false
def dmE (d:Aj):BO:=YF d (bif (DT d.2.2.2.2.2.1).2 then dd d (xW d true) else dd d (xW d false))
def ABS (d:Aj) (a:Bool):BO:=bif decide ((d.2.2.1.length:Int)<=300) then bif d.2.2.2.1==0 then bif decide (d.2.2.2.2.1>=0) then bif decide (d.2.2.2.2.1<=2) then(bif d.2.2.2.2.1==2 then(bif a then bO true else bif d.2.2.2.2.1 !=2 then(bif d.2.2.2.2.2.1==[] then bO true else bO false) else bO false) else bif d.2.2.2.2.1 !=2 then(bif d.2.2.2.2.2.1==[] then bO true else bO false) else bO false) else bO false else bO false else bO false else bO false
def l4 (d:Aj):BO:=bif d.2.2.1==[] then bif d.2.2.2.1==0 then bif d.2.2.2.2.1==0 then bif d.2.2.2.2.2.1==[] then bO true else bO false else bO false else bO false else bO false
def l5 (d:Aj):BO:=bif d.2.2.1==[] then bif decide (d.2.2.2.1>=1) then bif decide (d.2.2.2.1<=1099511627776) then bif d.2.2.2.2.1==0 then bif d.2.2.2.2.2.1==[] then bO true else bO false else bO false else bO false else bO false else bO false
def xX (d:Aj) (a:Bool):BO:=bif d.1==1 then ABS d a else bif d.1==2 then l4 d else bif d.1==3 then l5 d else bO false
def rdE (d:Aj):BO:=YF d (bif (Fw d.2.2.2.2.2.1).2 then xX d true else xX d false)
theorem YG {d:Aj} {Y:BO} (h:AY d.2.1=true) (a:Y=bO (Hr d)):YF d Y=bO (Cw d):=by
 subst a;unfold YF Cw;simp only[Ag h,xG];cases isKey d.2.1<;>cases Ai d.2.2.2.2.2.2.1==0<;>cases decide (d.2.2.2.2.2.2.2.1<0)<;>cases decide (d.2.2.2.2.2.2.2.1>d.2.2.2.2.2.2.1)<;>rfl
theorem oh {d:Aj} {k:Bool->BO}:dd d k=k (K3 d):=by
 unfold dd K3;cases d.2.2.1==[]<;>cases d.2.2.2.2.1==0<;>cases d.2.2.2.2.2.1==[]<;>rfl
theorem aE:(DT []).2=false:=by decide
theorem QD {d:Aj} {a:Bool} (h:(DT d.2.2.2.2.2.1).2=a):de d a=bO (YE d)/\ABS d a=bO (YE d):=by
 unfold de ABS YE;rw[h,show decide ((d.2.2.1.length:Int)<=300)=decide (d.2.2.1.length<=300) from by congr 1;exact propext (by omega),show decide (d.2.2.2.2.1>=0)=decide (0<=d.2.2.2.2.1) from rfl,show(d.2.2.2.2.1 !=2)= !(d.2.2.2.2.1==2) from rfl];have c:a=true->(d.2.2.2.2.2.1==[])=false:=λe=>by
  rw[beq_eq_false_iff_ne];intro b;rw[b,aE] at h;rw[<-h] at e;cases e
 cases a
 ·cases d.2.2.2.1==0<;>cases decide (d.2.2.1.length<=300)<;>cases decide (0<=d.2.2.2.2.1)<;>cases decide (d.2.2.2.2.1<=2)<;>cases d.2.2.2.2.1==2<;>cases d.2.2.2.2.2.1==[]<;>exact⟨rfl,rfl⟩
 ·rw[c rfl];cases d.2.2.2.1==0<;>cases decide (d.2.2.1.length<=300)<;>cases decide (0<=d.2.2.2.2.1)<;>cases decide (d.2.2.2.2.1<=2)<;>cases d.2.2.2.2.1==2<;>exact⟨rfl,rfl⟩
theorem uG {d:Aj} (h:AY d.2.1=true):dmE d=bO (Cw d):=by
 refine YG h ?_;have c:∀b,(DT d.2.2.2.2.2.1).2=b->dd d (xW d b)=bO (Hr d):=λb a=>by
  rw[oh];unfold xW Hr;rw[(QD a).1];unfold lz l3;rw[show decide (d.2.2.2.1>=1)=decide (1<=d.2.2.2.1) from rfl];cases d.1==1<;>cases d.1==2<;>cases d.1==3<;>cases K3 d<;>cases d.2.2.2.1==0<;>cases decide (1<=d.2.2.2.1)<;>cases decide (d.2.2.2.1<=1099511627776)<;>rfl
 cases a:(DT d.2.2.2.2.2.1).2
 ·rw[xF];exact c _ a
 ·rw[xT];exact c _ a
theorem uH {d:Aj} (h:AY d.2.1=true):rdE d=bO (Cw d):=by
 refine YG h ?_;have c:∀b,(DT d.2.2.2.2.2.1).2=b->xX d b=bO (Hr d):=λb a=>by
  unfold xX Hr;rw[(QD a).2];unfold l4 l5 K3;rw[show decide (d.2.2.2.1>=1)=decide (1<=d.2.2.2.1) from rfl];cases d.1==1<;>cases d.1==2<;>cases d.1==3<;>cases d.2.2.1==[]<;>cases d.2.2.2.2.1==0<;>cases d.2.2.2.2.2.1==[]<;>cases d.2.2.2.1==0<;>cases decide (1<=d.2.2.2.1)<;>cases decide (d.2.2.2.1<=1099511627776)<;>rfl
 rw[<-Rm];cases a:(DT d.2.2.2.2.2.1).2
 ·rw[xF];exact c _ a
 ·rw[xT];exact c _ a
end Nice
namespace Go.Proofs.YtkgejlchafionaaGreatDoor
open Tryz
open Nice
def uI (x:AA [A7]):BO:=fO prog (Dc [(100,Az),(66,FD),(101,JI)] []) (AC []) f65 [A7] [.bool] x
theorem uJ (d:Int) (key body:L8) (a cond:Int) (b:L8) (c low:Int):uI ((d,key,body,a,cond,b,c,low,()),())=dmE (d,key,body,a,cond,b,c,low,()):=by kernel_rfl
theorem oi:PC 65 Lc:=(AN (BN (l:=[(100,Az),(66,FD),(101,JI)]) (o:=[]) ⟨M8,U9,YM,trivial⟩ trivial) AM func65 (by kernel_rfl) (by decide)).nice λ⟨⟨e,key,body,a,cond,b,c,low,()⟩,()⟩ h=>(uJ e key body a cond b c low).trans (uG (d:=(e,key,body,a,cond,b,c,low,())) h)
def oj (x:AA [A7]):BO:=fO prog (Dc [(26,Az),(25,FD),(27,Wy)] []) (AC []) f11 [A7] [.bool] x
theorem ACD (d:Int) (key body:L8) (a cond:Int) (b:L8) (c low:Int):oj ((d,key,body,a,cond,b,c,low,()),())=rdE (d,key,body,a,cond,b,c,low,()):=by kernel_rfl
theorem YH:PC 11 Lc:=(AN (BN (l:=[(26,Az),(25,FD),(27,Wy)]) (o:=[]) ⟨Vd,ABG,jh,trivial⟩ trivial) AM func11 (by kernel_rfl) (by decide)).nice λ⟨⟨e,key,body,a,cond,b,c,low,()⟩,()⟩ h=>(ACD e key body a cond b c low).trans (uH (d:=(e,key,body,a,cond,b,c,low,())) h)
end Go.Proofs.YtkgejlchafionaaGreatDoor
namespace Nice
abbrev PA (d:Aj):Int:=d.2.2.2.2.2.2.1
abbrev O0 (d:Aj):Int:=d.2.2.2.2.2.2.2.1
abbrev FV (d:Aj):Int:=Ai d.2.2.2.2.2.2.1-1
abbrev HG (s:BB):BB:=(s.1+1,s.2.1,s.2.2.1,s.2.2.2.1,())
abbrev O1 (s:BB) (d:Aj):Int×Bool:=D0 (Do (PA d)) (Fq (PA d)) s.2.2.1 0
abbrev aF (s:BB) (d:Aj):AU:=(PA d,(Bn (HG s) d).2,())
def uK (w:Dd) (h x:Int):Dd:=bif h==0 then(x,w.2.1,w.2.2.1,w.2.2.2.1,w.2.2.2.2.1,()) else bif h==1 then(w.1,x,w.2.2.1,w.2.2.2.1,w.2.2.2.2.1,()) else bif h==2 then(w.1,w.2.1,x,w.2.2.2.1,w.2.2.2.2.1,()) else bif h==3 then(w.1,w.2.1,w.2.2.1,x,w.2.2.2.2.1,()) else(w.1,w.2.1,w.2.2.1,w.2.2.2.1,x,())
abbrev Tt (m:List AU) (i:Int) (x:AU):List AU:=m.take i.toNat++([x]++m.drop i.toNat)
def CM (s:BB) (d:Aj):BB×L3:=
 bif Bb s&&Cw d then
  bif decide (s.1>=1099511627776) then(s,(5,0,()))
  else bif decide (PA d<FE s.2.2.2.1 (FV d+1)) then(HG s,(12,0,()))
  else bif (O1 s d).2 then(HG s,(Ay s.2.2.1 (O1 s d).1.toNat).2.1)
  else bif decide (100<=s.2.2.1.length) then(HG s,(5,0,()))
  else bif decide (O0 d>FE s.2.2.2.1 (FV d+1))&&Ai (O0 d)==FV d+1 then((s.1+1,(Bn (HG s) d).1,(Tt s.2.2.1 (O1 s d).1 (aF s d)).filter (λm=> !Ls (O0 d) (FV d) m),uK s.2.2.2.1 (FV d) (O0 d),()),(Bn (HG s) d).2)
  else((s.1+1,(Bn (HG s) d).1,Tt s.2.2.1 (O1 s d).1 (aF s d),s.2.2.2.1,()),(Bn (HG s) d).2)
 else(s,(1,0,()))
def Hs (s:BB) (d:Aj):Bool:=EF s&&AY d.2.1
def Tu:PSpec:=⟨[A9,A7],[A9,FR],λx=>Hs x.1 x.2.1,λx=>((CM x.1 x.2.1).1,(CM x.1 x.2.1).2,())⟩
def om (h:Int) (w:Dd) (f:Int->Gy):Gy:=bif h==0 then f w.1 else bif h==1 then f w.2.1 else bif h==2 then f w.2.2.1 else bif h==3 then f w.2.2.2.1 else gd [h==4] (f w.2.2.2.2.1)
def ym (h x:Int) (w:Dd) (g:List Bool) (f:Dd->Gy):Gy:=bif h==0 then gd g (f (x,w.2.1,w.2.2.1,w.2.2.2.1,w.2.2.2.2.1,())) else bif h==1 then gd g (f (w.1,x,w.2.2.1,w.2.2.2.1,w.2.2.2.2.1,())) else bif h==2 then gd g (f (w.1,w.2.1,x,w.2.2.2.1,w.2.2.2.2.1,())) else bif h==3 then gd g (f (w.1,w.2.1,w.2.2.1,x,w.2.2.2.2.1,())) else gd (g++[h==4]) (f (w.1,w.2.1,w.2.2.1,w.2.2.2.1,x,()))
theorem QE {h:Int} {w:Dd} {f:Int->Gy} (a:0<=h) (b:h<=4):om h w f=f (FE w (h+1)):=by
 obtain rfl|rfl|rfl|rfl|rfl:h=0\/h=1\/h=2\/h=3\/h=4:=by omega
 all_goals first|rfl|exact(Ag rfl).trans (xG _)
theorem l6 {h x:Int} {w:Dd} {g:List Bool} {f:Dd->Gy} (c:0<=h) (d:h<=4) (b:∀p,p∈g->p=true):ym h x w g f=f (uK w h x):=by
 obtain rfl|rfl|rfl|rfl|rfl:h=0\/h=1\/h=2\/h=3\/h=4:=by omega
 all_goals refine(zC ?_).trans rfl
 all_goals first|exact b|(intro p a;rcases List.mem_append.1 a with a|a;exact b p a;rw[List.mem_singleton.1 a];rfl)
abbrev E2 (s:BB) (r:L3):Gy:=some (s,r,())
def l7 (m:List AU) (i:Int) (vs:List AU):Bool:=decide (0<=i)&&(decide (i.toNat<=m.length)&&(decide (vs.length=1)&&decide (m.length<=1000000)))
def l8 (m:List AU) (h:Int):Bool:=decide (0<=h)&&(decide (h<=5)&&decide (m.length<=1000000))
def oo (s:BB) (d:Aj) (p:Int×Bool) (a:Bool) (M:AU):Gy:=
 bif Bb s then
  (bif Cw d then gd [AY d.2.1,EF s] (bif decide (s.1>=1099511627776) then E2 s (5,0,()) else
   gd [decide (Ad .i64 (FV d)),decide (Ad .i64 (s.1+1))] (bif p.2 then gd [a] (om (FV d) s.2.2.2.1 λx=>bif decide (PA d<x) then E2 (HG s) (12,0,()) else gd (gX s.2.2.1 p.1) (E2 (HG s) M.2.1))
   else gd [a] (om (FV d) s.2.2.2.1 λx=>bif decide (PA d<x) then E2 (HG s) (12,0,()) else
    bif decide ((s.2.2.1.length:Int)>=100) then E2 (HG s) (5,0,()) else
    gd [l7 s.2.2.1 p.1 [aF s d],decide (s.2.2.1.length<=1000000),gx (HG s) d] (om (FV d) s.2.2.2.1 λx=>bif decide (O0 d>x) then
     (bif Ai (O0 d)==FV d+1 then gd [decide (Ad .i64 (FV d+1))] (ym (FV d) (O0 d) s.2.2.2.1 [l8 (Tt s.2.2.1 p.1 (aF s d)) (FV d)] λw=>E2 (s.1+1,(Bn (HG s) d).1,(Tt s.2.2.1 p.1 (aF s d)).filter (λm=> !Ls (O0 d) (FV d) m),w,()) (Bn (HG s) d).2)
     else gd [decide (Ad .i64 (FV d+1))] (E2 (s.1+1,(Bn (HG s) d).1,Tt s.2.2.1 p.1 (aF s d),s.2.2.2.1,()) (Bn (HG s) d).2))
     else E2 (s.1+1,(Bn (HG s) d).1,Tt s.2.2.1 p.1 (aF s d),s.2.2.2.1,()) (Bn (HG s) d).2))))
  else gd [AY d.2.1,EF s] (E2 s (1,0,())))
 else gd [EF s] (E2 s (1,0,()))
theorem N2 {s:BB} (h:Bb s=true):0<=s.1/\s.1<=1099511627776/\s.2.1.length<=40/\s.2.2.1.length<=100:=by
 unfold Bb at h;simp only[Bool.and_eq_true,decide_eq_true_eq] at h;exact⟨h.1,h.2.1,h.2.2.1,h.2.2.2.1⟩
theorem Tv {s:BB} (h:Bb s=true):∀i,i<s.2.2.1.length->J8 s.1 s.2.2.2.1 s.2.2.1 i=true:=by
 unfold Bb at h;simp only[Bool.and_eq_true,decide_eq_true_eq] at h;exact λi a=>IP.1 h.2.2.2.2.2.2 i (Nat.zero_le _) (by omega)
theorem Tw {m:List AU} {i:Nat} (h:i<m.length):Ay m i=m[i]:=by
 unfold Ay;rw[List.getD_eq_getElem?_getD,List.getElem?_eq_getElem h];rfl
theorem aG {s:BB} (h:Bb s=true):s.2.2.1.Pairwise λa b=>a.1<b.1:=by
 have f:=Tv h;have step:∀i (c:i+1<s.2.2.1.length),(s.2.2.1[i]).1<(s.2.2.1[i+1]).1:=λi c=>by
  have:=f (i+1) c;unfold J8 at this;simp only[Bool.and_eq_true,Bool.or_eq_true,decide_eq_true_eq] at this;have:=this.2.2.1;rw[show i+1-1=i from rfl,Tw c,Tw (by omega)] at this;rcases this with h|h
  ·cases h
  ·exact h
 have all:∀d i (c:i+d+1<s.2.2.1.length),(s.2.2.1[i]).1<(s.2.2.1[i+d+1]).1:=by
  intro d
  induction d with
  |zero=>intro i c;exact step i c
  |succ d g=>intro i c;exact Int.lt_trans (g i (by omega)) (step (i+d+1) c)
 exact List.pairwise_iff_getElem.2 λi j c l k=>by
  have:=all (j-i-1) i (by omega);have e:i+(j-i-1)+1=j:=by omega
  simp only[e] at this;exact this
theorem Ld {α:Type} {R:α->α->Prop} {lt:α->Bool} {l:List α} (h:l.Pairwise R) (m:∀a b,R a b->lt b=true->lt a=true):Cd (l.map lt)=true:=
 UJ λa b x y g d e i=>by
  rw[List.getElem?_map] at d e;cases f:l[a]? with
  |none=>rw[f] at d;cases d
  |some u=>
   cases c:l[b]? with
   |none=>rw[c] at e;cases e
   |some v=>
    rw[f] at d;rw[c] at e;obtain rfl:lt u=x:=Option.some.inj d;obtain rfl:lt v=y:=Option.some.inj e;obtain⟨j,f⟩:=List.getElem?_eq_some_iff.1 f;obtain⟨k,c⟩:=List.getElem?_eq_some_iff.1 c;have:=List.pairwise_iff_getElem.1 h a b j k g;rw[f,c] at this;exact m _ _ this i
theorem aH {s:BB} (h:Bb s=true) (k:Int):Cd (s.2.2.1.map (Do k))=true:=
 Ld (aG h) λ_ _ c d=>decide_eq_true (Int.lt_trans c (of_decide_eq_true d))
theorem WV {s:BB} (h:Bb s=true) (k:L8):Cd (s.2.1.map (Ca k))=true:=
 Ld (UI h) λ_ _ c d=>JC c d
theorem jU {s:BB} (h:Bb s=true):s.2.1.all (Lb (s.1+1))=true:=by
 rw[List.all_eq_true];intro e f;obtain⟨i,c,rfl⟩:=List.getElem_of_mem f;have a:=(KB h).2 i c;unfold JB at a;simp only[Bool.and_eq_true,decide_eq_true_eq] at a;rw[Hz c] at a;have d:=J9 a.1;have b:CS (Bi s.2.1[i])=true:=EX _ _ (FX.1 a.1).1 _ (by
  unfold Bi;rw[List.getD_eq_getElem?_getD,List.getElem?_eq_getElem (by omega)];exact List.getElem_mem _)
 unfold CS at b;simp only[Bool.and_eq_true,decide_eq_true_eq] at b;unfold Lb AY;simp only[Bool.and_eq_true,decide_eq_true_eq];have:=a.2.1;have:=b.2.2.1;exact⟨d.1,d.2,by omega,by omega⟩
theorem Tx {d:Aj} (h:Cw d=true):isKey d.2.1=true/\Ai (PA d)≠0/\0<=O0 d/\O0 d<=PA d/\(d.1==1||(d.1==2||d.1==3))=true:=by
 unfold Cw at h;simp only[Bool.and_eq_true,Bool.not_eq_true',decide_eq_false_iff_not,beq_eq_false_iff_ne] at h;refine⟨h.1,h.2.1,Int.not_lt.1 h.2.2.1,Int.not_lt.1 h.2.2.2.1,?_⟩;have:=h.2.2.2.2;unfold Hr at this
 revert this
 cases d.1==1<;>cases d.1==2<;>cases d.1==3<;>intro h<;>first|rfl|cases h
theorem dh {s:BB} {d:Aj} (h:Bb s=true) (hd:Cw d=true):gx (HG s) d=true:=by
 unfold gx;rw[show((HG s).2.1.map (Ca d.2.1))=s.2.1.map (Ca d.2.1) from rfl,WV h,show(HG s).2.1.all (Lb (HG s).1)=s.2.1.all (Lb (s.1+1)) from rfl,jU h,(Tx hd).2.2.2.2,decide_eq_true (show(HG s).2.1.length<=40 from(N2 h).2.2.1)];rfl
theorem di {d:Aj} (h:Cw d=true):0<=FV d/\FV d<=4:=by
 have:=(Tx h).2.1;have:=Hv (PA d);show 0<=Ai (PA d)-1/\Ai (PA d)-1<=4;omega
theorem Fo {s:BB} {d:Aj} (h:(Bb s&&Cw d)=false):CM s d=(s,(1,0,())):=by
 unfold CM;rw[h];rfl
theorem dj {m:List AU} {i:Int} {x:AU} (h:m.length<=100):(Tt m i x).length<=1000000:=by
 show(m.take i.toNat++([x]++m.drop i.toNat)).length<=_;simp only[List.length_append,List.length_take,List.length_drop,List.length_cons,List.length_nil];omega
theorem oq {s:BB} {d:Aj} (h:Hs s d=true):oo s d (O1 s d) (decide (s.2.2.1.length<=1000000)&&Cd (s.2.2.1.map (Do (PA d)))) (s.2.2.1.getD (O1 s d).1.toNat (Ab).dflt)=some ((CM s d).1,(CM s d).2,()):=by
 unfold Hs at h;rw[Bool.and_eq_true] at h;obtain⟨c,l⟩:=h;unfold oo;cases e:Bb s
 ·rw[xF,Ag c,xG,Fo (by rw[e];rfl)]
 cases hd:Cw d
 ·rw[xT,xF,Ag l,Ag c,xG,Fo (by rw[hd];exact Bool.and_false _)]
 obtain⟨r,t,m,f⟩:=N2 e;obtain⟨g,j⟩:=di hd;rw[xT,xT,Ag l,Ag c,xG];unfold CM;rw[e,hd,show(true&&true)=true from rfl,xT];cases u:decide (s.1>=1099511627776)
 ·obtain⟨n,o,b,q⟩:∃n:Nat,(O1 s d).1=(n:Int)/\n<=s.2.2.1.length/\((O1 s d).2=true->n<s.2.2.1.length):=IM _ _ _;have i:(decide (s.2.2.1.length<=1000000)&&Cd (s.2.2.1.map (Do (PA d))))=true:=by rw[decide_eq_true (by omega),aH e];rfl
  rw[xF,xF,AP (AH.2 ⟨by omega,by omega⟩),AP (AH.2 ⟨by omega,by omega⟩),xG,QE g j,QE g j,QE g j,Ag i,xG,Ag i,xG,o];cases decide (PA d<FE s.2.2.2.1 (FV d+1))
  ·rw[xF,xF,xF];cases k:(O1 s d).2
   ·rw[xF,xF];by_cases a:100<=s.2.2.1.length
    ·rw[Au (by omega),Au a]
    ·rw[Av (by omega),Av a,Ag (by unfold l7;simp only[Bool.and_eq_true,decide_eq_true_eq];exact⟨by omega,b,rfl,by omega⟩),AP (by omega),Ag (dh e hd),xG];cases decide (O0 d>FE s.2.2.2.1 (FV d+1))
     ·rw[xF,Bool.false_and,xF]
     ·rw[xT,Bool.true_and,l6 g j (λp c=>by
       rw[List.mem_singleton.1 c];unfold l8;rw[decide_eq_true g,decide_eq_true (by omega),decide_eq_true (dj f)];rfl),AP (AH.2 ⟨by omega,by omega⟩),xG,AP (AH.2 ⟨by omega,by omega⟩),xG]
      cases Ai (O0 d)==FV d+1<;>rfl
   ·have b:=q k;rw[xT,xT,D5 b];rfl
  ·rw[xT,xT,xT];cases(O1 s d).2<;>rfl
 ·rfl
end Nice
namespace Go.Proofs.YtkgejlchafionaaGreatDoor
open Tryz
open Nice
abbrev yn:Eng.Env:=Dc [(64,Ie),(65,Lc),(66,FD),(67,dO),(68,yh)] [(70,fS),(69,fU),(71,fM)]
def yo (x:AA [A9,A7]):Gy:=fO prog yn (AC []) f37 [A9,A7] [A9,FR] x
theorem yp (q:Int) (l:List AD) (m:List AU) (a b c d e i:Int) (key body:L8) (g cond:Int) (h:L8) (f low:Int):
 yo ((q,l,m,(a,b,c,d,e,()),()),(i,key,body,g,cond,h,f,low,()),())=oo (q,l,m,(a,b,c,d,e,()),()) (i,key,body,g,cond,h,f,low,()) (D0 (Do f) (Fq f) m 0) (decide (m.length<=1000000)&&Cd (m.map (Do f))) (m.getD (D0 (Do f) (Fq f) m 0).1.toNat (Ab).dflt):=by kernel_rfl
theorem uL:PC 37 Tu:=(AN (BN (l:=[(64,Ie),(65,Lc),(66,FD),(67,dO),(68,yh)]) (o:=[(70,fS),(69,fU),(71,fM)]) ⟨bL,oi,U9,oU,yk,trivial⟩ ⟨qV,qW,qU,trivial⟩) AM func37 (by kernel_rfl) (by decide)).nice λ⟨⟨q,l,m,⟨a,b,c,d,e,()⟩,()⟩,⟨j,key,body,f,cond,g,i,low,()⟩,()⟩ h=>
 (yp q l m a b c d e j key body f cond g i low).trans (oq (s:=(q,l,m,(a,b,c,d,e,()),())) (d:=(j,key,body,f,cond,g,i,low,())) h)
end Go.Proofs.YtkgejlchafionaaGreatDoor
namespace Nice
def QF (k low:Int) (x:AU):Bool:=Ai x.1 !=k||decide (x.1>=low)
def xY (m:List AU) (k low:Int) (Y:List AU->Gy) (o:List AU) (i:Int) (a:List AU->Int->Gy):Gy:=
 bif decide (i<(m.length:Int)) then
  gd (gX m i) (bif Ai (m.getD i.toNat (Ab).dflt).1 !=k then gd [decide (Ad .i64 (i+1)),decide ((2*(o.length+[m.getD i.toNat (Ab).dflt].length)+400)*24<=281474976710656)] (a (o++[m.getD i.toNat (Ab).dflt]) (i+1))
   else bif decide ((m.getD i.toNat (Ab).dflt).1>=low) then gd [decide (Ad .i64 (i+1)),decide ((2*(o.length+[m.getD i.toNat (Ab).dflt].length)+400)*24<=281474976710656)] (a (o++[m.getD i.toNat (Ab).dflt]) (i+1))
   else gd [decide (Ad .i64 (i+1))] (a o (i+1)))
 else Y o
theorem yq {h:Nat->List AU->Int->Gy} {m:List AU} {k low:Int} {Y:List AU->Gy} (d:∀n o i,h (n+1) o i=xY m k low Y o i (h n)) (q:m.length<=1000000):
  ∀(r i n:Nat) (o:List AU),m.length=i+r->r<n->o.length<=i->h n o (i:Int)=Y (o++(m.drop i).filter (QF k low)):=by
 intro r
 induction r with
 |zero=>
  intro i n o f g j;obtain⟨n,rfl⟩:∃c,n=c+1:=⟨n-1,by omega⟩
  rw[d];unfold xY;rw[Av (by omega),List.drop_eq_nil_of_le (by omega),List.filter_nil,List.append_nil]
 |succ r e=>
  intro i n o f g j;obtain⟨n,rfl⟩:∃c,n=c+1:=⟨n-1,by omega⟩
  have a:i<m.length:=by omega
  have l:m.getD ((i:Int)).toNat (Ab).dflt=m[i]:=by
   show m.getD i _=_;rw[List.getD_eq_getElem?_getD,List.getElem?_eq_getElem a];rfl
  have hd:m.drop i=m[i]::m.drop (i+1):=List.drop_eq_getElem_cons a;rw[d];unfold xY;rw[Au (by omega),D5 a,l,hd,show(i:Int)+1=((i+1:Nat):Int) from rfl,List.filter_cons];have b:decide ((2*(o.length+[m[i]].length)+400)*24<=281474976710656)=true:=decide_eq_true (by simp only[List.length_cons,List.length_nil];omega)
  have p:decide (Ad .i64 (((i+1:Nat)):Int))=true:=decide_eq_true (AH.2 ⟨by omega,by omega⟩);simp only[Ag p,Ag b,xG];rw[e (i+1) n o (by omega) (by omega) (by omega),e (i+1) n (o++[m[i]]) (by omega) (by omega) (by simp;omega)];unfold QF;cases Ai m[i].1 !=k<;>cases decide (m[i].1>=low)<;>simp
theorem ABT {low h:Int} {x:AU}:QF (h+1) low x= !Ls low h x:=by
 unfold QF Ls;have:decide (x.1>=low)= !decide (x.1<low):=by
  by_cases a:x.1<low
  ·rw[decide_eq_true a,decide_eq_false (show ¬x.1>=low by omega)];rfl
  ·rw[decide_eq_false a,decide_eq_true (show x.1>=low by omega)];rfl
 rw[this,show(Ai x.1 !=h+1)= !(Ai x.1==h+1) from rfl];cases decide (x.1<low)<;>cases Ai x.1==h+1<;>rfl
abbrev Dm (m:List AU) (i:Int) (x:AU):List AU:=[]++Bw m none (some i)++[x]++Bw m (some i) none
abbrev ot (m:List AU) (i:Int) (x:AU) (p:Bool):List Bool:=[decide ((2*(([]++Bw m none (some i)++[x]).length+(Bw m (some i) none).length)+400)*24<=281474976710656),decide (0<=i),decide (i<=(m.length:Int)),decide ((2*(([]++Bw m none (some i)).length+[x].length)+400)*24<=281474976710656),decide ((2*(0+(Bw m none (some i)).length)+400)*24<=281474976710656),decide (0<=i),decide (i<=(m.length:Int)),p]
def ou (s:BB) (d:Aj) (p:Int×Bool) (a:Bool) (M:AU) (b:Dd->Gy):Gy:=
 bif Bb s then
  (bif Cw d then gd [AY d.2.1,EF s] (bif p.2 then
   gd [a] (bif decide (s.1>=1099511627776) then E2 s (5,0,()) else gd [decide (Ad .i64 (s.1+1))] (om (FV d) s.2.2.2.1 λx=>bif decide (PA d<x) then gd [decide (Ad .i64 (FV d))] (E2 (HG s) (12,0,())) else gd (gX s.2.2.1 p.1++[decide (Ad .i64 (FV d))]) (E2 (HG s) M.2.1)))
   else gd [a] (bif decide (s.1>=1099511627776) then E2 s (5,0,()) else gd [decide (Ad .i64 (s.1+1))] (om (FV d) s.2.2.2.1 λx=>bif decide (PA d<x) then gd [decide (Ad .i64 (FV d))] (E2 (HG s) (12,0,())) else
    gd [decide (Ad .i64 (FV d))] (bif decide ((s.2.2.1.length:Int)>=100) then E2 (HG s) (5,0,()) else
    gd (ot s.2.2.1 p.1 (aF s d) (gx (HG s) d)) (bif Ai (O0 d)==Ai (PA d) then(om (FV d) s.2.2.2.1 λx=>bif decide (O0 d>x) then
        gd [decide (Ad .i64 (FV d))] (ym (FV d) (O0 d) s.2.2.2.1 [decide (Ad .i64 (FV d))] b)
        else gd [decide (Ad .i64 (FV d))] (E2 (s.1+1,(Bn (HG s) d).1,Dm s.2.2.1 p.1 (aF s d),s.2.2.2.1,()) (Bn (HG s) d).2))
     else E2 (s.1+1,(Bn (HG s) d).1,Dm s.2.2.1 p.1 (aF s d),s.2.2.2.1,()) (Bn (HG s) d).2)))))
  else gd [AY d.2.1,EF s] (E2 s (1,0,())))
 else gd [EF s] (E2 s (1,0,()))
theorem YI {m:List AU} {n:Nat} {x:AU}:Dm m (n:Int) x=Tt m (n:Int) x:=by
 show []++Bw m none (some (n:Int))++[x]++Bw m (some (n:Int)) none=m.take n++([x]++m.drop n);rw[Jy,MS,List.nil_append,List.append_assoc]
theorem ov {m:List AU} {n:Nat} {x:AU} {p:Bool} (f:m.length<=100) (g:n<=m.length) (c:p=true) (y:Gy):gd (ot m (n:Int) x p) y=y:=by
 have h:(m.take n).length<=100:=by rw[List.length_take];omega
 have i:(m.drop n).length<=100:=by rw[List.length_drop];omega
 have d:Bw m none (some (n:Int))=m.take n:=Jy _ _;have e:Bw m (some (n:Int)) none=m.drop n:=MS _ _;refine zC λb a=> ?_
 unfold ot at a;rw[d,e] at a;simp only[List.mem_cons,List.not_mem_nil,or_false,List.nil_append,List.length_append,List.length_cons,List.length_nil] at a;rcases a with rfl|rfl|rfl|rfl|rfl|rfl|rfl|rfl
 ·exact decide_eq_true (by omega)
 ·exact decide_eq_true (by omega)
 ·exact decide_eq_true (by omega)
 ·exact decide_eq_true (by omega)
 ·exact decide_eq_true (by omega)
 ·exact decide_eq_true (by omega)
 ·exact decide_eq_true (by omega)
 ·exact c
theorem ow {s:BB} {d:Aj} {t:Dd->Gy} (h:Hs s d=true) (a:(O1 s d).2=false->Bb s=true->∀w,t w=E2 (s.1+1,(Bn (HG s) d).1,(Dm s.2.2.1 (O1 s d).1 (aF s d)).filter (QF (Ai (PA d)) (O0 d)),w,()) (Bn (HG s) d).2):
  ou s d (O1 s d) (decide (s.2.2.1.length<=1000000)) (s.2.2.1.getD (O1 s d).1.toNat (Ab).dflt) t=some ((CM s d).1,(CM s d).2,()):=by
 unfold Hs at h;rw[Bool.and_eq_true] at h;obtain⟨f,u⟩:=h;unfold ou;cases g:Bb s
 ·rw[xF,Ag f,xG,Fo (by rw[g];rfl)]
 cases hd:Cw d
 ·rw[xT,xF,Ag u,Ag f,xG,Fo (by rw[hd];exact Bool.and_false _)]
 obtain⟨C,D,z,i⟩:=N2 g;obtain⟨l,o⟩:=di hd;have q:decide (Ad .i64 (FV d))=true:=decide_eq_true (AH.2 ⟨by omega,by omega⟩);have j:decide (Ad .i64 (s.1+1))=true:=decide_eq_true (AH.2 ⟨by omega,by omega⟩);rw[xT,xT,Ag u,Ag f,xG];unfold CM;rw[g,hd,show(true&&true)=true from rfl,xT]
 cases E:decide (s.1>=1099511627776)
 ·obtain⟨n,v,e,A⟩:∃n:Nat,(O1 s d).1=(n:Int)/\n<=s.2.2.1.length/\((O1 s d).2=true->n<s.2.2.1.length):=IM _ _ _;have b:decide (s.2.2.1.length<=1000000)=true:=decide_eq_true (by omega);rw[xF,xF,xF,Ag j,Ag j,xG,xG,QE l o,QE l o,QE l o,Ag b,xG,Ag b,xG,v];simp only[Ag q,xG]
  have r:∀y:Gy,n<s.2.2.1.length->gd (gX s.2.2.1 (n:Int)++[decide (Ad .i64 (FV d))]) y=y:=λy B=>by rw[Jz B,Ag q,xG]
  cases decide (PA d<FE s.2.2.2.1 (FV d+1))
  ·rw[xF,xF,xF];cases k:(O1 s d).2
   ·rw[xF,xF];have a:=a k g;rw[v] at a;by_cases c:100<=s.2.2.1.length
    ·rw[Au (by omega),Au c]
    ·rw[Av (by omega),Av c,ov i e (dh g hd),l6 l o (λp f=>by rw[List.mem_singleton.1 f,q]),a,YI,show Ai (PA d)=FV d+1 from(Int.sub_add_cancel _ _).symm,show QF (FV d+1) (O0 d)=(λm=> !Ls (O0 d) (FV d) m) from funext λx=>ABT];cases Ai (O0 d)==FV d+1<;>cases decide (O0 d>FE s.2.2.2.1 (FV d+1))<;>rfl
   ·have e:=A k;rw[xT,xT,r _ e];rfl
  ·rw[xT,xT,xT];cases(O1 s d).2<;>rfl
 ·have b:decide (s.2.2.1.length<=1000000)=true:=decide_eq_true (by omega);simp only[Ag b,xG];cases(O1 s d).2<;>rfl
end Nice
namespace Go.Proofs.YtkgejlchafionaaGreatDoor
open Tryz
open Nice
abbrev jV:Eng.Env:=Dc [(10,Ie),(11,Lc),(25,FD),(34,WS),(35,dZ)] []
abbrev Tz:List (Nat×List (Nat×Sh)):=[(21,[(2,(.obj [.sym,(.dat AB),(.vec Ab 75),.sym,.sym,.sym,.sym,.sym])),(3,(.obj [.sym,.sym,.sym,.sym,.sym,.sym,.sym,.sym])),(4,(.obj [.sym,.any,.any,.sym,.sym,.sym,.sym,.sym])),(5,(.obj [.sym,.sym])),(8,(.one .sym)),(10,(.obj [.sym,.sym])),(11,(.one (.vec Ab 75))),(12,(.one .sym))])]
def jW (n:Nat) (q:Int) (l:List AD) (m:List AU) (a b c d e j:Int) (key body:L8) (f cond:Int) (g:L8) (h low k p r:Int) (o:List AU) (i:Int):Gy:=rH prog jV (AC Tz) f15 [A9,FR] n 0 [(2,.pointer (some ⟨12,0,none⟩)),(3,.pointer (some ⟨13,0,none⟩)),(4,.pointer (some ⟨14,0,none⟩)),(5,.pointer (some ⟨15,0,none⟩)),(8,sy (.int .i64 k)),(10,.pointer (some ⟨16,0,none⟩)),(11,dt 17),(12,sy (.int .i64 i))]
 [.dat AB l,.vec Ab m 75,.row [sy (.int .i64 q),dt 10,dt 11,sy (.int .i64 a),sy (.int .i64 b),sy (.int .i64 c),sy (.int .i64 d),sy (.int .i64 e)] 28 false,.row [sy (.int .i64 j),sy (.string (bs key)),sy (.string (bs body)),sy (.int .i64 f),sy (.int .i64 cond),sy (.string (bs g)),sy (.int .i64 h),sy (.int .i64 low)] 30 false,.row [sy (.int .i64 0),Value.slice none 0 0,Value.slice none 0 0,sy (.int .i64 0),sy (.int .i64 0),sy (.int .i64 0),sy (.int .i64 0),sy (.int .i64 0)] 28 false,.row [sy (.int .i64 0),sy (.int .i64 0)] 47 false,.row [sy (.int .i64 p),sy (.int .i64 r)] 47 false,.vec Ab o 75]
theorem oz (n:Nat) (q:Int) (l:List AD) (m:List AU) (a b c d e r:Int) (key body:L8) (f cond:Int) (g:L8) (h low k j p:Int) (o:List AU) (i:Int):
 jW (n+1) q l m a b c d e r key body f cond g h low k j p o i=xY m k low (λo=>E2 (q,l,o,(a,b,c,d,e,()),()) (j,p,())) o i (jW n q l m a b c d e r key body f cond g h low k j p):=by kernel_rfl
def uM (x:AA [A9,A7]):Gy:=fO prog jV (AC Tz) f15 [A9,A7] [A9,FR] x
theorem o0 (x:AA [A9,A7]):uM x=BV prog jV (AC Tz) f15 [A9,A7] [A9,FR] AE x:=rfl
theorem o4 (N:Nat) (q:Int) (l:List AD) (m:List AU) (a b c d e i:Int) (key body:L8) (g cond:Int) (h:L8) (f low:Int):
 BV prog jV (AC Tz) f15 [A9,A7] [A9,FR] N ((q,l,m,(a,b,c,d,e,()),()),(i,key,body,g,cond,h,f,low,()),())=ou (q,l,m,(a,b,c,d,e,()),()) (i,key,body,g,cond,h,f,low,()) (D0 (Do f) (Fq f) m 0) (decide (m.length<=1000000)) (m.getD (D0 (Do f) (Fq f) m 0).1.toNat (Ab).dflt)
  (λw=>jW N (q+1) (Bn (q+1,l,m,(a,b,c,d,e,()),()) (i,key,body,g,cond,h,f,low,())).1 (Dm m (D0 (Do f) (Fq f) m 0).1 (aF (q,l,m,(a,b,c,d,e,()),()) (i,key,body,g,cond,h,f,low,()))) w.1 w.2.1 w.2.2.1 w.2.2.2.1 w.2.2.2.2.1 i key body g cond h f low (Ai f) (Bn (q+1,l,m,(a,b,c,d,e,()),()) (i,key,body,g,cond,h,f,low,())).2.1 (Bn (q+1,l,m,(a,b,c,d,e,()),()) (i,key,body,g,cond,h,f,low,())).2.2.1 [] 0):=by kernel_rfl
theorem l9:PC 15 Tu:=(AN (sh:=AC Tz) (BN (l:=[(10,Ie),(11,Lc),(25,FD),(34,WS),(35,dZ)]) (o:=[]) ⟨Yv,YH,ABG,tv,og,trivial⟩ trivial) AM func15 (by kernel_rfl) (by decide)).nice λ⟨⟨q,l,m,⟨a,b,c,d,e,()⟩,()⟩,⟨k,key,body,g,cond,j,f,low,()⟩,()⟩ h=>by
 show uM _=_;rw[o0,o4];refine ow (s:=(q,l,m,(a,b,c,d,e,()),())) (d:=(k,key,body,g,cond,j,f,low,())) h λv r w=> ?_
 have x:(Dm m (D0 (Do f) (Fq f) m 0).1 (aF (q,l,m,(a,b,c,d,e,()),()) (k,key,body,g,cond,j,f,low,()))).length<=102:=by
  obtain⟨n,t,u, -⟩:=IM (Do f) (Fq f) m;have p:m.length<=100:=(N2 r).2.2.2;rw[t,YI];show(m.take n++([_]++m.drop n)).length<=_;simp only[List.length_append,List.length_take,List.length_drop,List.length_cons,List.length_nil];omega
 refine(yq (h:=λn o i=>jW n (q+1) _ _ w.1 w.2.1 w.2.2.1 w.2.2.2.1 w.2.2.2.2.1 k key body g cond j f low (Ai f) _ _ o i) (λn o i=>oz n (q+1) _ _ w.1 w.2.1 w.2.2.1 w.2.2.2.1 w.2.2.2.2.1 k key body g cond j f low (Ai f) _ _ o i) (by omega) _ 0 AE [] (by rw[Nat.zero_add]) (by unfold AE;omega) (Nat.le_refl _)).trans rfl
end Go.Proofs.YtkgejlchafionaaGreatDoor
namespace Nice
abbrev o5:Ty:=.pair Ah (.pair IT (.pair IT (.pair Dj .unit)))
abbrev jX:=Ak×Int×Int×EK×Unit
abbrev EO:Ty:=.slice DS
def J1 (a:Ak):Int:=bif a.1==2 then 1 else bif a.2.2.1 !=0 then 3 else 2
def N3 (a:Ak):Bool:=a.1==2||a.1==3
def DQ (a:Ak):Aj:=bif a.1==3 then(bif decide (a.2.2.1>0) then(3,a.2.1,[],a.2.2.1,0,[],0,0,()) else(2,a.2.1,[],0,0,[],0,0,())) else(1,a.2.1,a.2.2.2.1,0,a.2.2.2.2.1,a.2.2.2.2.2.1,0,0,())
def aI (w d:Aj):Aj:=(w.1,w.2.1,w.2.2.1,w.2.2.2.1,w.2.2.2.2.1,w.2.2.2.2.2.1,d.2.2.2.2.2.2.1,d.2.2.2.2.2.2.2.1,())
def QG (a:Ak) (d:Aj):Bool:=d.1==J1 a&&(d.2.1==a.2.1&&(d.2.2.1==a.2.2.2.1&&(d.2.2.2.2.1==a.2.2.2.2.1&&(d.2.2.2.2.2.1==a.2.2.2.2.2.1&&d.2.2.2.1==a.2.2.1))))
def dm (w d:Aj):Bool:=w.1==d.1&&(w.2.1==d.2.1&&(w.2.2.1==d.2.2.1&&(w.2.2.2.1==d.2.2.2.1&&(w.2.2.2.2.1==d.2.2.2.2.1&&(w.2.2.2.2.2.1==d.2.2.2.2.2.1&&(w.2.2.2.2.2.2.1==d.2.2.2.2.2.2.1&&(w.2.2.2.2.2.2.2.1==d.2.2.2.2.2.2.2.1&&true)))))))
abbrev N4 (a:Ak):Bool:=a.2.2.2.2.2.2.2.2.2.1
def YJ (a:Ak) (x:EK):EK:=bif N4 a then(x.1,x.2.1,[],()) else x
def dp:PSpec:=⟨[Ah],[IT],λ_=>true,λx=>(J1 x.1,())⟩
def o6:PSpec:=⟨[Ah],[.bool],λ_=>true,λx=>(N3 x.1,())⟩
def T0:PSpec:=⟨[Ah],[A7],λ_=>true,λx=>(DQ x.1,())⟩
def dq:PSpec:=⟨[Ah,A7],[.bool],λ_=>true,λx=>(QG x.1 x.2.1,())⟩
def o7:PSpec:=⟨[EO,EO],[.bool],λx=>decide (x.1.length<=140737488355328),λx=>(G0 x.1 x.2.1,())⟩
abbrev mA (t:L8) (a:Ak) (r:L3):EK:=qX t a.1 a.2.2.2.1 r.1
def aJ (t:jX) (s:BB) (d:Aj):Bool:=bif N3 t.1 then QG t.1 d&&Ev t.2.2.2.1 (mA (DV (CM s d).2.2.1) t.1 (CM s d).2) else Ev t.2.2.2.1 (YJ t.1 (Wu t.1 s))
def PB (t:jX) (s:BB) (d:Aj):Bool:=OU t.2.2.2.1&&(bif N3 t.1 then Hs s d&&(BR (CM s d).2.2.1&&AY t.1.2.2.2.1) else Wv t.1 s)
def o8:PSpec:=⟨[o5,A9,A7],[.bool],λx=>PB x.1 x.2.1 x.2.2.1,λx=>(aJ x.1 x.2.1 x.2.2.1,())⟩
def T1 (a:Ak) (x:EK) (s:BB) (d:Aj):Bool:=bif N3 a then dm (aI (DQ a) d) d&&Ev (mA (Bp (CM s d).2.2.1) a (CM s d).2) x else Ev (YJ a (Gn a s)) x
def PD (a:Ak) (s:BB) (d:Aj):Bool:=bif N3 a then Hs s d&&(BR (CM s d).2.2.1&&AY a.2.2.2.1) else Le a s
def o9:PSpec:=⟨[Ah,Dj,A9,A7],[.bool],λx=>PD x.1 x.2.2.1 x.2.2.2.1,λx=>(T1 x.1 x.2.1 x.2.2.1 x.2.2.2.1,())⟩
def jY (g:List Bool) (b:Bool):BO:=bif b then gd g (bO true) else gd g (bO false)
theorem N5 {g:List Bool} {b:Bool} (h:∀p,p∈g->p=true):jY g b=bO b:=by
 unfold jY;cases b<;>exact zC h
def pA (t:jX) (s:BB) (d:Aj):BO:=
 bif t.1.1==2||t.1.1==3 then gd [Hs s d] (bif QG t.1 d then jY [OU t.2.2.2.1,BR (CM s d).2.2.1&&AY t.1.2.2.2.1] (Ev t.2.2.2.1 (mA (DV (CM s d).2.2.1) t.1 (CM s d).2)) else bO false)
 else gd [Wv t.1 s] (bif N4 t.1 then jY [OU t.2.2.2.1] (Ev t.2.2.2.1 ((Wu t.1 s).1,(Wu t.1 s).2.1,[],())) else jY [OU t.2.2.2.1] (Ev t.2.2.2.1 (Wu t.1 s)))
theorem pB {t:jX} {s:BB} {d:Aj} (h:PB t s d=true):pA t s d=bO (aJ t s d):=by
 unfold PB at h;rw[Bool.and_eq_true] at h;obtain⟨b,h⟩:=h;unfold pA aJ;have e:(t.1.1==2||t.1.1==3)=N3 t.1:=rfl;rw[e];cases c:N3 t.1
 ·rw[c,xF] at h;rw[xF,xF,Ag h,xG];unfold YJ;rw[N5 (by intro p a;rw[List.mem_singleton.1 a];exact b),N5 (by intro p a;rw[List.mem_singleton.1 a];exact b)];cases N4 t.1<;>rfl
 ·rw[c,xT,Bool.and_eq_true] at h;rw[xT,xT,Ag h.1,xG];cases QG t.1 d
  ·rfl
  ·rw[xT,Bool.true_and];exact N5 (by intro p a;simp only[List.mem_cons,List.not_mem_nil,or_false] at a;rcases a with rfl|rfl;exact b;exact h.2)
def jZ (a:Ak) (x:EK) (s:BB) (d D:Aj):BO:=gd [Hs s d] (bif dm (aI D d) d then jY [OU (mA (Bp (CM s d).2.2.1) a (CM s d).2),BR (CM s d).2.2.1&&AY a.2.2.2.1] (Ev (mA (Bp (CM s d).2.2.1) a (CM s d).2) x) else bO false)
def pC (a:Ak) (x:EK) (s:BB) (d:Aj):BO:=
 bif a.1==2 then jZ a x s d (DQ a) else bif a.1==3 then jZ a x s d (DQ a)
 else gd [Le a s] (bif N4 a then jY [OU ((Gn a s).1,(Gn a s).2.1,[],())] (Ev ((Gn a s).1,(Gn a s).2.1,[],()) x) else jY [OU (Gn a s)] (Ev (Gn a s) x))
theorem Er {a:EK} (h:a.2.1.length<=2):OU a=true:=decide_eq_true (by omega)
theorem WW (t:L8) (a:Int) (b:L8) (er:Int):(qX t a b er).2.1.length<=2:=by
 unfold qX kP;cases a !=2<;>cases a !=3<;>cases er==0<;>cases er==9<;>cases er==6<;>cases er==5<;>cases a==2<;>first|exact Nat.zero_le _|exact Nat.le_refl _|exact Nat.le_succ _
theorem Rw (t:L8) (v:Ae) (er:Int) (sh:O2) (a:Int):(ab t v er sh a).2.1.length<=2:=by
 unfold ab;cases a==1<;>cases a==4<;>cases a==5<;>cases er !=0<;>first|exact Nat.zero_le _|exact Nat.le_refl _|exact Nat.le_succ _
theorem dr {a:Ak} {x:EK} {s:BB} {d:Aj} (h:(Hs s d&&(BR (CM s d).2.2.1&&AY a.2.2.2.1))=true):jZ a x s d (DQ a)=bO (dm (aI (DQ a) d) d&&Ev (mA (Bp (CM s d).2.2.1) a (CM s d).2) x):=by
 rw[Bool.and_eq_true] at h;unfold jZ;rw[Ag h.1,xG];cases dm (aI (DQ a) d) d
 ·rfl
 ·rw[xT,Bool.true_and];exact N5 (by intro p b;simp only[List.mem_cons,List.not_mem_nil,or_false] at b;rcases b with rfl|rfl;exact Er (WW ..);exact h.2)
theorem pD {a:Ak} {x:EK} {s:BB} {d:Aj} (h:PD a s d=true):pC a x s d=bO (T1 a x s d):=by
 unfold PD at h;unfold pC T1;have e:N3 a=(a.1==2||a.1==3):=rfl;rw[e] at h⊢;cases b:a.1==2
 ·cases f:a.1==3
  ·rw[b,f,show(false||false)=false from rfl,xF] at h;rw[show(false||false)=false from rfl,xF,xF,xF,Ag h,xG];unfold YJ;rw[N5 (by intro p c;rw[List.mem_singleton.1 c];exact Er (Rw ..)),N5 (by intro p c;rw[List.mem_singleton.1 c];exact Er (Rw ..))];cases N4 a<;>rfl
  ·rw[b,f,show(false||true)=true from rfl,xT] at h;rw[show(false||true)=true from rfl,xF,xT,xT,dr h]
 ·rw[b,Bool.true_or,xT] at h;rw[xT,Bool.true_or,xT,dr h]
end Nice
namespace Go.Proofs.YtkgejlchafionaaGreatDoor
open Tryz
open Nice
def uN (x:AA [Ah]):j0:=fO prog (Dc [] []) (AC []) f73 [Ah] [IT] x
theorem uO (a:Int) (key:L8) (v:Int) (b:L8) (c:Int) (t p f:L8) (d:Int) (e:Bool):uN ((a,key,v,b,c,t,p,f,d,e,()),())=bif a==2 then some (1,()) else bif v !=0 then some (3,()) else some (2,()):=by kernel_rfl
theorem pE:PC 73 dp:=(AN (BN (l:=[]) (o:=[]) trivial trivial) AM func73 (by kernel_rfl) (by decide)).nice λ⟨⟨a,key,v,b,c,t,p,f,d,e,()⟩,()⟩ _=>by
 refine(uO a key v b c t p f d e).trans ?_;show _=some (J1 (a,key,v,b,c,t,p,f,d,e,()),());unfold J1;cases a==2<;>cases v !=0<;>rfl
def yr (x:AA [Ah]):BO:=fO prog (Dc [] []) (AC []) f36 [Ah] [.bool] x
theorem yt (a:Int) (key:L8) (v:Int) (b:L8) (c:Int) (t p f:L8) (d:Int) (e:Bool):yr ((a,key,v,b,c,t,p,f,d,e,()),())=bif a==2 then bO true else bif a==3 then bO true else bO false:=by kernel_rfl
theorem uP:PC 36 o6:=(AN (BN (l:=[]) (o:=[]) trivial trivial) AM func36 (by kernel_rfl) (by decide)).nice λ⟨⟨a,key,v,b,c,t,p,f,d,e,()⟩,()⟩ _=>by
 refine(yt a key v b c t p f d e).trans ?_;show _=bO (a==2||a==3);cases a==2<;>cases a==3<;>rfl
def uQ (x:AA [Ah]):Option (AA [A7]):=fO prog (Dc [] []) (AC []) f13 [Ah] [A7] x
theorem uR (a:Int) (key:L8) (v:Int) (b:L8) (c:Int) (t p f:L8) (d:Int) (e:Bool):uQ ((a,key,v,b,c,t,p,f,d,e,()),())=bif a==3 then(bif decide (v>0) then some ((3,key,[],v,0,[],0,0,()),()) else some ((2,key,[],0,0,[],0,0,()),())) else some ((1,key,b,0,c,t,0,0,()),()):=by kernel_rfl
theorem du:PC 13 T0:=(AN (BN (l:=[]) (o:=[]) trivial trivial) AM func13 (by kernel_rfl) (by decide)).nice λ⟨⟨a,key,v,b,c,t,p,f,d,e,()⟩,()⟩ _=>by
 refine(uR a key v b c t p f d e).trans ?_;show _=some (DQ (a,key,v,b,c,t,p,f,d,e,()),());unfold DQ;cases a==3<;>cases decide (v>0)<;>rfl
abbrev T2:List (Nat×List (Nat×Sh)):=[(4,[(0,(.one (.dat (.pair .str (.pair .str .unit))))),(1,(.one (.dat (.pair .str (.pair .str .unit))))),(4,(.one .sym)),(12,(.one .sym)),(13,(.one .sym))])]
def ja (n:Nat) (a b:List BU) (i:Int):BO:=rH prog (Dc [] []) (AC T2) f74 [.bool] n 0 [(0,dt 10),(1,dt 11),(4,.bool false),(12,sy (.int .i64 (a.length:Int))),(13,sy (.int .i64 i))] [.dat (.pair .str (.pair .str .unit)) a,.dat (.pair .str (.pair .str .unit)) b]
def uS (x:AA [EO,EO]):BO:=fO prog (Dc [] []) (AC T2) f74 [EO,EO] [.bool] x
theorem pF (N:Nat) (a b:List BU):BV prog (Dc [] []) (AC T2) f74 [EO,EO] [.bool] N (a,b,())=bif (a.length:Int) !=(b.length:Int) then bO false else ja N a b 0:=by kernel_rfl
theorem pG (x:AA [EO,EO]):uS x=BV prog (Dc [] []) (AC T2) f74 [EO,EO] [.bool] AE x:=rfl
theorem dv (k:Nat) (a b:List BU) (i:Int):ja (k+1) a b i=QW a b i (ja k a b (i+1)):=by kernel_rfl
theorem uT (a b:List BU) (l:a.length<=140737488355328) (n:a.length=b.length):∀(r i k:Nat),a.length=i+r->r<k->ja k a b (i:Int)=some (G0 (a.drop i) (b.drop i),()):=by
 intro r
 induction r with
 |zero=>
  intro i k e f;obtain⟨k,rfl⟩:∃m,k=m+1:=⟨k-1,by omega⟩
  rw[dv];unfold QW;rw[Av (by omega),List.drop_eq_nil_of_le (by omega),List.drop_eq_nil_of_le (by omega)];rfl
 |succ r g=>
  intro i k e f;obtain⟨k,rfl⟩:∃m,k=m+1:=⟨k-1,by omega⟩
  have c:i<a.length:=by omega
  have d:i<b.length:=by omega
  have h:a.drop i=a.getD i (DS).dflt::a.drop (i+1):=by
   rw[List.drop_eq_getElem_cons c,List.getD_eq_getElem?_getD,List.getElem?_eq_getElem c];rfl
  have j:b.drop i=b.getD i (DS).dflt::b.drop (i+1):=by
   rw[List.drop_eq_getElem_cons d,List.getD_eq_getElem?_getD,List.getElem?_eq_getElem d];rfl
  have:=g (i+1) k (by omega) (by omega);simp only[Int.natCast_add,Int.natCast_one] at this;rw[dv];unfold QW;rw[Au (by omega),show(i:Int).toNat=i from rfl,h,j];show _=some (L5 _ _&&G0 _ _,());cases L5 (a.getD i (DS).dflt) (b.getD i (DS).dflt)
  ·rw[Bool.not_false,xT,AP d,AP (by omega),AP (by omega),AP c,AP (by omega),AP (by omega),xG];rfl
  ·rw[Bool.not_true,xF,AP (AH.2 ⟨by omega,by omega⟩),AP d,AP (by omega),AP (by omega),AP c,AP (by omega),AP (by omega),xG,this,Bool.true_and]
theorem uU:PC 74 o7:=(AN (sh:=AC T2) (BN (l:=[]) (o:=[]) trivial trivial) AM func74 (by kernel_rfl) (by decide)).nice λ⟨a,b,()⟩ h=>by
 have h:a.length<=140737488355328:=of_decide_eq_true h;show uS _=some (G0 a b,());rw[pG,pF];unfold bne;by_cases c:a.length=b.length
 ·rw[show((a.length:Int)==(b.length:Int))=true from beq_iff_eq.2 (by omega),Bool.not_true,xF];exact uT a b h c a.length 0 AE (by omega) (by unfold AE;omega)
 ·rw[show((a.length:Int)==(b.length:Int))=false from beq_eq_false_iff_ne.2 (by omega),Bool.not_false,xT,OV a b c];rfl
def uV (x:AA [Dj,Dj]):BO:=fO prog (Dc [(74,o7)] []) (AC []) f39 [Dj,Dj] [.bool] x
theorem uW (n:Int) (a:List BU) (b:L8) (m:Int) (d:List BU) (c:L8):uV ((n,a,b,()),(m,d,c,()),())=bif n==m then(bif b==c then jY [decide (a.length<=140737488355328)] (G0 a d) else bO false) else bO false:=by kernel_rfl
theorem pH:PC 39 aU:=(AN (BN (l:=[(74,o7)]) (o:=[]) ⟨uU,trivial⟩ trivial) AM func39 (by kernel_rfl) (by decide)).nice λ⟨⟨n,a,b,()⟩,⟨m,d,c,()⟩,()⟩ h=>by
 refine(uW n a b m d c).trans ?_;rw[N5 (by intro p e;rw[List.mem_singleton.1 e];exact h)];show _=bO (n==m&&(b==c&&G0 a d));cases n==m<;>cases b==c<;>rfl
def uX (x:AA [Ah,A7]):BO:=fO prog (Dc [(73,dp)] []) (AC []) f38 [Ah,A7] [.bool] x
theorem uY (h:Int) (key:L8) (v:Int) (d:L8) (e:Int) (t p f:L8) (i:Int) (j:Bool) (dk:Int) (a body:L8) (b cond:Int) (c:L8) (g low:Int):uX ((h,key,v,d,e,t,p,f,i,j,()),(dk,a,body,b,cond,c,g,low,()),())=
 bif dk==J1 (h,key,v,d,e,t,p,f,i,j,()) then(bif a==key then(bif body==d then(bif cond==e then(bif c==t then(bif b==v then bO true else bO false) else bO false) else bO false) else bO false) else bO false) else bO false:=by kernel_rfl
theorem pI:PC 38 dq:=(AN (BN (l:=[(73,dp)]) (o:=[]) ⟨pE,trivial⟩ trivial) AM func38 (by kernel_rfl) (by decide)).nice λ⟨⟨g,key,v,d,e,t,p,f,h,i,()⟩,⟨dk,a,body,b,cond,c,j,low,()⟩,()⟩ _=>by
 refine(uY g key v d e t p f h i dk a body b cond c j low).trans ?_;show _=bO (dk==J1 (g,key,v,d,e,t,p,f,h,i,())&&(a==key&&(body==d&&(cond==e&&(c==t&&b==v)))));cases dk==J1 (g,key,v,d,e,t,p,f,h,i,())<;>cases a==key<;>cases body==d<;>cases cond==e<;>cases c==t<;>cases b==v<;>rfl
abbrev yu:Eng.Env:=Dc [(36,o6),(37,Tu),(38,dq),(39,aU),(40,zW),(41,qa)] []
def yv (x:AA [o5,A9,A7]):BO:=fO prog yu (AC []) f17 [o5,A9,A7] [.bool] x
theorem yw (k:Int) (key:L8) (v:Int) (o:L8) (r:Int) (t p f:L8) (s:Int) (u:Bool) (t1 t2 n:Int) (w:List BU) (x:L8) (q:Int) (l:List AD) (m:List AU) (a b c d e dk:Int) (g body:L8) (h cond:Int) (i:L8) (j low:Int):
 yv (((k,key,v,o,r,t,p,f,s,u,()),t1,t2,(n,w,x,()),()),(q,l,m,(a,b,c,d,e,()),()),(dk,g,body,h,cond,i,j,low,()),())=pA ((k,key,v,o,r,t,p,f,s,u,()),t1,t2,(n,w,x,()),()) (q,l,m,(a,b,c,d,e,()),()) (dk,g,body,h,cond,i,j,low,()):=by kernel_rfl
theorem uZ:PC 17 o8:=(AN (BN (l:=[(36,o6),(37,Tu),(38,dq),(39,aU),(40,zW),(41,qa)]) (o:=[]) ⟨uP,uL,pI,pH,za,vu,trivial⟩ trivial) AM func17 (by kernel_rfl) (by decide)).nice λ⟨⟨⟨r,key,v,u,w,t,p,f,x,y,()⟩,t1,t2,⟨n,z,A,()⟩,()⟩,⟨q,l,m,⟨a,b,c,d,e,()⟩,()⟩,⟨dk,g,body,i,cond,j,k,low,()⟩,()⟩ h=>
 (yw r key v u w t p f x y t1 t2 n z A q l m a b c d e dk g body i cond j k low).trans (pB (t:=((r,key,v,u,w,t,p,f,x,y,()),t1,t2,(n,z,A,()),())) (s:=(q,l,m,(a,b,c,d,e,()),())) (d:=(dk,g,body,i,cond,j,k,low,())) h)
theorem jb:oP prog [30]=true:=by kernel_rfl
def ua (l:List (Nat×PSpec)) (o:List (Nat×OSpec)):Eng.Env:={ EE FQ (H7 l) with vt:=tyE (Lt dC) 10,cmp:=P5 (Lt dC) [30],osp:=a8 o}
theorem jc {l:List (Nat×PSpec)} {o:List (Nat×OSpec)} (h:IU prog FP l) (b:Oz prog FP o):(ua l o).OK prog:=
 have e:(EE FQ (H7 l)).OK prog:=I8 (λf a v h=>by cases h) (H8 h)
 ⟨e.T,e.fn,e.ext,e.sum,e.gl,e.mixed,e.spec,e.mnz,Jw e.T jb,Me b,e.vsp⟩
abbrev yx:Eng.Env:=ua [(13,T0),(15,Tu),(16,fW),(14,UR),(42,aU)] []
def yy (x:AA [Ah,Dj,A9,A7]):BO:=fO prog yx (AC []) f18 [Ah,Dj,A9,A7] [.bool] x
theorem yz (k:Int) (key:L8) (v:Int) (o:L8) (r:Int) (t p f:L8) (s:Int) (u:Bool) (n:Int) (w:List BU) (x:L8) (q:Int) (l:List AD) (m:List AU) (a b c d e dk:Int) (g body:L8) (h cond:Int) (i:L8) (j low:Int):
 yy ((k,key,v,o,r,t,p,f,s,u,()),(n,w,x,()),(q,l,m,(a,b,c,d,e,()),()),(dk,g,body,h,cond,i,j,low,()),())=pC (k,key,v,o,r,t,p,f,s,u,()) (n,w,x,()) (q,l,m,(a,b,c,d,e,()),()) (dk,g,body,h,cond,i,j,low,()):=by kernel_rfl
theorem ub:PC 18 o9:=(AN (jc (l:=[(13,T0),(15,Tu),(16,fW),(14,UR),(42,aU)]) (o:=[]) ⟨du,l9,mW,fX,vK,trivial⟩ trivial) AM func18 (by kernel_rfl) (by decide)).nice λ⟨⟨r,key,v,u,w,t,p,f,x,y,()⟩,⟨n,z,A,()⟩,⟨q,l,m,⟨a,b,c,d,e,()⟩,()⟩,⟨dk,g,body,i,cond,j,k,low,()⟩,()⟩ h=>
 (yz r key v u w t p f x y n z A q l m a b c d e dk g body i cond j k low).trans (pD (a:=(r,key,v,u,w,t,p,f,x,y,())) (s:=(q,l,m,(a,b,c,d,e,()),())) (d:=(dk,g,body,i,cond,j,k,low,())) h)
end Go.Proofs.YtkgejlchafionaaGreatDoor
namespace Nice
theorem N6 (s:L8) (n:Nat):(cut s (n:Int)).length<=n:=by unfold cut;rw[List.length_take];omega
theorem aK (a:Ak) (b:BR a.2.2.1=true) (c:BR a.2.2.2.2.2.2.2.2.1=true):ED (SY a)=true:=by
 have d:(cut a.2.1 42).length<=42:=N6 a.2.1 42;have e:(cut a.2.2.2.1 302).length<=302:=N6 a.2.2.2.1 302;have f:(cut a.2.2.2.2.2.1 10).length<=10:=N6 a.2.2.2.2.2.1 10;have g:(cut a.2.2.2.2.2.2.1 42).length<=42:=N6 a.2.2.2.2.2.2.1 42;have h:(cut a.2.2.2.2.2.2.2.1 42).length<=42:=N6 a.2.2.2.2.2.2.2.1 42
 unfold ED Lz gw SY;dsimp only;rw[decide_eq_true (by omega:(cut a.2.1 42).length<=1000),decide_eq_true (by omega:(cut a.2.2.2.1 302).length<=1000),decide_eq_true (by omega:(cut a.2.2.2.2.2.1 10).length<=1000),decide_eq_true (by omega:(cut a.2.2.2.2.2.2.1 42).length<=1000),decide_eq_true (by omega:(cut a.2.2.2.2.2.2.2.1 42).length<=1000),b,c];rfl
theorem dw (e:AD):(Gl e).1.length<=42/\(Gl e).2.1.length<=14:=by
 unfold Gl;refine⟨N6 e.1 42,?_⟩;show((e.2.1.take 14).map L4).length<=14;rw[List.length_map,List.length_take];omega
theorem MT {s:BB} {e:AD} (h:e∈(E0 s).2.1):e.1.length<=42/\e.2.1.length<=14:=by
 have h:e∈(s.2.1.take 42).map Gl:=h;obtain⟨x, -,rfl⟩:=List.mem_map.1 h;exact dw x
theorem AA9 (s:BB):EF (E0 s)=true:=List.all_eq_true.2 λe a=>by
 obtain⟨b,c⟩:=MT a;unfold CN AY;rw[Bool.and_eq_true,decide_eq_true_eq,decide_eq_true_eq];omega
theorem aL {s:BB} {a:Ak}:(∀e,e∈(DJ (E0 s) a).2.1->e.2.1.length<=14)/\(DJ (E0 s) a).1.length<=20/\(DJ (E0 s) a).2.1.length<=20:=by
 unfold DJ;cases a.1==4
 ·cases a.1==5
  ·exact⟨(λx h=>by cases h),(by show 0<=20;omega),(by show 0<=20;omega)⟩
  ·exact⟨(λe h=>(MT (List.mem_filter.1 (List.mem_of_mem_take h)).1).2),(by show 0<=20;omega),D7⟩
 ·refine⟨(λx h=>by cases h),?_,(by show 0<=20;omega)⟩;show((BX (E0 s) a.2.2.2.2.2.2.1 a.2.2.2.2.2.2.2.1 a.2.2.2.2.2.2.2.2.1 true).map (·.1)).length<=20;rw[List.length_map];exact D7
theorem YK {s:BB} {p f:L8} {k:Int} {b:Bool} {e:AD} (h:e∈BX (E0 s) p f k b):e.1.length<=42/\e.2.1.length<=14:=
 MT (List.mem_filter.1 (List.mem_of_mem_take h)).1
theorem jd (s:BB) (a:Ak):Eu (DJ (E0 s) a)=true:=by
 obtain⟨i,j,l⟩:=aL (s:=s) (a:=a);have d:∀k,k∈(DJ (E0 s) a).1->k.length<=42:=by
  intro k b
  revert b
  unfold DJ;cases a.1==4
  ·cases a.1==5
   ·intro b;cases b
   ·intro b;cases b
  ·intro b;obtain⟨e,c,rfl⟩:=List.mem_map.1 (show k∈(BX (E0 s) a.2.2.2.2.2.2.1 a.2.2.2.2.2.2.2.1 a.2.2.2.2.2.2.2.2.1 true).map (·.1) from b);exact(YK c).1
 have f:∀e,e∈(DJ (E0 s) a).2.1->e.1.length<=42/\e.2.1.length<=14:=by
  intro e c
  revert c
  unfold DJ;cases a.1==4
  ·cases a.1==5
   ·intro b;cases b
   ·intro b;exact YK (show e∈BX (E0 s) a.2.2.2.2.2.2.1 a.2.2.2.2.2.2.2.1 a.2.2.2.2.2.2.2.2.1 false from b)
  ·intro b;cases b
 ·unfold Eu Et;rw[decide_eq_true (by omega),decide_eq_true (by omega)];have g:(DJ (E0 s) a).1.all AY=true:=List.all_eq_true.2 λk b=>decide_eq_true (by have:=d k b;omega)
  have h:(DJ (E0 s) a).2.1.all CN=true:=List.all_eq_true.2 λe c=>by
   have:=f e c;unfold CN AY;rw[decide_eq_true (by omega),decide_eq_true (by omega)];rfl
  rw[g,h];rfl
theorem dx {n:Int} (h:Ad .i64 n):BR n=true:=by
 have:=AH.1 h;unfold BR;rw[Bool.and_eq_true,decide_eq_true_eq,decide_eq_true_eq];exact this
theorem uc {s:BB} (h:∀x,x∈s.2.1->Bd AB x):xt s=true:=List.all_eq_true.2 λe a=>by
 have:=h e a;have b:e.2.1.length<=Lp:=this.2.1.1;exact decide_eq_true b
theorem je (s:BB):(E0 s).2.1.length<=42:=by
 show((s.2.1.take 42).map Gl).length<=42;rw[List.length_map,List.length_take];omega
