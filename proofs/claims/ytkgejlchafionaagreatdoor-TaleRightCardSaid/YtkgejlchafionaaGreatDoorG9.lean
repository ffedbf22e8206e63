/-
  Part of the proof. No condition.
-/
import Derived.Test.YtkgejlchafionaaGreatDoorG8
open Bool renaming and_eq_true->A0,and_false->Gl,and_true->Gt,false->AK,false_and->Ic,not_false->FU,not_true->GG,or_eq_true->ED,true->AD,true_and->Cz,true_or->I3
open Decidable renaming decide->AG
open Go.Value renaming slice->RG
open Int renaming lt_trans->ze,not_lt->zf
open List renaming all_eq_true->C8,append_assoc->C9,append_nil->Ce,drop_eq_getElem_cons->Ef,drop_eq_nil_of_le->GY,getD_eq_getElem?_getD->Bg,getElem?_eq_getElem->B4,getElem?_eq_some_iff->MJ,getElem_mem->EK,length_append->BA,length_cons->B7,length_drop->CC,length_map->Eg,length_nil->E8,length_take->Bw,mem_cons->Dv,mem_filter->Uf,mem_map->Ju,mem_of_mem_take->RR,mem_singleton->Cn,nil_append->DN,not_mem_nil->RS,pairwise_iff_getElem->Ws
open List.cons renaming inj->FP
open Nat renaming le_refl->Ak,le_succ->zg,zero_add->CJ,zero_le->Cx
open Option renaming none->AF,some->AC
open Option.some renaming inj->Dw
open _root_ renaming Bool->AH,Int->AA,List->AE,Nat->AB,Option->AP,beq_eq_false_iff_ne->CE,beq_iff_eq->Be,bne_eq_false_iff_eq->Wa,bne_iff_ne->Wu,decide_eq_false->BP,decide_eq_true->BK,decide_eq_true_eq->A6,of_decide_eq_true->BL,rfl->AL,trivial->A3
set_option maxRecDepth 1000000
open Go Go.Eng
noncomputable section
namespace Nice
def nv:PSpec:=⟨[CY,.str],[IT,.bool],λx=>AG (x.1.2.1.length<=1000000)&&Ej (x.1.2.1.map (DM x.2.1)),λx=>((FC (DM x.2.1) (EJ x.2.1) x.1.2.1 0).1,(FC (DM x.2.1) (EJ x.2.1) x.1.2.1 0).2,())⟩
def nw:PSpec:=⟨[CY,IT],[IT,.bool],λx=>AG (x.1.2.2.1.length<=1000000)&&Ej (x.1.2.2.1.map (Fu x.2.1)),λx=>((FC (Fu x.2.1) (H1 x.2.1) x.1.2.2.1 0).1,(FC (Fu x.2.1) (H1 x.2.1) x.1.2.2.1 0).2,())⟩
def dx:PSpec:=⟨[CY,IT],[IT,.bool],λx=>AG (x.1.2.2.1.length<=1000000),λx=>((FC (Fu x.2.1) (H1 x.2.1) x.1.2.2.1 0).1,(FC (Fu x.2.1) (H1 x.2.1) x.1.2.2.1 0).2,())⟩
def P3(e:AX)(c:AA)(t:L8):AH:=bif c==0 then AD else bif c==1 then !(D3 e).2 else bif c==2 then(D3 e).2&&M9 (D3 e).1.2.2.1==t else AK
def D6(e:AX):AH:=AG (e.2.1.length<=1000000)
def K5(e:AX):AH:=D6 e&&Aw (D3 e).1.2.2.1
def kc:PSpec:=⟨[AW,IT,.str],[.bool],λx=>K5 x.1,λx=>(P3 x.1 x.2.1 x.2.2.1,())⟩
def CL(e:AX)(v:BE):AX×AH:=bif AG (12<=e.2.1.length)||(AG (0<e.2.1.length)&&AG (v.1<=(B3 e).1))then(e,AK)else((e.1,e.2.1++[v],()),AD)
def V1:PSpec:=⟨[AW,A8],[AW,.bool],λx=>D6 x.1,λx=>((CL x.1 x.2.1).1,(CL x.1 x.2.1).2,())⟩
def CM(e:AX)(v:AA):AX×AH:=bif AG (Db e.2.1 v<0)then(e,AK)else((e.1,e.2.1.take (Db e.2.1 v).toNat++e.2.1.drop ((Db e.2.1 v).toNat+1),()),AD)
def V2:PSpec:=⟨[AW,IT],[AW,.bool],λx=>D6 x.1,λx=>((CM x.1 x.2.1).1,(CM x.1 x.2.1).2,())⟩
def uX(e:AX)(c:AA)(t:L8):BO:=
 bif (D3 e).2 then gd [AG (e.2.1.length<=140737488355328)] (bif c==0 then bO AD else bif c==1 then bO AK else bif c==2 then(bif M9 (D3 e).1.2.2.1==t then gd [Aw (D3 e).1.2.2.1] (bO AD)else gd [Aw (D3 e).1.2.2.1] (bO AK))else bO AK)
 else gd [AG (e.2.1.length<=140737488355328)] (bif c==0 then bO AD else bif c==1 then bO AD else bif c==2 then bO AK else bO AK)
theorem ny{e:AX}{c:AA}{t:L8}(h:K5 e=AD):uX e c t=bO (P3 e c t):=by
 unfold K5 D6 at h;rw[A0,A6]at h;unfold uX P3;rw[An (by omega),An (by omega),xG,xG,BG h.2,BG h.2,xG,xG];cases(D3 e).2<;>cases c==0<;>cases c==1<;>cases c==2<;>cases M9 (D3 e).1.2.2.1==t<;>rfl
abbrev kd:=AP (AM [AW,.bool])
def adA(e:AX)(v:BE):kd:=bif AG ((e.2.1.length:AA)>=12)then AC ((e.1,e.2.1,()),AK,())else gd [AG ((2*(e.2.1.length+[v].length)+400)*32<=281474976710656),AG (e.2.1.length<=1000000)] (AC ((e.1,e.2.1++[v],()),AD,()))
def adB(e:AX)(v:BE):kd:=bif AG ((e.2.1.length:AA)>0)then(bif AG (v.1<=(D3 e).1.1)then AC ((e.1,e.2.1,()),AK,())else adA e v)else adA e v
def nz(e:AX)(v:BE):kd:=bif (D3 e).2 then gd [AG (e.2.1.length<=140737488355328)] (adB e v)else gd [AG (e.2.1.length<=140737488355328)] (adB e v)
theorem Z5{e:AX}(h:0<e.2.1.length):(D3 e).1=B3 e:=by
 unfold D3;rw[show(e.2.1.length==0)=AK from CE.2 (by omega)];rfl
theorem AGB{e:AX}{v:BE}(h:e.2.1.length<=1000000):adA e v=bif AG (12<=e.2.1.length)then AC (e,AK,())else AC ((e.1,e.2.1++[v],()),AD,()):=by
 unfold adA;by_cases a:12<=e.2.1.length
 ·rw[Bn (by omega),Bn a]
 ·rw[Bm (by omega),Bm a,An (by simp only[B7,E8];omega),An h,xG]
theorem uY{e:AX}{v:BE}(h:D6 e=AD):nz e v=AC ((CL e v).1,(CL e v).2,()):=by
 have h:e.2.1.length<=1000000:=BL h;unfold nz;have b:adB e v=AC ((CL e v).1,(CL e v).2,()):=by
  unfold adB CL;rw[AGB h];by_cases a:0<e.2.1.length
  ·rw[Bn (by omega),Z5 a,BK a,Cz];cases AG (v.1<=(B3 e).1)<;>cases AG (12<=e.2.1.length)<;>rfl
  ·rw[Bm (by omega),BP a,BP (show ¬12<=e.2.1.length by omega)];rfl
 rw[An (by omega),xG,b];cases(D3 e).2<;>rfl
def n3(e:AX)(v:AA):kd:=
 gd [AG (e.2.1.length<=1000000)] (bif AG (Db e.2.1 v<0)then AC ((e.1,e.2.1,()),AK,())
 else gd [AG (0<=Db e.2.1 v)&&(AG ((Db e.2.1 v).toNat<e.2.1.length)&&(AG (Db e.2.1 v+1=Db e.2.1 v+1)&&AG (e.2.1.length<=1000000))),AG (A4 .i64 (Db e.2.1 v+1)),AG (e.2.1.length<=1000000)] (AC ((e.1,e.2.1.take (Db e.2.1 v).toNat++e.2.1.drop ((Db e.2.1 v).toNat+1),()),AD,())))
theorem dy(l:AE BE)(v:AA):Db l v= -1\/∃k:AB,Db l v=(k:AA)/\k<l.length:=by
 rcases Jq (λy:BE=>y.1==v) l 0 with⟨h, -⟩|⟨k,h,a⟩
 ·exact .inl h
 ·exact .inr ⟨k,by rw[show Db l v=((0+k:AB):AA)from h,CJ],a⟩
theorem uZ{e:AX}{v:AA}(h:D6 e=AD):n3 e v=AC ((CM e v).1,(CM e v).2,()):=by
 have h:e.2.1.length<=1000000:=BL h;unfold n3 CM;rw[An h,xG];rcases dy e.2.1 v with a|⟨k,a,b⟩
 ·rw[a];rfl
 ·rw[a,Bm (by omega),Bm (by omega),BG (by rw[A0,A0,A0];exact⟨BK (by omega),BK b,BK rfl,BK h⟩),An (AZ.2 ⟨by omega,by omega⟩),An h,xG]
def ua(m:AE Ar)(k i:AA):cA:=bif AG (i<(m.length:AA))then(bif (Bv m i.toNat).1==k then gd (gX m i) (AC (i,AD,()))else gd (gX m i) (AC (i,AK,())))else AC (i,AK,())
def X1(m:AE Ar)(k i:AA)(nx:cA):cA:=bif AG (i<(m.length:AA))then(bif AG ((Bv m i.toNat).1<k)then gd (AG (A4 .i64 (i+1))::gX m i) nx else gd (gX m i) (ua m k i))else ua m k i
def raG(l:AE BE):AE AH:=[AG (((l.length:AA)-1).toNat<l.length),AG (0<=(l.length:AA)-1),AG ((l.length:AA)-1<(l.length:AA)),AG (A4 .i64 ((l.length:AA)-1))]
def raT(g:AE AH)(e:AX)(v:BE):kd:=gd (AG ((2*(e.2.1.length+[v].length)+400)*32<=281474976710656)::AG ((2*(0+e.2.1.length)+400)*32<=281474976710656)::g) (AC ((e.1,e.2.1++[v],()),AD,()))
def n4(e:AX)(v:BE):kd:=bif AG ((e.2.1.length:AA)>=12)then AC ((e.1,e.2.1,()),AK,())else bif AG ((e.2.1.length:AA)>0)then(bif AG (v.1<=(e.2.1.getD ((e.2.1.length:AA)-1).toNat (A8).dflt).1)then gd (raG e.2.1) (AC ((e.1,e.2.1,()),AK,()))else raT (raG e.2.1) e v)else raT [] e v
theorem ub{e:AX}{v:BE}(h:D6 e=AD):n4 e v=AC ((CL e v).1,(CL e v).2,()):=by
 have h:e.2.1.length<=1000000:=BL h;have a:∀g:AE AH,(∀y:kd,gd g y=y)->raT g e v=AC ((e.1,e.2.1++[v],()),AD,()):=λg f=>by
  unfold raT;rw[An (by simp only[B7,E8];omega),An (by omega),f]
 unfold n4 CL;by_cases b:12<=e.2.1.length
 ·rw[Bn (by omega),BK b];rfl
 ·rw[Bm (by omega),BP b,Bool.false_or];by_cases c:0<e.2.1.length
  ·have d:∀y:kd,gd (raG e.2.1) y=y:=λy=>by
    unfold raG;rw[An (by omega),An (by omega),An (by omega),An (AZ.2 ⟨by omega,by omega⟩),xG]
   rw[Bn (by omega),BK c,Cz,a _ d,d,show e.2.1.getD ((e.2.1.length:AA)-1).toNat (A8).dflt=B3 e from by
    unfold B3;rw[show((e.2.1.length:AA)-1).toNat=e.2.1.length-1 by omega]]
   cases AG (v.1<=(B3 e).1)<;>rfl
  ·rw[Bm (by omega),BP c,Ic,a [] (λy=>xG y)];rfl
def n5(e:AX)(v:AA):kd:=
 bif (Fa v e.2.1 0).2 then gd [AG ((2*(([]++Dt e.2.1 AF (AC (Fa v e.2.1 0).1)).length+(Dt e.2.1 (AC ((Fa v e.2.1 0).1+1)) AF).length)+400)*32<=281474976710656),AG (0<=(Fa v e.2.1 0).1+1),AG ((Fa v e.2.1 0).1+1<=(e.2.1.length:AA)),AG (A4 .i64 ((Fa v e.2.1 0).1+1)),AG ((2*(0+(Dt e.2.1 AF (AC (Fa v e.2.1 0).1)).length)+400)*32<=281474976710656),AG (0<=(Fa v e.2.1 0).1),AG ((Fa v e.2.1 0).1<=(e.2.1.length:AA)),GA (e.1,e.2.1,())]
  (AC ((e.1,[]++Dt e.2.1 AF (AC (Fa v e.2.1 0).1)++Dt e.2.1 (AC ((Fa v e.2.1 0).1+1)) AF,()),AD,()))else gd [GA (e.1,e.2.1,())] (AC ((e.1,e.2.1,()),AK,()))
theorem OS{α:Type}(l:AE α)(k:AB):Dt l AF (AC (k:AA))=l.take k:=by
 unfold Dt;simp
theorem SC{α:Type}(l:AE α)(k:AB):Dt l (AC (k:AA)) AF=l.drop k:=by
 unfold Dt;simp
theorem uc{e:AX}{v:AA}(h:D6 e=AD):n5 e v=AC ((CM e v).1,(CM e v).2,()):=by
 have c:GA (e.1,e.2.1,())=true:=h;have h:e.2.1.length<=1000000:=BL h;unfold n5 CM;rcases YD (n:=v) e.2.1 0 with⟨a,b⟩|⟨k,a,d,b⟩
 ·have a:Db e.2.1 v= -1:=a;rw[a,b,BG c,xG];rfl
 ·have a:Db e.2.1 v=((0+k:AB):AA):=a;rw[CJ]at a b;rw[a,b,Bm (by omega),xT,OS,show((k:AA),AD).1+1=((k+1:AB):AA)from AL,SC];have f:(e.2.1.take k).length<=e.2.1.length:=by rw[Bw];omega
  have g:(e.2.1.drop (k+1)).length<=e.2.1.length:=by rw[CC];omega
  rw[An (by simp only[DN];omega),An (by omega),An (by omega),An (AZ.2 ⟨by omega,by omega⟩),An (by omega),An (by show(0:AA)<=k;omega),An (by show(k:AA)<=_;omega),BG c,xG];rfl
def spB(p:AH)(x:AA×AH):cA:=bif x.2 then gd [p] (AC (x.1,AD,()))else gd [p] (AC (x.1,AK,()))
theorem xU{p:AH}{x:AA×AH}(h:p=AD):spB p x=AC (x.1,x.2,()):=by
 unfold spB;rw[BG h,BG h,xG,xG];cases x.2<;>rfl
end Nice
namespace Go.Proofs.YtkgejlchafionaaGreatDoor
open Tryz
open Nice
def AGC(x:AM [CY,.str]):cA:=fO prog (Aj [(151,ADK 152)]) (AV []) f105 [CY,.str] [IT,.bool] x
theorem AGD(q:AA)(l:AE AX)(m:AE Ar)(a b c d e:AA)(k:L8):AGC ((q,l,m,(a,b,c,d,e,()),()),k,())=spB (AG (l.length<=1000000)&&Ej (l.map (DM k))) (FC (DM k) (EJ k) l 0):=by kernel_rfl
theorem ABz:PC 105 nv:=(Ap (Ac (l:=[(151,ADK 152)]) ⟨AHW,A3⟩) Al func105 (by kernel_rfl) (by decide)).nice λ⟨⟨q,l,m,⟨a,b,c,d,e,()⟩,()⟩,k,()⟩ h=>(AGD q l m a b c d e k).trans (xU h)
def AGE(x:AM [CY,IT]):cA:=fO prog (Aj [(102,ADL 103)]) (AV []) f67 [CY,IT] [IT,.bool] x
theorem AGF(q:AA)(l:AE AX)(m:AE Ar)(a b c d e k:AA):AGE ((q,l,m,(a,b,c,d,e,()),()),k,())=spB (AG (m.length<=1000000)&&Ej (m.map (Fu k))) (FC (Fu k) (H1 k) m 0):=by kernel_rfl
theorem AB0:PC 67 nw:=(Ap (Ac (l:=[(102,ADL 103)]) ⟨AHY,A3⟩) Al func67 (by kernel_rfl) (by decide)).nice λ⟨⟨q,l,m,⟨a,b,c,d,e,()⟩,()⟩,k,()⟩ h=>(AGF q l m a b c d e k).trans (xU h)
def AK3(x:AM [AW,IT,.str]):BO:=fO prog (Aj [(118,K0),(114,Mk)]) (AV []) f107 [AW,IT,.str] [.bool] x
theorem AK4(k:L8)(l:AE BE)(c:AA)(t:L8):AK3 ((k,l,()),c,t,())=uX (k,l,()) c t:=by kernel_rfl
theorem AGG:PC 107 kc:=(Ap (Ac (l:=[(118,K0),(114,Mk)]) ⟨fF,cL,A3⟩) Al func107 (by kernel_rfl) (by decide)).nice λ⟨⟨k,l,()⟩,c,t,()⟩ h=>(AK4 k l c t).trans (ny h)
def AGH(x:AM [AW,IT,.str]):BO:=fO prog (Aj [(53,K0),(30,W2)]) (AV []) f61 [AW,IT,.str] [.bool] x
theorem AGI(k:L8)(l:AE BE)(c:AA)(t:L8):AGH ((k,l,()),c,t,())=uX (k,l,()) c t:=by kernel_rfl
theorem AB1:PC 61 kc:=(Ap (Ac (l:=[(53,K0),(30,W2)]) ⟨Ya,fL,A3⟩) Al func61 (by kernel_rfl) (by decide)).nice λ⟨⟨k,l,()⟩,c,t,()⟩ h=>(AGI k l c t).trans (ny h)
def AGJ(x:AM [AW,A8]):kd:=fO prog (GF [(118,K0)] [(156,aT)]) (AV []) f108 [AW,A8] [AW,.bool] x
theorem AGK(k:L8)(l:AE BE)(v:AA)(g:AH)(b:L8):AGJ ((k,l,()),(v,g,b,()),())=nz (k,l,()) (v,g,b,()):=by kernel_rfl
theorem AB2:PC 108 V1:=(Ap (Cb (l:=[(118,K0)]) (o:=[(156,aT)]) ⟨fF,A3⟩ ⟨pe,A3⟩) Al func108 (by kernel_rfl) (by decide)).nice λ⟨⟨k,l,()⟩,⟨v,g,b,()⟩,()⟩ h=>(AGK k l v g b).trans (uY h)
def AGL(x:AM [AW,A8]):kd:=fO prog (GF [(53,K0)] []) (AV []) f63 [AW,A8] [AW,.bool] x
theorem AGM(k:L8)(l:AE BE)(v:AA)(g:AH)(b:L8):AGL ((k,l,()),(v,g,b,()),())=n4 (k,l,()) (v,g,b,()):=by kernel_rfl
theorem AB3:PC 63 V1:=(Ap (Cb (l:=[(53,K0)]) (o:=[]) ⟨Ya,A3⟩ trivial) Al func63 (by kernel_rfl) (by decide)).nice λ⟨⟨k,l,()⟩,⟨v,g,b,()⟩,()⟩ h=>(AGM k l v g b).trans (ub h)
def AGN(x:AM [AW,IT]):kd:=fO prog (GF [(162,UW)] [(156,aT),(197,pg)]) (AV []) f154 [AW,IT] [AW,.bool] x
theorem AGO(k:L8)(l:AE BE)(v:AA):AGN ((k,l,()),v,())=n3 (k,l,()) v:=by kernel_rfl
theorem AB4:PC 154 V2:=(Ap (Cb (l:=[(162,UW)]) (o:=[(156,aT),(197,pg)]) ⟨iF,A3⟩ ⟨pe,ADW,A3⟩) Al func154 (by kernel_rfl) (by decide)).nice λ⟨⟨k,l,()⟩,v,()⟩ h=>(AGO k l v).trans (uZ h)
def AGP(x:AM [AW,IT]):kd:=fO prog (GF [(54,qo)] []) (AV []) f62 [AW,IT] [AW,.bool] x
theorem AGQ(k:L8)(l:AE BE)(v:AA):AGP ((k,l,()),v,())=n5 (k,l,()) v:=by kernel_rfl
theorem AB5:PC 62 V2:=(Ap (Cb (l:=[(54,qo)]) (o:=[]) ⟨yS,A3⟩ trivial) Al func62 (by kernel_rfl) (by decide)).nice λ⟨⟨k,l,()⟩,v,()⟩ h=>(AGQ k l v).trans (uc h)
abbrev Z6:AE (AB×AE (AB×Sh)):=[(2,[(1,.one .sym),(2,.obj [.sym,.dat AW,.dat BB,.sym,.sym,.sym,.sym,.sym]),(6,.one .sym)])]
def ud(N:AB)(s:Bc)(k i:AA):cA:=rH prog (Aj []) (AV Z6) f34 [IT,.bool] N 0 [(1,sy (.int .i64 k)),(2,.pointer (AC ⟨12,0,AF⟩)),(6,sy (.int .i64 i))] [.dat AW s.2.1,.dat BB s.2.2.1,.row [sy (.int .i64 s.1),dt 10,dt 11,sy (.int .i64 s.2.2.2.1.1),sy (.int .i64 s.2.2.2.1.2.1),sy (.int .i64 s.2.2.2.1.2.2.1),sy (.int .i64 s.2.2.2.1.2.2.2.1),sy (.int .i64 s.2.2.2.1.2.2.2.2.1)] 28 AK]
def AGR(x:AM [CY,IT]):cA:=fO prog (Aj []) (AV Z6) f34 [CY,IT] [IT,.bool] x
theorem AB6(x:AM [CY,IT]):AGR x=Cy prog (Aj []) (AV Z6) f34 [CY,IT] [IT,.bool] AU x:=AL
theorem AB7(N:AB)(q:AA)(l:AE AX)(m:AE Ar)(a b c d e k:AA):Cy prog (Aj []) (AV Z6) f34 [CY,IT] [IT,.bool] N ((q,l,m,(a,b,c,d,e,()),()),k,())=ud N (q,l,m,(a,b,c,d,e,()),()) k 0:=by kernel_rfl
theorem AOM(N:AB)(s:Bc)(k i:AA):ud (N+1) s k i=X1 s.2.2.1 k i (ud N s k (i+1)):=by kernel_rfl
theorem xV{s:Bc}{k:AA}(f:s.2.2.1.length<=1000000):∀(L:AE Ar) (i N:AB),s.2.2.1.drop i=L->i+L.length=s.2.2.1.length->L.length<N->ud N s k (i:AA)=AC ((FC (Fu k) (H1 k) L i).1,(FC (Fu k) (H1 k) L i).2,())
 |[],i,N,hd,c,hN=>by
  obtain⟨N,rfl⟩:∃k,N=k+1:=⟨N-1,by omega⟩
  simp only[E8]at c;rw[AOM];unfold X1 ua;rw[Bm (by omega),Bm (by omega)];rfl
 |e::r,i,N,hd,c,hN=>by
  simp only[B7]at c hN;obtain⟨N,rfl⟩:∃k,N=k+1:=⟨N-1,by omega⟩
  have a:i<s.2.2.1.length:=by omega
  have b:=Ef a;rw[hd]at b;have d:Bv s.2.2.1 ((i:AA)).toNat=e:=by
   show s.2.2.1.getD i _=e;rw[Bg,B4 a];exact(FP b).1.symm
  have g:s.2.2.1.drop (i+1)=r:=(FP b).2.symm;have h:=xV (k:=k) f r (i+1) N g (by omega) (by omega);rw[AOM];unfold X1 FC;rw[Bn (by omega),d];show(bif Fu k e then _ else _)=_;cases Fu k e
  ·rw[xF,xF,HL a];unfold ua;rw[Bn (by omega),d,HL a,HL a];show(bif H1 k e then _ else _)=_;cases H1 k e<;>rfl
  ·rw[xT,xT,L2 a (BK (AZ.2 ⟨by omega,by omega⟩))];exact h
theorem AGS:PC 34 dx:=(Ap (sh:=AV Z6) (Ac (l:=[]) trivial) Al func34 (by kernel_rfl) (by decide)).nice λ⟨⟨q,l,m,⟨a,b,c,d,e,()⟩,()⟩,k,()⟩ h=>by
 have h:m.length<=1000000:=BL h;show AGR _=_;rw[AB6,AB7];exact xV (s:=(q,l,m,(a,b,c,d,e,()),())) h m 0 AU rfl (by simp) (by unfold AU;omega)
end Go.Proofs.YtkgejlchafionaaGreatDoor
namespace Nice
abbrev Bu:Ty:=.pair IT (.pair .str (.pair .str (.pair IT (.pair IT (.pair .str (.pair IT (.pair IT .unit)))))))
abbrev Ai:=AA×L8×L8×AA×AA×L8×AA×AA×Unit
abbrev Rd:=AA×AA×Unit
abbrev K6:=AP (AM [CY,JI])
def KP(l:AE AX)(p:AA×AH)(e:AX):AE AX:=l.take p.1.toNat++((bif e.2.1.length==0 then []else [e])++l.drop (bif p.2 then p.1.toNat+1 else p.1.toNat))
def V3(s:Bc)(l:AE AX):Bc:=(s.1,l,s.2.2.1,s.2.2.2.1,())
def Lm(s:Bc)(i:AA)(e:AX)(a:AA):Bc×Rd:=bif (CM e a).2 then(V3 s (KP s.2.1 (i,AD) (CM e a).1),(0,a,()))else(s,(6,0,()))
def V4(s:Bc)(i:AA)(e:AX)(a:AA):AH:=D6 e&&(!(CM e a).2||(AG (0<=i)&&(AG (i.toNat<s.2.1.length)&&AG (s.2.1.length<=1000000))))
def AON:PSpec:=⟨[CY,IT,AW,IT],[CY,JI],λx=>V4 x.1 x.2.1 x.2.2.1 x.2.2.2.1,λx=>((Lm x.1 x.2.1 x.2.2.1 x.2.2.2.1).1,(Lm x.1 x.2.1 x.2.2.1 x.2.2.2.1).2,())⟩
def sR(s:Bc)(l:AE AX)(r:Rd):K6:=AC ((s.1,l,s.2.2.1,s.2.2.2.1,()),r,())
def xW(l:AE AX)(i:AA):AH:=AG (0<=i)&&(AG (i.toNat<l.length)&&(AG (i+1=i+1)&&AG (l.length<=1000000)))
def n9(s:Bc)(i:AA)(e:AX)(a:AA):K6:=
 bif (CM e a).2 then gd [AG (s.2.1.length<=1000000),D6 e] (bif (((CM e a).1.2.1.length:AA))==0 then gd [xW s.2.1 i,AG (A4 .i64 (i+1))] (sR s (s.2.1.take i.toNat++s.2.1.drop (i.toNat+1)) (0,a,()))else gd (gX s.2.1 i) (sR s (s.2.1.set i.toNat ((CM e a).1.1,(CM e a).1.2.1,())) (0,a,())))
 else gd [D6 e] (sR s s.2.1 (6,0,()))
theorem oA{α:Type}(l:AE α)(i:AB)(x:α)(h:i<l.length):l.set i x=l.take i++([x]++l.drop (i+1)):=by
 rw[List.set_eq_take_append_cons_drop,if_pos h];rfl
theorem ue{s:Bc}{i:AA}{e:AX}{a:AA}(h:V4 s i e a=AD):n9 s i e a=AC ((Lm s i e a).1,(Lm s i e a).2,()):=by
 unfold V4 at h;rw[A0]at h;obtain⟨c,h⟩:=h;unfold n9 Lm;cases g:(CM e a).2
 ·rw[xF,xF,BG c,xG];rfl
 ·rw[g]at h;have h:(AG (0<=i)&&(AG (i.toNat<s.2.1.length)&&AG (s.2.1.length<=1000000)))=true:=h;simp only[A0,A6]at h;obtain⟨j,b,d⟩:=h;obtain⟨n,rfl⟩:∃n:AB,i=(n:AA):=⟨i.toNat,by omega⟩
  have b:n<s.2.1.length:=b;rw[xT,xT,An d,BG c,xG];by_cases f:(CM e a).1.2.1.length=0
  ·rw[show((((CM e a).1.2.1.length:AA))==0)=AD from Be.2 (by omega),xT,BG (by unfold xW;simp only[A0,A6];exact⟨by omega,b,A3,d⟩),An (AZ.2 ⟨by omega,by omega⟩),xG];unfold KP;rw[show((CM e a).1.2.1.length==0)=AD from Be.2 f];rfl
  ·rw[show((((CM e a).1.2.1.length:AA))==0)=AK from CE.2 (by omega),xF,HL b];unfold KP;rw[show((CM e a).1.2.1.length==0)=AK from CE.2 f,show((n:AA)).toNat=n from AL,oA _ _ _ b];rfl
def F7(s:Bc)(key:L8):AX:=bif (FC (DM key) (EJ key) s.2.1 0).2 then VG s.2.1 (FC (DM key) (EJ key) s.2.1 0).1 else(key,[],())
def CW(s:Bc)(d:Ai):AE AX×Rd:=
 bif d.1==1&& !P3 (F7 s d.2.1) d.2.2.2.2.1 d.2.2.2.2.2.1 then(s.2.1,(9,0,()))
 else bif d.1 !=1&& !(FC (DM d.2.1) (EJ d.2.1) s.2.1 0).2 then(s.2.1,(6,0,()))
 else bif d.1==3 then(bif (CM (F7 s d.2.1) d.2.2.2.1).2 then(KP s.2.1 (FC (DM d.2.1) (EJ d.2.1) s.2.1 0) (CM (F7 s d.2.1) d.2.2.2.1).1,(0,d.2.2.2.1,()))else(s.2.1,(6,0,())))
 else bif (CL (F7 s d.2.1) (s.1,d.1==2,d.2.2.1,())).2&&((FC (DM d.2.1) (EJ d.2.1) s.2.1 0).2|| !decide (40<=s.2.1.length))then(KP s.2.1 (FC (DM d.2.1) (EJ d.2.1) s.2.1 0) (CL (F7 s d.2.1) (s.1,d.1==2,d.2.2.1,())).1,(0,s.1,()))else(s.2.1,(5,0,()))
def Qy(q:AA)(e:AX):AH:=AG (1<=e.2.1.length)&&(AG (e.2.1.length<=12)&&(AG ((B3 e).1<q)&&Aw (B3 e).2.2.1))
def sc(s:Bc)(d:Ai):AH:=AG (s.2.1.length<=40)&&(Ej (s.2.1.map (DM d.2.1))&&(s.2.1.all (Qy s.1)&&(d.1==1||(d.1==2||d.1==3))))
def doS:PSpec:=⟨[CY,Bu],[CY,JI],λx=>sc x.1 x.2.1,λx=>(V3 x.1 (CW x.1 x.2.1).1,(CW x.1 x.2.1).2,())⟩
def dk(a:AA)(f:AH->K6):K6:=bif a==2 then f AD else f AK
def sw(a:AA)(e:K6)(hd b:AH)(f c d:K6):K6:=bif a==3 then e else bif a==1 then(bif hd then gd [b] (bif a==2 then c else d)else gd [b] f)else bif a==2 then c else d
def xX(s:Bc)(i:AA)(e:AX)(a:AA):K6:=gd [V4 s i (e.1,e.2.1,()) a] (AC ((Lm s i (e.1,e.2.1,()) a).1,(Lm s i (e.1,e.2.1,()) a).2,()))
def tlE(s:Bc)(i:AA)(e:AX)(v:BE):K6:=bif (CL (e.1,e.2.1,()) v).2 then gd (gX s.2.1 i++[AG (s.2.1.length<=1000000),D6 (e.1,e.2.1,())]) (sR s (s.2.1.set i.toNat (CL (e.1,e.2.1,()) v).1) (0,s.1,()))else gd (gX s.2.1 i++[AG (s.2.1.length<=1000000),D6 (e.1,e.2.1,())]) (sR s (s.2.1.set i.toNat (CL (e.1,e.2.1,()) v).1) (0,s.1,()))
def oB(l:AE AX)(i:AA)(vs:AE AX):AH:=AG (0<=i)&&(AG (i.toNat<=l.length)&&(AG (vs.length=1)&&AG (l.length<=1000000)))
def inE(s:Bc)(i:AA)(e:AX)(v:BE):K6:=bif (CL e v).2 then gd [oB s.2.1 i [(CL e v).1],AG (s.2.1.length<=1000000),D6 e] (sR s (s.2.1.take i.toNat++([(CL e v).1]++s.2.1.drop i.toNat)) (0,s.1,()))else gd [oB s.2.1 i [(CL e v).1],AG (s.2.1.length<=1000000),D6 e] (sR s (s.2.1.take i.toNat++([(CL e v).1]++s.2.1.drop i.toNat)) (0,s.1,()))
def doE(s:Bc)(d:Ai)(p:AA×AH)(fp:AH)(E:AX):K6:=
 bif p.2 then gd (gX s.2.1 p.1++[fp]) (bif AG ((E.2.1.length:AA)>=12)then dk d.1 (λ_=>sw d.1 (xX s p.1 E d.2.2.2.1) (P3 (E.1,E.2.1,()) d.2.2.2.2.1 d.2.2.2.2.2.1) (K5 (E.1,E.2.1,())) (sR s s.2.1 (9,0,())) (sR s s.2.1 (5,0,())) (sR s s.2.1 (5,0,())))
  else dk d.1 (λg=>sw d.1 (xX s p.1 E d.2.2.2.1) (P3 (E.1,E.2.1,()) d.2.2.2.2.1 d.2.2.2.2.2.1) (K5 (E.1,E.2.1,())) (sR s s.2.1 (9,0,())) (tlE s p.1 E (s.1,g,d.2.2.1,())) (tlE s p.1 E (s.1,g,d.2.2.1,()))))
 else gd [fp] (bif AG ((s.2.1.length:AA)>=40)then dk d.1 (λ_=>sw d.1 (xX s p.1 (d.2.1,[],()) d.2.2.2.1) (P3 (d.2.1,[],()) d.2.2.2.2.1 d.2.2.2.2.2.1) (K5 (d.2.1,[],())) (sR s s.2.1 (9,0,())) (sR s s.2.1 (6,0,())) (sR s s.2.1 (5,0,())))
  else dk d.1 (λg=>sw d.1 (xX s p.1 (d.2.1,[],()) d.2.2.2.1) (P3 (d.2.1,[],()) d.2.2.2.2.1 d.2.2.2.2.2.1) (K5 (d.2.1,[],())) (sR s s.2.1 (9,0,())) (sR s s.2.1 (6,0,())) (inE s p.1 (d.2.1,[],()) (s.1,g,d.2.2.1,()))))
theorem MZ{α:Type}(lt eq:α->AH)(l:AE α):∃n:AB,(FC lt eq l 0).1=(n:AA)/\n<=l.length/\((FC lt eq l 0).2=AD->n<l.length):=by
 have:∀(l:AE α) (i:AB),∃n:AB,(FC lt eq l i).1=((i+n:AB):AA)/\n<=l.length/\((FC lt eq l i).2=AD->n<l.length):=by
  intro l
  induction l with
  |nil=>exact λi=>⟨0,rfl,Ak _,λh=>by cases h⟩
  |cons x r d=>
   intro i;unfold FC;cases lt x
   ·exact⟨0,rfl,Cx _,λ_=>by simp⟩
   ·rw[xT];obtain⟨n,a,c,b⟩:=d (i+1);exact⟨n+1,by rw[a];congr 1;omega,by simp;omega,λh=>by have:=b h;simp;omega⟩
 obtain⟨n,a,c,b⟩:=this l 0;exact⟨n,by rw[a,CJ],c,b⟩
theorem OU{α β:Type}{l:AE α}{i:AB}(h:i<l.length)(a:AE AH)(y:AP β):gd (gX l (i:AA)++a) y=gd a y:=by
 show gd (AG ((i:AA).toNat<l.length)::AG (0<=(i:AA))::AG ((i:AA)<(l.length:AA))::a) y=_;rw[An (by omega),An (by omega),An (by omega)]
theorem ug{a:AA}{f d g e Y:K6}{hd c:AH}(h:a=3->f=Y)(b:c=AD)(i:a=1->hd=AK->d=Y)(j:a=1->hd=AD->e=Y)(k:a=2->g=Y)(l:a=1\/a=2\/a=3):sw a f hd c d g e=Y:=by
 unfold sw;rcases l with rfl|rfl|rfl
 ·show(bif hd then gd [c] e else gd [c] d)=Y;rw[BG b,BG b,xG,xG];cases hd
  ·exact i rfl rfl
  ·exact j rfl rfl
 ·exact k rfl
 ·exact h rfl
theorem uh{a:AA}{f:AH->K6}{Y:K6}(h:f (a==2)=Y):dk a f=Y:=by
 unfold dk;cases b:a==2
 ·rw[xF,<-h,b]
 ·rw[xT,<-h,b]
theorem ga{e:AX}{q:AA}(h:Qy q e=AD):K5 e=true:=by
 unfold Qy at h;simp only[A0,A6]at h;unfold K5 D6;rw[BK (by omega),Z5 (by omega),h.2.2.2];rfl
theorem OV(s:Bc)(l:AE AX)(r:Rd):sR s l r=AC (V3 s l,r,()):=AL
theorem AGT{s:Bc}{d:Ai}(h:sc s d=AD):doE s d (FC (DM d.2.1) (EJ d.2.1) s.2.1 0) (AG (s.2.1.length<=1000000)&&Ej (s.2.1.map (DM d.2.1))) (s.2.1.getD (FC (DM d.2.1) (EJ d.2.1) s.2.1 0).1.toNat (AW).dflt)=AC (V3 s (CW s d).1,(CW s d).2,()):=by
 unfold sc at h;simp only[A0,ED,A6,Be]at h;obtain⟨H,C,D,I⟩:=h;have u:(AG (s.2.1.length<=1000000)&&Ej (s.2.1.map (DM d.2.1)))=true:=by rw[BK (by omega),C];rfl
 have A:∃n:AB,(FC (DM d.2.1) (EJ d.2.1) s.2.1 0).1=(n:AA)/\n<=s.2.1.length/\((FC (DM d.2.1) (EJ d.2.1) s.2.1 0).2=AD->n<s.2.1.length):=MZ _ _ _;unfold doE CW F7;generalize FC (DM d.2.1) (EJ d.2.1) s.2.1 0=p at A⊢;obtain⟨i,w⟩:=p;obtain⟨n,x,c,F⟩:=A;have x:i=(n:AA):=x
 subst x;rw[u];cases w
 ·
  rw[xF,xF,BG rfl,xG];have j:K5 (d.2.1,[],())=true:=by unfold K5;rfl
  have G:(CM (d.2.1,[],()) d.2.2.2.1).2=false:=AL;have f:xX s (n:AA) (d.2.1,[],()) d.2.2.2.1=sR s s.2.1 (6,0,()):=by
   unfold xX;rw[BG (by unfold V4;rw[show(CM ((d.2.1,[],()):AX) d.2.2.2.1).2=AK from AL];rfl),xG];rfl
  have a:∀v:BE,CL (d.2.1,[],()) v=((d.2.1,[v],()),AD):=λv=>rfl
  by_cases q:40<=s.2.1.length
  ·rw[Bn (by omega)];refine uh (ug (λe=> ?_) j (λe hd=> ?_) (λe hd=> ?_) (λe=> ?_) (by omega))
   ·rw[f,OV,show(d.1==1)=AK from CE.2 (by omega),show(d.1 !=1)=AD from Wu.2 (by omega)];rfl
   ·rw[OV,show(d.1==1)=AD from Be.2 e,hd];rfl
   ·rw[OV,show(d.1==1)=AD from Be.2 e,hd,show(d.1 !=1)=AK from Wa.2 e,show(d.1==3)=AK from CE.2 (by omega),BK q,a];rfl
   ·rw[OV,show(d.1==1)=AK from CE.2 (by omega),show(d.1 !=1)=AD from Wu.2 (by omega)];rfl
  ·rw[Bm (by omega)];refine uh (ug (λe=> ?_) j (λe hd=> ?_) (λe hd=> ?_) (λe=> ?_) (by omega))
   ·rw[f,OV,show(d.1==1)=AK from CE.2 (by omega),show(d.1 !=1)=AD from Wu.2 (by omega)];rfl
   ·rw[OV,show(d.1==1)=AD from Be.2 e,hd];rfl
   ·unfold inE;rw[a,xT,BG (by unfold oB;simp only[A0,A6];exact⟨by omega,c,rfl,by omega⟩),An (by omega),BG (show D6 (d.2.1,[],())=AD from AL),xG,OV,show(d.1==1)=AD from Be.2 e,hd,show(d.1 !=1)=AK from Wa.2 e,show(d.1==3)=AK from CE.2 (by omega),BP q,xF];rfl
   ·rw[OV,show(d.1==1)=AK from CE.2 (by omega),show(d.1 !=1)=AD from Wu.2 (by omega)];rfl
 ·have c:n<s.2.1.length:=F rfl;obtain⟨E,y⟩:∃E,E=VG s.2.1 (n:AA):=⟨_,rfl⟩
  have z:s.2.1.getD ((n:AA)).toNat (AW).dflt=E:=by rw[y]
  have r:E∈s.2.1:=by
   rw[y];show s.2.1.getD n _∈s.2.1;rw[Bg,B4 c];exact EK c
  have l:=C8.1 D E r;have j:K5 E=true:=ga l;unfold Qy at l;simp only[A0,A6]at l;obtain⟨J,K,B,L⟩:=l;have m:D6 E=true:=BK (by omega);rw[xT,xT,OU c,BG rfl,xG,z,<-y];obtain⟨k,vs,⟨⟩⟩:=E;have B:(B3 (k,vs,())).1<s.1:=B
  have f:xX s (n:AA) (k,vs,()) d.2.2.2.1=AC ((Lm s (n:AA) (k,vs,()) d.2.2.2.1).1,(Lm s (n:AA) (k,vs,()) d.2.2.2.1).2,()):=by
   unfold xX;rw[BG (by
    unfold V4;rw[show D6 (k,vs,())=AD from m,show(AG (0<=(n:AA))&&(AG (((n:AA)).toNat<s.2.1.length)&&AG (s.2.1.length<=1000000)))=AD from by simp only[A0,A6];exact⟨by omega,c,by omega⟩,Bool.or_true];rfl),xG]
  by_cases t:12<=vs.length
  ·rw[Bn (show(vs.length:AA)>=12 by omega)];have a:∀v:BE,CL (k,vs,()) v=((k,vs,()),AK):=λv=>by
    unfold CL;rw[show AG (12<=((k,vs,()):AX).2.1.length)=AD from BK t];rfl
   refine uh (ug (λe=> ?_) j (λe hd=> ?_) (λe hd=> ?_) (λe=> ?_) (by omega))
   ·rw[f,show(d.1==1)=AK from CE.2 (by omega),show(d.1==3)=AD from Be.2 e];unfold Lm;rw[Ic,xF,show(d.1 !=1&& !true)=AK from Gl _,xF,xT];cases(CM (k,vs,()) d.2.2.2.1).2<;>rfl
   ·rw[OV,show(d.1==1)=AD from Be.2 e,hd];rfl
   ·rw[OV,show(d.1==1)=AD from Be.2 e,hd,show(d.1==3)=AK from CE.2 (by omega),a,show(d.1 !=1&& !true)=AK from Gl _];rfl
   ·rw[OV,show(d.1==1)=AK from CE.2 (by omega),show(d.1==3)=AK from CE.2 (by omega),a,show(d.1 !=1&& !true)=AK from Gl _];rfl
  ·rw[Bm (show ¬(vs.length:AA)>=12 by omega)];have a:∀(g:AH) (b:L8),CL (k,vs,()) (s.1,g,b,())=((k,vs++[(s.1,g,b,())],()),AD):=λg b=>by
    unfold CL;rw[show AG (12<=((k,vs,()):AX).2.1.length)=AK from BP t,show AG (((s.1,g,b,()):BE).1<=(B3 (k,vs,())).1)=AK from BP (show ¬s.1<=(B3 (k,vs,())).1 by omega),Gl];rfl
   have htl:∀(g:AH),tlE s (n:AA) (k,vs,()) (s.1,g,d.2.2.1,())=sR s (s.2.1.set n (k,vs++[(s.1,g,d.2.2.1,())],())) (0,s.1,()):=λg=>by
    unfold tlE;rw[a,xT,OU c,An (by omega),BG m,xG];rfl
   have o:∀g:AH,KP s.2.1 ((n:AA),AD) (k,vs++[(s.1,g,d.2.2.1,())],())=s.2.1.set n (k,vs++[(s.1,g,d.2.2.1,())],()):=λg=>by
    rw[oA _ _ _ c];unfold KP;rw[show(((k,vs++[(s.1,g,d.2.2.1,())],()):AX).2.1.length==0)=AK from CE.2 (by show(vs++[_]).length≠0;simp)];rfl
   refine uh (ug (λe=> ?_) j (λe hd=> ?_) (λe hd=> ?_) (λe=> ?_) (by omega))
   ·rw[f,show(d.1==1)=AK from CE.2 (by omega),show(d.1==3)=AD from Be.2 e];unfold Lm;rw[Ic,xF,show(d.1 !=1&& !true)=AK from Gl _,xF,xT];cases(CM (k,vs,()) d.2.2.2.1).2<;>rfl
   ·rw[OV,show(d.1==1)=AD from Be.2 e,hd];rfl
   ·rw[htl,OV,show(d.1==1)=AD from Be.2 e,hd,show(d.1==3)=AK from CE.2 (by omega),a,show(d.1 !=1&& !true)=AK from Gl _];show _=AC (V3 s (KP s.2.1 ((n:AA),AD) (k,vs++[(s.1,d.1==2,d.2.2.1,())],())),(0,s.1,()),());rw[o]
   ·rw[htl,OV,show(d.1==1)=AK from CE.2 (by omega),show(d.1==3)=AK from CE.2 (by omega),a,show(d.1 !=1&& !true)=AK from Gl _];show _=AC (V3 s (KP s.2.1 ((n:AA),AD) (k,vs++[(s.1,d.1==2,d.2.2.1,())],())),(0,s.1,()),());rw[o]
end Nice
namespace Go.Proofs.YtkgejlchafionaaGreatDoor
open Tryz
open Nice
def AGU(x:AM [CY,IT,AW,IT]):K6:=fO prog (GF [(154,V2)] [(109,aU),(155,AOQ)]) (AV []) f106 [CY,IT,AW,IT] [CY,JI] x
theorem AGV(q:AA)(l:AE AX)(m:AE Ar)(a b c d e i:AA)(k:L8)(vs:AE BE)(f:AA):AGU ((q,l,m,(a,b,c,d,e,()),()),i,(k,vs,()),f,())=n9 (q,l,m,(a,b,c,d,e,()),()) i (k,vs,()) f:=by kernel_rfl
theorem AB8:PC 106 AON:=(Ap (Cb (l:=[(154,V2)]) (o:=[(109,aU),(155,AOQ)]) ⟨AB4,A3⟩ ⟨AOP,ADY,A3⟩) Al func106 (by kernel_rfl) (by decide)).nice λ⟨⟨q,l,m,⟨a,b,c,d,e,()⟩,()⟩,i,⟨k,vs,()⟩,f,()⟩ h=>(AGV q l m a b c d e i k vs f).trans (ue h)
abbrev AK7:Eng.Env:=GF [(105,nv),(107,kc),(108,V1),(106,AON)] [(109,aU),(110,AOO)]
def odo(x:AM [CY,Bu]):K6:=fO prog AK7 (AV []) f68 [CY,Bu] [CY,JI] x
theorem edo(q:AA)(l:AE AX)(m:AE Ar)(a b c d e i:AA)(key body:L8)(f cond:AA)(g:L8)(h low:AA):
 odo ((q,l,m,(a,b,c,d,e,()),()),(i,key,body,f,cond,g,h,low,()),())=doE (q,l,m,(a,b,c,d,e,()),()) (i,key,body,f,cond,g,h,low,()) (FC (DM key) (EJ key) l 0) (AG (l.length<=1000000)&&Ej (l.map (DM key))) (l.getD (FC (DM key) (EJ key) l 0).1.toNat (AW).dflt):=by kernel_rfl
theorem AK8:PC 68 doS:=(Ap (Cb (l:=[(105,nv),(107,kc),(108,V1),(106,AON)]) (o:=[(109,aU),(110,AOO)]) ⟨ABz,AGG,AB2,AB8,A3⟩ ⟨AOP,ADX,A3⟩) Al func68 (by kernel_rfl) (by decide)).nice λ⟨⟨q,l,m,⟨a,b,c,d,e,()⟩,()⟩,⟨j,key,body,f,cond,g,i,low,()⟩,()⟩ h=>
 (edo q l m a b c d e j key body f cond g i low).trans (AGT (s:=(q,l,m,(a,b,c,d,e,()),())) (d:=(j,key,body,f,cond,g,i,low,())) h)
end Go.Proofs.YtkgejlchafionaaGreatDoor
namespace Nice
abbrev V5:=AP (AM [.slice AW,JI])
def oC:PSpec:=⟨[CY,Bu],[.slice AW,JI],λx=>sc x.1 x.2.1,λx=>((CW x.1 x.2.1).1,(CW x.1 x.2.1).2,())⟩
def lr(l:AE AX)(r:Rd):V5:=AC (l,r,())
abbrev ui(n:AB):AH:=AG ((2*n+400)*40<=281474976710656)
def hdG(l:AE AX)(i:AA):AE AH:=[ui (0+(Dt l AF (AC i)).length),AG (0<=i),AG (i<=(l.length:AA))]
def oD(l:AE AX)(i j:AA)(a:AE AH)(e:AX)(r:Rd):V5:=
 bif AG ((e.2.1.length:AA)>0)then gd (ui (([]++Dt l AF (AC i)++[(e.1,e.2.1,())]).length+(Dt l (AC j) AF).length)::(a++[ui (([]++Dt l AF (AC i)).length+[(e.1,e.2.1,())].length)])) (lr ([]++Dt l AF (AC i)++[(e.1,e.2.1,())]++Dt l (AC j) AF) r)
 else gd (ui (([]++Dt l AF (AC i)).length+(Dt l (AC j) AF).length)::a) (lr ([]++Dt l AF (AC i)++Dt l (AC j) AF) r)
abbrev gjT(l:AE AX)(i:AA):AE AH:=[AG (0<=i+1),AG (i+1<=(l.length:AA)),AG (A4 .i64 (i+1))]
abbrev gjF(l:AE AX)(i:AA):AE AH:=[AG (0<=i),AG (i<=(l.length:AA))]
def puR(l:AE AX)(i j:AA)(b:AE AH)(E:AX)(a:AA):V5:=bif (CM E a).2 then gd (hdG l i++[D6 E]) (oD l i j b (CM E a).1 (0,a,()))else gd [D6 E] (lr l (6,0,()))
def adT(l:AE AX)(i:AA)(E:AX)(v:BE):V5:=bif (CL E v).2 then gd (hdG l i++[D6 E]) (oD l i (i+1) (gjT l i) (CL E v).1 (0,v.1,()))else gd [D6 E] (lr l (5,0,()))
def adF(l:AE AX)(i:AA)(E:AX)(v:BE):V5:=bif (CL E v).2 then gd [D6 E] (bif AG ((l.length:AA)>=40)then lr l (5,0,())else gd (hdG l i) (oD l i i (gjF l i) (CL E v).1 (0,v.1,())))else gd [D6 E] (lr l (5,0,()))
def yR(a:AA)(c:V5)(b:AH->V5):V5:=bif a==3 then c else bif a==2 then b AD else b AK
def xR(a:AA)(hd c:AH)(b d Y:V5):V5:=bif a==1 then(bif hd then gd [c] (bif a !=1 then d else Y)else gd [c] b)else bif a !=1 then d else Y
def oE(s:Bc)(d:Ai)(p:AA×AH)(fp:AH)(E:AX):V5:=
 bif p.2 then gd (gX s.2.1 p.1++[fp]) (xR d.1 (P3 (E.1,E.2.1,()) d.2.2.2.2.1 d.2.2.2.2.2.1) (K5 (E.1,E.2.1,())) (lr s.2.1 (9,0,())) (yR d.1 (puR s.2.1 p.1 (p.1+1) (gjT s.2.1 p.1) (E.1,E.2.1,()) d.2.2.2.1) (λg=>adT s.2.1 p.1 (E.1,E.2.1,()) (s.1,g,d.2.2.1,()))) (yR d.1 (puR s.2.1 p.1 (p.1+1) (gjT s.2.1 p.1) (E.1,E.2.1,()) d.2.2.2.1) (λg=>adT s.2.1 p.1 (E.1,E.2.1,()) (s.1,g,d.2.2.1,()))))
 else gd [fp] (xR d.1 (P3 (d.2.1,[],()) d.2.2.2.2.1 d.2.2.2.2.2.1) (K5 (d.2.1,[],())) (lr s.2.1 (9,0,())) (lr s.2.1 (6,0,())) (yR d.1 (puR s.2.1 p.1 p.1 (gjF s.2.1 p.1) (d.2.1,[],()) d.2.2.2.1) (λg=>adF s.2.1 p.1 (d.2.1,[],()) (s.1,g,d.2.2.1,()))))
theorem AGY{a:AA}{b Y:V5}{c:AH->V5}(f:a=3->b=Y)(h:a≠3->c (a==2)=Y):yR a b c=Y:=by
 unfold yR;cases d:a==3
 ·have h:=h (CE.1 d);rw[xF];cases e:a==2
  ·rw[e]at h;exact h
  ·rw[e]at h;exact h
 ·exact f (Be.1 d)
theorem AGZ{b:AA}{hd d:AH}{a f Y Z:V5}(c:d=AD)(g:b=1->hd=AK->a=Z)(h:b=1->hd=AD->Y=Z)(i:b≠1->f=Z):xR b hd d a f Y=Z:=by
 unfold xR;rw[BG c,BG c,xG,xG];by_cases e:b=1
 ·subst e;show(bif hd then Y else a)=Z;cases hd
  ·exact g rfl rfl
  ·exact h rfl rfl
 ·rw[CE.2 e,Wu.2 e];exact i e
theorem dz{l:AE AX}{n m:AB}{a:AE AH}{e:AX}{r:Rd}{b:AH}(h:l.length<=40)(i:n<=l.length)(f:m=bif b then n+1 else n)(g:∀y:V5,gd a y=y)(c:∀(p:AH) (y:V5),p=AD->gd (a++[p]) y=y):oD l (n:AA) (m:AA) a e r=lr (KP l ((n:AA),b) e) r:=by
 have j:(l.take n).length<=40:=by rw[Bw];omega
 have k:(l.drop m).length<=40:=by rw[CC];omega
 unfold oD KP;rw[OS,SC];have hd:(bif ((n:AA),b).2 then((n:AA),b).1.toNat+1 else((n:AA),b).1.toNat)=m:=f.symm;rw[hd];by_cases d:e.2.1.length=0
 ·rw[Bm (by omega),An (by simp only[DN];omega),g,show(e.2.1.length==0)=AD from Be.2 d,xT,DN,DN];rfl
 ·rw[Bn (by omega),An (by simp only[DN,BA,B7,E8];omega),c _ _ (BK (by simp only[DN,B7,E8];omega)),show(e.2.1.length==0)=AK from CE.2 d,xF,DN,C9];rfl
theorem oF{l:AE AX}{n:AB}(b:l.length<=40)(c:n<=l.length)(a:AE AH)(y:V5):gd (hdG l (n:AA)++a) y=gd a y:=by
 have d:(l.take n).length<=40:=by rw[Bw];omega
 unfold hdG;rw[OS];simp only[List.cons_append,DN];rw[An (by omega),An (by omega),An (by omega)]
theorem uj{s:Bc}{d:Ai}(h:sc s d=AD):oE s d (FC (DM d.2.1) (EJ d.2.1) s.2.1 0) (AG (s.2.1.length<=1000000)) (s.2.1.getD (FC (DM d.2.1) (EJ d.2.1) s.2.1 0).1.toNat (AW).dflt)=AC ((CW s d).1,(CW s d).2,()):=by
 unfold sc at h;simp only[A0,ED,A6,Be]at h;obtain⟨o,K,I,L⟩:=h;have q:∃n:AB,(FC (DM d.2.1) (EJ d.2.1) s.2.1 0).1=(n:AA)/\n<=s.2.1.length/\((FC (DM d.2.1) (EJ d.2.1) s.2.1 0).2=AD->n<s.2.1.length):=MZ _ _ _;unfold oE CW F7
 generalize FC (DM d.2.1) (EJ d.2.1) s.2.1 0=p at q⊢;obtain⟨i,x⟩:=p;obtain⟨n,z,c,J⟩:=q;have z:i=(n:AA):=z;subst z;rw[BK (show s.2.1.length<=1000000 by omega)];cases x
 ·rw[xF,xF,BG rfl,xG];have f:K5 (d.2.1,[],())=true:=by unfold K5;rfl
  have A:∀v:BE,CL (d.2.1,[],()) v=((d.2.1,[v],()),AD):=λv=>rfl
  refine AGZ f (λe hd=> ?_) (λe hd=> ?_) (λe=> ?_)
  ·rw[show(d.1==1)=AD from Be.2 e,hd];rfl
  ·refine AGY (λw=>by omega) λ_=> ?_
   unfold adF;rw[show(d.1==1)=AD from Be.2 e,hd,show(d.1 !=1)=AK from Wa.2 e,show(d.1==3)=AK from CE.2 (by omega),A,xT,BG (show D6 (d.2.1,[],())=AD from AL),xG];by_cases r:40<=s.2.1.length
   ·rw[Bn (by omega),BK r];rfl
   ·have F:=oF (l:=s.2.1) (n:=n) o c [];rw[Ce]at F;rw[Bm (by omega),BP r,F,xG];exact(dz (b:=AK) (m:=n) o c rfl (λy=>by
      show gd [AG (0<=(n:AA)),AG ((n:AA)<=(s.2.1.length:AA))] y=y;rw[An (by omega),An (by omega),xG]) (λp y q=>by
      show gd [AG (0<=(n:AA)),AG ((n:AA)<=(s.2.1.length:AA)),p] y=y;rw[An (by omega),An (by omega),BG q,xG])).trans rfl
  ·rw[show(d.1==1)=AK from CE.2 e,show(d.1 !=1)=AD from Wu.2 e];rfl
 ·have j:n<s.2.1.length:=J rfl;obtain⟨E,B⟩:∃E,E=VG s.2.1 (n:AA):=⟨_,rfl⟩
  have C:s.2.1.getD ((n:AA)).toNat (AW).dflt=E:=by rw[B]
  have t:E∈s.2.1:=by
   rw[B];show s.2.1.getD n _∈s.2.1;rw[Bg,B4 j];exact EK j
  have D:=C8.1 I E t;have f:K5 E=true:=ga D;have a:D6 E=true:=by
   unfold K5 at f;rw[A0]at f;exact f.1
  rw[xT,xT,OU j,BG rfl,xG,C,<-B];obtain⟨k,vs,⟨⟩⟩:=E;have G:∀y:V5,gd (gjT s.2.1 (n:AA)) y=y:=λy=>by
   show gd [AG (0<=(n:AA)+1),AG ((n:AA)+1<=(s.2.1.length:AA)),AG (A4 .i64 ((n:AA)+1))] y=y;rw[An (by omega),An (by omega),An (AZ.2 ⟨by omega,by omega⟩),xG]
  have u:∀(p:AH) (y:V5),p=AD->gd (gjT s.2.1 (n:AA)++[p]) y=y:=λp y q=>by
   show gd [AG (0<=(n:AA)+1),AG ((n:AA)+1<=(s.2.1.length:AA)),AG (A4 .i64 ((n:AA)+1)),p] y=y;rw[An (by omega),An (by omega),An (AZ.2 ⟨by omega,by omega⟩),BG q,xG]
  have H:¬(d.1=1/\P3 (k,vs,()) d.2.2.2.2.1 d.2.2.2.2.2.1=AK)->yR d.1 (puR s.2.1 (n:AA) ((n:AA)+1) (gjT s.2.1 (n:AA)) (k,vs,()) d.2.2.2.1) (λg=>adT s.2.1 (n:AA) (k,vs,()) (s.1,g,d.2.2.1,()))=
    AC ((bif d.1==3 then(bif (CM (k,vs,()) d.2.2.2.1).2 then(KP s.2.1 ((n:AA),AD) (CM (k,vs,()) d.2.2.2.1).1,(0,d.2.2.2.1,()))else(s.2.1,(6,0,())))else bif (CL (k,vs,()) (s.1,d.1==2,d.2.2.1,())).2 then(KP s.2.1 ((n:AA),AD) (CL (k,vs,()) (s.1,d.1==2,d.2.2.1,())).1,(0,s.1,()))else(s.2.1,(5,0,())):AE AX×Rd).1,
     (bif d.1==3 then(bif (CM (k,vs,()) d.2.2.2.1).2 then(KP s.2.1 ((n:AA),AD) (CM (k,vs,()) d.2.2.2.1).1,(0,d.2.2.2.1,()))else(s.2.1,(6,0,())))else bif (CL (k,vs,()) (s.1,d.1==2,d.2.2.1,())).2 then(KP s.2.1 ((n:AA),AD) (CL (k,vs,()) (s.1,d.1==2,d.2.2.1,())).1,(0,s.1,()))else(s.2.1,(5,0,())):AE AX×Rd).2,()):=λ_=>by
   refine AGY (λw=> ?_) λw=> ?_
   ·rw[show(d.1==3)=AD from Be.2 w,xT];unfold puR;cases(CM (k,vs,()) d.2.2.2.1).2
    ·rw[xF,xF,BG a,xG];rfl
    ·rw[xT,xT,oF o c,BG a,xG,show(n:AA)+1=((n+1:AB):AA)from AL,dz (b:=AD) (m:=n+1) o c rfl G u];rfl
   ·rw[show(d.1==3)=AK from CE.2 w,xF];unfold adT;cases(CL (k,vs,()) (s.1,d.1==2,d.2.2.1,())).2
    ·rw[xF,xF,BG a,xG];rfl
    ·rw[xT,xT,oF o c,BG a,xG,show(n:AA)+1=((n+1:AB):AA)from AL,dz (b:=AD) (m:=n+1) o c rfl G u];rfl
  refine AGZ f (λe hd=> ?_) (λe hd=> ?_) (λe=> ?_)
  ·rw[show(d.1==1)=AD from Be.2 e,hd];rfl
  ·rw[H (λh=>by rw[hd]at h;cases h.2),show(d.1==1)=AD from Be.2 e,hd,show(d.1 !=1&& !true)=AK from Gl _,I3,Gt];rfl
  ·rw[H (λh=>e h.1),show(d.1==1)=AK from CE.2 e,show(d.1 !=1&& !true)=AK from Gl _,I3,Gt];rfl
end Nice
namespace Go.Proofs.YtkgejlchafionaaGreatDoor
open Tryz
open Nice
abbrev AK9:Eng.Env:=GF [(52,qn),(61,kc),(62,V2),(63,V1)] []
def AGa(x:AM [CY,Bu]):V5:=fO prog AK9 (AV []) f35 [CY,Bu] [.slice AW,JI] x
theorem AGb(q:AA)(l:AE AX)(m:AE Ar)(a b c d e i:AA)(key body:L8)(f cond:AA)(g:L8)(h low:AA):
 AGa ((q,l,m,(a,b,c,d,e,()),()),(i,key,body,f,cond,g,h,low,()),())=oE (q,l,m,(a,b,c,d,e,()),()) (i,key,body,f,cond,g,h,low,()) (O0 key l 0) (AG (l.length<=1000000)) (l.getD (O0 key l 0).1.toNat (AW).dflt):=by kernel_rfl
theorem AB9:PC 35 oC:=(Ap (Cb (l:=[(52,qn),(61,kc),(62,V2),(63,V1)]) (o:=[]) ⟨yQ,AB1,AB5,AB3,A3⟩ trivial) Al func35 (by kernel_rfl) (by decide)).nice λ⟨⟨q,l,m,⟨a,b,c,d,e,()⟩,()⟩,⟨j,key,body,f,cond,g,i,low,()⟩,()⟩ h=>by
 refine(AGb q l m a b c d e j key body f cond g i low).trans ?_;rw[pZ];exact uj (s:=(q,l,m,(a,b,c,d,e,()),())) (d:=(j,key,body,f,cond,g,i,low,())) h
end Go.Proofs.YtkgejlchafionaaGreatDoor
namespace Nice
def Z7(d:Ai):AH:=d.2.2.2.1==0&&(AG (d.2.2.1.length<=300)&&(AG (0<=d.2.2.2.2.1)&&(AG (d.2.2.2.2.1<=2)&&(bif d.2.2.2.2.1==2 then(F9 d.2.2.2.2.2.1).2 else d.2.2.2.2.2.1==[]))))
def NS(d:Ai):AH:=d.2.2.1==[]&&(d.2.2.2.2.1==0&&d.2.2.2.2.2.1==[])
def JH(d:Ai):AH:=bif d.1==1 then Z7 d else bif d.1==2 then NS d&&d.2.2.2.1==0 else bif d.1==3 then NS d&&(AG (1<=d.2.2.2.1)&&AG (d.2.2.2.1<=1099511627776))else AK
def D7(d:Ai):AH:=isKey d.2.1&&(!(A5 d.2.2.2.2.2.2.1==0)&&(!decide (d.2.2.2.2.2.2.2.1<0)&&(!decide (d.2.2.2.2.2.2.2.1>d.2.2.2.2.2.2.1)&&JH d)))
def Qz:PSpec:=⟨[Bu],[.bool],λx=>Aw x.1.2.1,λx=>(D7 x.1,())⟩
def gb(d:Ai)(Y:BO):BO:=bif isKey d.2.1 then(bif A5 d.2.2.2.2.2.2.1==0 then gd [Aw d.2.1] (bO AK)else bif AG (d.2.2.2.2.2.2.2.1<0)then gd [Aw d.2.1] (bO AK)else bif AG (d.2.2.2.2.2.2.2.1>d.2.2.2.2.2.2.1)then gd [Aw d.2.1] (bO AK)else gd [Aw d.2.1] Y)else gd [Aw d.2.1] (bO AK)
def oG(d:Ai)(k:AH->BO):BO:=bif d.2.2.1==[]then(bif d.2.2.2.2.1==0 then(bif d.2.2.2.2.2.1==[]then k AD else k AK)else k AK)else k AK
def oH(d:Ai)(a:AH):BO:=bif d.2.2.2.1==0 then bif AG ((d.2.2.1.length:AA)<=300)then bif AG (d.2.2.2.2.1>=0)then bif AG (d.2.2.2.2.1<=2)then(bif a then(bif d.2.2.2.2.1==2 then bO AD else bO AK)else bif d.2.2.2.2.1==2 then bO AK else bif d.2.2.2.2.2.1==[]then bO AD else bO AK)else bO AK else bO AK else bO AK else bO AK
def xY(d:Ai)(a:AH):BO:=bif a then(bif d.2.2.2.1==0 then bO AD else bO AK)else bO AK
def xZ(d:Ai)(a:AH):BO:=bif a then(bif AG (d.2.2.2.1>=1)then(bif AG (d.2.2.2.1<=1099511627776)then bO AD else bO AK)else bO AK)else bO AK
def dmK(d:Ai)(b a:AH):BO:=bif d.1==1 then oH d b else bif d.1==2 then xY d a else bif d.1==3 then xZ d a else bO AK
def dmE(d:Ai):BO:=gb d (bif (F9 d.2.2.2.2.2.1).2 then oG d (dmK d AD)else oG d (dmK d AK))
def oI(d:Ai)(a:AH):BO:=bif AG ((d.2.2.1.length:AA)<=300)then bif d.2.2.2.1==0 then bif AG (d.2.2.2.2.1>=0)then bif AG (d.2.2.2.2.1<=2)then(bif d.2.2.2.2.1==2 then(bif a then bO AD else bif d.2.2.2.2.1 !=2 then(bif d.2.2.2.2.2.1==[]then bO AD else bO AK)else bO AK)else bif d.2.2.2.2.1 !=2 then(bif d.2.2.2.2.2.1==[]then bO AD else bO AK)else bO AK)else bO AK else bO AK else bO AK else bO AK
def xa(d:Ai):BO:=bif d.2.2.1==[]then bif d.2.2.2.1==0 then bif d.2.2.2.2.1==0 then bif d.2.2.2.2.2.1==[]then bO AD else bO AK else bO AK else bO AK else bO AK
def xb(d:Ai):BO:=bif d.2.2.1==[]then bif AG (d.2.2.2.1>=1)then bif AG (d.2.2.2.1<=1099511627776)then bif d.2.2.2.2.1==0 then bif d.2.2.2.2.2.1==[]then bO AD else bO AK else bO AK else bO AK else bO AK else bO AK
def rdK(d:Ai)(a:AH):BO:=bif d.1==1 then oI d a else bif d.1==2 then xa d else bif d.1==3 then xb d else bO AK
def rdE(d:Ai):BO:=gb d (bif (Jl d.2.2.2.2.2.1).2 then rdK d AD else rdK d AK)
theorem ANr{d:Ai}{Y:BO}(h:Aw d.2.1=AD)(a:Y=bO (JH d)):gb d Y=bO (D7 d):=by
 subst a;unfold gb D7;simp only[BG h,xG];cases isKey d.2.1<;>cases A5 d.2.2.2.2.2.2.1==0<;>cases AG (d.2.2.2.2.2.2.2.1<0)<;>cases AG (d.2.2.2.2.2.2.2.1>d.2.2.2.2.2.2.1)<;>rfl
theorem ACA{d:Ai}{k:AH->BO}:oG d k=k (NS d):=by
 unfold oG NS;cases d.2.2.1==[]<;>cases d.2.2.2.2.1==0<;>cases d.2.2.2.2.2.1==[]<;>rfl
theorem ke:(F9 []).2=false:=by decide
theorem V6{d:Ai}{a:AH}(h:(F9 d.2.2.2.2.2.1).2=a):oH d a=bO (Z7 d)/\oI d a=bO (Z7 d):=by
 unfold oH oI Z7;rw[h,show AG ((d.2.2.1.length:AA)<=300)=AG (d.2.2.1.length<=300)from by congr 1;exact propext (by omega),show AG (d.2.2.2.2.1>=0)=AG (0<=d.2.2.2.2.1)from AL,show(d.2.2.2.2.1 !=2)= !(d.2.2.2.2.1==2)from AL];have c:a=AD->(d.2.2.2.2.2.1==[])=false:=λe=>by
  rw[CE];intro b;rw[b,ke]at h;rw[<-h]at e;cases e
 cases a
 ·cases d.2.2.2.1==0<;>cases AG (d.2.2.1.length<=300)<;>cases AG (0<=d.2.2.2.2.1)<;>cases AG (d.2.2.2.2.1<=2)<;>cases d.2.2.2.2.1==2<;>cases d.2.2.2.2.2.1==[]<;>exact⟨rfl,rfl⟩
 ·rw[c rfl];cases d.2.2.2.1==0<;>cases AG (d.2.2.1.length<=300)<;>cases AG (0<=d.2.2.2.2.1)<;>cases AG (d.2.2.2.2.1<=2)<;>cases d.2.2.2.2.1==2<;>exact⟨rfl,rfl⟩
theorem AGc{d:Ai}(h:Aw d.2.1=AD):dmE d=bO (D7 d):=by
 refine ANr h ?_;have c:∀b,(F9 d.2.2.2.2.2.1).2=b->oG d (dmK d b)=bO (JH d):=λb a=>by
  rw[ACA];unfold dmK JH;rw[(V6 a).1];unfold xY xZ;rw[show AG (d.2.2.2.1>=1)=AG (1<=d.2.2.2.1)from AL];cases d.1==1<;>cases d.1==2<;>cases d.1==3<;>cases NS d<;>cases d.2.2.2.1==0<;>cases AG (1<=d.2.2.2.1)<;>cases AG (d.2.2.2.1<=1099511627776)<;>rfl
 cases a:(F9 d.2.2.2.2.2.1).2
 ·rw[xF];exact c _ a
 ·rw[xT];exact c _ a
theorem AGd{d:Ai}(h:Aw d.2.1=AD):rdE d=bO (D7 d):=by
 refine ANr h ?_;have c:∀b,(F9 d.2.2.2.2.2.1).2=b->rdK d b=bO (JH d):=λb a=>by
  unfold rdK JH;rw[(V6 a).2];unfold xa xb NS;rw[show AG (d.2.2.2.1>=1)=AG (1<=d.2.2.2.1)from AL];cases d.1==1<;>cases d.1==2<;>cases d.1==3<;>cases d.2.2.1==[]<;>cases d.2.2.2.2.1==0<;>cases d.2.2.2.2.2.1==[]<;>cases d.2.2.2.1==0<;>cases AG (1<=d.2.2.2.1)<;>cases AG (d.2.2.2.1<=1099511627776)<;>rfl
 rw[<-Xo];cases a:(F9 d.2.2.2.2.2.1).2
 ·rw[xF];exact c _ a
 ·rw[xT];exact c _ a
end Nice
namespace Go.Proofs.YtkgejlchafionaaGreatDoor
open Tryz
open Nice
def AGe(x:AM [Bu]):BO:=fO prog (GF [(100,Bx),(66,Iv),(101,Nc)] []) (AV []) f65 [Bu] [.bool] x
theorem AGf(d:AA)(key body:L8)(a cond:AA)(b:L8)(c low:AA):AGe ((d,key,body,a,cond,b,c,low,()),())=dmE (d,key,body,a,cond,b,c,low,()):=by kernel_rfl
theorem ACB:PC 65 Qz:=(Ap (Cb (l:=[(100,Bx),(66,Iv),(101,Nc)]) (o:=[]) ⟨Sy,cF,gk,A3⟩ trivial) Al func65 (by kernel_rfl) (by decide)).nice λ⟨⟨e,key,body,a,cond,b,c,low,()⟩,()⟩ h=>(AGf e key body a cond b c low).trans (AGc (d:=(e,key,body,a,cond,b,c,low,())) h)
def ACC(x:AM [Bu]):BO:=fO prog (GF [(26,Bx),(25,Iv),(27,eS)] []) (AV []) f11 [Bu] [.bool] x
theorem ACD(d:AA)(key body:L8)(a cond:AA)(b:L8)(c low:AA):ACC ((d,key,body,a,cond,b,c,low,()),())=rdE (d,key,body,a,cond,b,c,low,()):=by kernel_rfl
theorem ANs:PC 11 Qz:=(Ap (Cb (l:=[(26,Bx),(25,Iv),(27,eS)]) (o:=[]) ⟨ck,YZ,ux,A3⟩ trivial) Al func11 (by kernel_rfl) (by decide)).nice λ⟨⟨e,key,body,a,cond,b,c,low,()⟩,()⟩ h=>(ACD e key body a cond b c low).trans (AGd (d:=(e,key,body,a,cond,b,c,low,())) h)
end Go.Proofs.YtkgejlchafionaaGreatDoor
namespace Nice
abbrev OW(d:Ai):AA:=d.2.2.2.2.2.2.1
abbrev PN(d:Ai):AA:=d.2.2.2.2.2.2.2.1
abbrev HY(d:Ai):AA:=A5 d.2.2.2.2.2.2.1-1
abbrev K7(s:Bc):Bc:=(s.1+1,s.2.1,s.2.2.1,s.2.2.2.1,())
abbrev OX(s:Bc)(d:Ai):AA×AH:=FC (Fu (OW d)) (H1 (OW d)) s.2.2.1 0
abbrev PP(s:Bc)(d:Ai):Ar:=(OW d,(CW (K7 s) d).2,())
def oJ(w:HH)(h x:AA):HH:=bif h==0 then(x,w.2.1,w.2.2.1,w.2.2.2.1,w.2.2.2.2.1,())else bif h==1 then(w.1,x,w.2.2.1,w.2.2.2.1,w.2.2.2.2.1,())else bif h==2 then(w.1,w.2.1,x,w.2.2.2.1,w.2.2.2.2.1,())else bif h==3 then(w.1,w.2.1,w.2.2.1,x,w.2.2.2.2.1,())else(w.1,w.2.1,w.2.2.1,w.2.2.2.1,x,())
abbrev Mf(m:AE Ar)(i:AA)(x:Ar):AE Ar:=m.take i.toNat++([x]++m.drop i.toNat)
def Ez(s:Bc)(d:Ai):Bc×Rd:=
 bif C6 s&&D7 d then
  bif AG (s.1>=1099511627776)then(s,(5,0,()))
  else bif AG (OW d<E2 s.2.2.2.1 (HY d+1))then(K7 s,(12,0,()))
  else bif (OX s d).2 then(K7 s,(Bv s.2.2.1 (OX s d).1.toNat).2.1)
  else bif AG (100<=s.2.2.1.length)then(K7 s,(5,0,()))
  else bif AG (PN d>E2 s.2.2.2.1 (HY d+1))&&A5 (PN d)==HY d+1 then((s.1+1,(CW (K7 s) d).1,(Mf s.2.2.1 (OX s d).1 (PP s d)).filter (λm=> !Md (PN d) (HY d) m),oJ s.2.2.2.1 (HY d) (PN d),()),(CW (K7 s) d).2)
  else((s.1+1,(CW (K7 s) d).1,Mf s.2.2.1 (OX s d).1 (PP s d),s.2.2.2.1,()),(CW (K7 s) d).2)
 else(s,(1,0,()))
def Mg(s:Bc)(d:Ai):AH:=IU s&&Aw d.2.1
def Z8:PSpec:=⟨[CY,Bu],[CY,JI],λx=>Mg x.1 x.2.1,λx=>((Ez x.1 x.2.1).1,(Ez x.1 x.2.1).2,())⟩
def fiv(h:AA)(w:HH)(f:AA->K6):K6:=bif h==0 then f w.1 else bif h==1 then f w.2.1 else bif h==2 then f w.2.2.1 else bif h==3 then f w.2.2.2.1 else gd [h==4] (f w.2.2.2.2.1)
def sel(h x:AA)(w:HH)(g:AE AH)(f:HH->K6):K6:=bif h==0 then gd g (f (x,w.2.1,w.2.2.1,w.2.2.2.1,w.2.2.2.2.1,()))else bif h==1 then gd g (f (w.1,x,w.2.2.1,w.2.2.2.1,w.2.2.2.2.1,()))else bif h==2 then gd g (f (w.1,w.2.1,x,w.2.2.2.1,w.2.2.2.2.1,()))else bif h==3 then gd g (f (w.1,w.2.1,w.2.2.1,x,w.2.2.2.2.1,()))else gd (g++[h==4]) (f (w.1,w.2.1,w.2.2.1,w.2.2.2.1,x,()))
theorem V7{h:AA}{w:HH}{f:AA->K6}(a:0<=h)(b:h<=4):fiv h w f=f (E2 w (h+1)):=by
 obtain rfl|rfl|rfl|rfl|rfl:h=0\/h=1\/h=2\/h=3\/h=4:=by omega
 all_goals first|rfl|exact(BG rfl).trans (xG _)
theorem xc{h x:AA}{w:HH}{g:AE AH}{f:HH->K6}(c:0<=h)(d:h<=4)(b:∀p,p∈g->p=AD):sel h x w g f=f (oJ w h x):=by
 obtain rfl|rfl|rfl|rfl|rfl:h=0\/h=1\/h=2\/h=3\/h=4:=by omega
 all_goals refine(gdL ?_).trans rfl
 all_goals first|exact b|(intro p a;rcases List.mem_append.1 a with a|a;exact b p a;rw[Cn.1 a];rfl)
abbrev Ii(s:Bc)(r:Rd):K6:=AC (s,r,())
def xd(m:AE Ar)(i:AA)(vs:AE Ar):AH:=AG (0<=i)&&(AG (i.toNat<=m.length)&&(AG (vs.length=1)&&AG (m.length<=1000000)))
def xe(m:AE Ar)(h:AA):AH:=AG (0<=h)&&(AG (h<=5)&&AG (m.length<=1000000))
def ACF(s:Bc)(d:Ai)(p:AA×AH)(a:AH)(M:Ar):K6:=
 bif C6 s then
  (bif D7 d then gd [Aw d.2.1,IU s] (bif AG (s.1>=1099511627776)then Ii s (5,0,())else
   gd [AG (A4 .i64 (HY d)),AG (A4 .i64 (s.1+1))] (bif p.2 then gd [a] (fiv (HY d) s.2.2.2.1 λx=>bif AG (OW d<x)then Ii (K7 s) (12,0,())else gd (gX s.2.2.1 p.1) (Ii (K7 s) M.2.1))
   else gd [a] (fiv (HY d) s.2.2.2.1 λx=>bif AG (OW d<x)then Ii (K7 s) (12,0,())else
    bif AG ((s.2.2.1.length:AA)>=100)then Ii (K7 s) (5,0,())else
    gd [xd s.2.2.1 p.1 [PP s d],AG (s.2.2.1.length<=1000000),sc (K7 s) d] (fiv (HY d) s.2.2.2.1 λx=>bif AG (PN d>x)then
     (bif A5 (PN d)==HY d+1 then gd [AG (A4 .i64 (HY d+1))] (sel (HY d) (PN d) s.2.2.2.1 [xe (Mf s.2.2.1 p.1 (PP s d)) (HY d)] λw=>Ii (s.1+1,(CW (K7 s) d).1,(Mf s.2.2.1 p.1 (PP s d)).filter (λm=> !Md (PN d) (HY d) m),w,()) (CW (K7 s) d).2)
     else gd [AG (A4 .i64 (HY d+1))] (Ii (s.1+1,(CW (K7 s) d).1,Mf s.2.2.1 p.1 (PP s d),s.2.2.2.1,()) (CW (K7 s) d).2))
     else Ii (s.1+1,(CW (K7 s) d).1,Mf s.2.2.1 p.1 (PP s d),s.2.2.2.1,()) (CW (K7 s) d).2))))
  else gd [Aw d.2.1,IU s] (Ii s (1,0,())))
 else gd [IU s] (Ii s (1,0,()))
theorem P4{s:Bc}(h:C6 s=AD):0<=s.1/\s.1<=1099511627776/\s.2.1.length<=40/\s.2.2.1.length<=100:=by
 unfold C6 at h;simp only[A0,A6]at h;exact⟨h.1,h.2.1,h.2.2.1,h.2.2.2.1⟩
theorem Tt{s:Bc}(h:C6 s=AD):∀i,i<s.2.2.1.length->Lp s.1 s.2.2.2.1 s.2.2.1 i=true:=by
 unfold C6 at h;simp only[A0,A6]at h;exact λi a=>H6.1 h.2.2.2.2.2.2 i (Cx _) (by omega)
theorem Ln{m:AE Ar}{i:AB}(h:i<m.length):Bv m i=m[i]:=by
 unfold Bv;rw[Bg,B4 h];rfl
theorem V8{s:Bc}(h:C6 s=AD):s.2.2.1.Pairwise λa b=>a.1<b.1:=by
 have f:=Tt h;have step:∀i (c:i+1<s.2.2.1.length),(s.2.2.1[i]).1<(s.2.2.1[i+1]).1:=λi c=>by
  have:=f (i+1) c;unfold Lp at this;simp only[A0,ED,A6]at this;have:=this.2.2.1;rw[show i+1-1=i from AL,Ln c,Ln (by omega)]at this;rcases this with h|h
  ·cases h
  ·exact h
 have all:∀d i (c:i+d+1<s.2.2.1.length),(s.2.2.1[i]).1<(s.2.2.1[i+d+1]).1:=by
  intro d
  induction d with
  |zero=>intro i c;exact step i c
  |succ d g=>intro i c;exact ze (g i (by omega)) (step (i+d+1) c)
 exact Ws.2 λi j c l k=>by
  have:=all (j-i-1) i (by omega);have e:i+(j-i-1)+1=j:=by omega
  simp only[e]at this;exact this
theorem Q0{α:Type}{R:α->α->Prop}{lt:α->AH}{l:AE α}(h:l.Pairwise R)(m:∀a b,R a b->lt b=AD->lt a=AD):Ej (l.map lt)=true:=
 aQ λa b x y g d e i=>by
  rw[List.getElem?_map]at d e;cases f:l[a]? with
  |none=>rw[f]at d;cases d
  |some u=>
   cases c:l[b]? with
   |none=>rw[c]at e;cases e
   |some v=>
    rw[f]at d;rw[c]at e;obtain rfl:lt u=x:=Dw d;obtain rfl:lt v=y:=Dw e;obtain⟨j,f⟩:=MJ.1 f;obtain⟨k,c⟩:=MJ.1 c;have:=Ws.1 h a b j k g;rw[f,c]at this;exact m _ _ this i
theorem kf{s:Bc}(h:C6 s=AD)(k:AA):Ej (s.2.2.1.map (Fu k))=true:=
 Q0 (V8 h) λ_ _ c d=>BK (ze c (BL d))
theorem ANf{s:Bc}(h:C6 s=AD)(k:L8):Ej (s.2.1.map (DM k))=true:=
 Q0 (UD h) λ_ _ c d=>KT c d
theorem uk{s:Bc}(h:C6 s=AD):s.2.1.all (Qy (s.1+1))=true:=by
 rw[C8];intro e f;obtain⟨i,c,rfl⟩:=List.getElem_of_mem f;have a:=(Lt h).2 i c;unfold K8 at a;simp only[A0,A6]at a;rw[Hb c]at a;have d:=Oi a.1;have b:DJ (B3 s.2.1[i])=true:=Gv _ _ (D4.1 a.1).1 _ (by
  unfold B3;rw[Bg,B4 (by omega)];exact EK _)
 unfold DJ at b;simp only[A0,A6]at b;unfold Qy Aw;simp only[A0,A6];have:=a.2.1;have:=b.2.2.1;exact⟨d.1,d.2,by omega,by omega⟩
theorem Jc{d:Ai}(h:D7 d=AD):isKey d.2.1=AD/\A5 (OW d)≠0/\0<=PN d/\PN d<=OW d/\(d.1==1||(d.1==2||d.1==3))=true:=by
 unfold D7 at h;simp only[A0,Bool.not_eq_true',decide_eq_false_iff_not,CE]at h;refine⟨h.1,h.2.1,zf.1 h.2.2.1,zf.1 h.2.2.2.1,?_⟩;have:=h.2.2.2.2;unfold JH at this
 revert this
 cases d.1==1<;>cases d.1==2<;>cases d.1==3<;>intro h<;>first|rfl|cases h
theorem oK{s:Bc}{d:Ai}(h:C6 s=AD)(hd:D7 d=AD):sc (K7 s) d=true:=by
 unfold sc;rw[show((K7 s).2.1.map (DM d.2.1))=s.2.1.map (DM d.2.1)from AL,ANf h,show(K7 s).2.1.all (Qy (K7 s).1)=s.2.1.all (Qy (s.1+1))from AL,uk h,(Jc hd).2.2.2.2,BK (show(K7 s).2.1.length<=40 from(P4 h).2.2.1)];rfl
theorem oL{d:Ai}(h:D7 d=AD):0<=HY d/\HY d<=4:=by
 have:=(Jc h).2.1;have:=HZ (OW d);show 0<=A5 (OW d)-1/\A5 (OW d)-1<=4;omega
theorem Jd{s:Bc}{d:Ai}(h:(C6 s&&D7 d)=AK):Ez s d=(s,(1,0,())):=by
 unfold Ez;rw[h];rfl
theorem oM{m:AE Ar}{i:AA}{x:Ar}(h:m.length<=100):(Mf m i x).length<=1000000:=by
 show(m.take i.toNat++([x]++m.drop i.toNat)).length<=_;simp only[BA,Bw,CC,B7,E8];omega
theorem ACG{s:Bc}{d:Ai}(h:Mg s d=AD):ACF s d (OX s d) (AG (s.2.2.1.length<=1000000)&&Ej (s.2.2.1.map (Fu (OW d)))) (s.2.2.1.getD (OX s d).1.toNat (BB).dflt)=AC ((Ez s d).1,(Ez s d).2,()):=by
 unfold Mg at h;rw[A0]at h;obtain⟨c,k⟩:=h;unfold ACF;cases e:C6 s
 ·rw[xF,BG c,xG,Jd (by rw[e];rfl)]
 cases hd:D7 d
 ·rw[xT,xF,BG k,BG c,xG,Jd (by rw[hd];exact Gl _)]
 obtain⟨q0,q1,l40,m100⟩:=P4 e;obtain⟨f,i⟩:=oL hd;rw[xT,xT,BG k,BG c,xG];unfold Ez;rw[e,hd,show(AD&&AD)=AD from AL,xT];cases o:AG (s.1>=1099511627776)
 ·obtain⟨n,l,b,m⟩:∃n:AB,(OX s d).1=(n:AA)/\n<=s.2.2.1.length/\((OX s d).2=AD->n<s.2.2.1.length):=MZ _ _ _;have g:(AG (s.2.2.1.length<=1000000)&&Ej (s.2.2.1.map (Fu (OW d))))=true:=by rw[BK (by omega),kf e];rfl
  rw[xF,xF,An (AZ.2 ⟨by omega,by omega⟩),An (AZ.2 ⟨by omega,by omega⟩),xG,V7 f i,V7 f i,V7 f i,BG g,xG,BG g,xG,l];cases AG (OW d<E2 s.2.2.2.1 (HY d+1))
  ·rw[xF,xF,xF];cases j:(OX s d).2
   ·rw[xF,xF];by_cases a:100<=s.2.2.1.length
    ·rw[Bn (by omega),Bn a]
    ·rw[Bm (by omega),Bm a,BG (by unfold xd;simp only[A0,A6];exact⟨by omega,b,rfl,by omega⟩),An (by omega),BG (oK e hd),xG];cases AG (PN d>E2 s.2.2.2.1 (HY d+1))
     ·rw[xF,Ic,xF]
     ·rw[xT,Cz,xc f i (λp c=>by
       rw[Cn.1 c];unfold xe;rw[BK f,BK (by omega),BK (oM m100)];rfl),An (AZ.2 ⟨by omega,by omega⟩),xG,An (AZ.2 ⟨by omega,by omega⟩),xG]
      cases A5 (PN d)==HY d+1<;>rfl
   ·have b:=m j;rw[xT,xT,HL b];rfl
  ·rw[xT,xT,xT];cases(OX s d).2<;>rfl
 ·rfl
end Nice
namespace Go.Proofs.YtkgejlchafionaaGreatDoor
open Tryz
open Nice
abbrev ALB:Eng.Env:=GF [(64,Q2),(65,Qz),(66,Iv),(67,nw),(68,doS)] [(70,AOS),(69,px),(71,po)]
def ALC(x:AM [CY,Bu]):K6:=fO prog ALB (AV []) f37 [CY,Bu] [CY,JI] x
theorem ALD(q:AA)(l:AE AX)(m:AE Ar)(a b c d e i:AA)(key body:L8)(g cond:AA)(h:L8)(f low:AA):
 ALC ((q,l,m,(a,b,c,d,e,()),()),(i,key,body,g,cond,h,f,low,()),())=ACF (q,l,m,(a,b,c,d,e,()),()) (i,key,body,g,cond,h,f,low,()) (FC (Fu f) (H1 f) m 0) (AG (m.length<=1000000)&&Ej (m.map (Fu f))) (m.getD (FC (Fu f) (H1 f) m 0).1.toNat (BB).dflt):=by kernel_rfl
theorem xf:PC 37 Z8:=(Ap (Cb (l:=[(64,Q2),(65,Qz),(66,Iv),(67,nw),(68,doS)]) (o:=[(70,AOS),(69,px),(71,po)]) ⟨lh,ACB,cF,AB0,AK8,A3⟩ ⟨ADa,ADb,ADZ,A3⟩) Al func37 (by kernel_rfl) (by decide)).nice λ⟨⟨q,l,m,⟨a,b,c,d,e,()⟩,()⟩,⟨j,key,body,f,cond,g,i,low,()⟩,()⟩ h=>
 (ALD q l m a b c d e j key body f cond g i low).trans (ACG (s:=(q,l,m,(a,b,c,d,e,()),())) (d:=(j,key,body,f,cond,g,i,low,())) h)
end Go.Proofs.YtkgejlchafionaaGreatDoor
namespace Nice
def V9(k low:AA)(x:Ar):AH:=A5 x.1 !=k||AG (x.1>=low)
def flS(m:AE Ar)(k low:AA)(Y:AE Ar->K6)(o:AE Ar)(i:AA)(nx:AE Ar->AA->K6):K6:=
 bif AG (i<(m.length:AA))then
  gd (gX m i) (bif A5 (m.getD i.toNat (BB).dflt).1 !=k then gd [AG (A4 .i64 (i+1)),AG ((2*(o.length+[m.getD i.toNat (BB).dflt].length)+400)*24<=281474976710656)] (nx (o++[m.getD i.toNat (BB).dflt]) (i+1))
   else bif AG ((m.getD i.toNat (BB).dflt).1>=low)then gd [AG (A4 .i64 (i+1)),AG ((2*(o.length+[m.getD i.toNat (BB).dflt].length)+400)*24<=281474976710656)] (nx (o++[m.getD i.toNat (BB).dflt]) (i+1))
   else gd [AG (A4 .i64 (i+1))] (nx o (i+1)))
 else Y o
theorem ALE{h:AB->AE Ar->AA->K6}{m:AE Ar}{k low:AA}{Y:AE Ar->K6}(d:∀n o i,h (n+1) o i=flS m k low Y o i (h n))(q:m.length<=1000000):
  ∀(r i n:AB) (o:AE Ar),m.length=i+r->r<n->o.length<=i->h n o (i:AA)=Y (o++(m.drop i).filter (V9 k low)):=by
 intro r
 induction r with
 |zero=>
  intro i n o f g j;obtain⟨n,rfl⟩:∃c,n=c+1:=⟨n-1,by omega⟩
  rw[d];unfold flS;rw[Bm (by omega),GY (by omega),List.filter_nil,Ce]
 |succ r e=>
  intro i n o f g j;obtain⟨n,rfl⟩:∃c,n=c+1:=⟨n-1,by omega⟩
  have a:i<m.length:=by omega
  have l:m.getD ((i:AA)).toNat (BB).dflt=m[i]:=by
   show m.getD i _=_;rw[Bg,B4 a];rfl
  have hd:m.drop i=m[i]::m.drop (i+1):=Ef a;rw[d];unfold flS;rw[Bn (by omega),HL a,l,hd,show(i:AA)+1=((i+1:AB):AA)from AL,List.filter_cons];have b:AG ((2*(o.length+[m[i]].length)+400)*24<=281474976710656)=true:=BK (by simp only[B7,E8];omega)
  have p:AG (A4 .i64 (((i+1:AB)):AA))=true:=BK (AZ.2 ⟨by omega,by omega⟩);simp only[BG p,BG b,xG];rw[e (i+1) n o (by omega) (by omega) (by omega),e (i+1) n (o++[m[i]]) (by omega) (by omega) (by simp;omega)];unfold V9;cases A5 m[i].1 !=k<;>cases AG (m[i].1>=low)<;>simp
theorem oN{low h:AA}{x:Ar}:V9 (h+1) low x= !Md low h x:=by
 unfold V9 Md;have:AG (x.1>=low)= !decide (x.1<low):=by
  by_cases a:x.1<low
  ·rw[BK a,BP (show ¬x.1>=low by omega)];rfl
  ·rw[BP a,BK (show x.1>=low by omega)];rfl
 rw[this,show(A5 x.1 !=h+1)= !(A5 x.1==h+1)from AL];cases AG (x.1<low)<;>cases A5 x.1==h+1<;>rfl
abbrev EI(m:AE Ar)(i:AA)(x:Ar):AE Ar:=[]++Dt m AF (AC i)++[x]++Dt m (AC i) AF
abbrev ACH(m:AE Ar)(i:AA)(x:Ar)(p:AH):AE AH:=[AG ((2*(([]++Dt m AF (AC i)++[x]).length+(Dt m (AC i) AF).length)+400)*24<=281474976710656),AG (0<=i),AG (i<=(m.length:AA)),AG ((2*(([]++Dt m AF (AC i)).length+[x].length)+400)*24<=281474976710656),AG ((2*(0+(Dt m AF (AC i)).length)+400)*24<=281474976710656),AG (0<=i),AG (i<=(m.length:AA)),p]
def ACI(s:Bc)(d:Ai)(p:AA×AH)(a:AH)(M:Ar)(b:HH->K6):K6:=
 bif C6 s then
  (bif D7 d then gd [Aw d.2.1,IU s] (bif p.2 then
   gd [a] (bif AG (s.1>=1099511627776)then Ii s (5,0,())else gd [AG (A4 .i64 (s.1+1))] (fiv (HY d) s.2.2.2.1 λx=>bif AG (OW d<x)then gd [AG (A4 .i64 (HY d))] (Ii (K7 s) (12,0,()))else gd (gX s.2.2.1 p.1++[AG (A4 .i64 (HY d))]) (Ii (K7 s) M.2.1)))
   else gd [a] (bif AG (s.1>=1099511627776)then Ii s (5,0,())else gd [AG (A4 .i64 (s.1+1))] (fiv (HY d) s.2.2.2.1 λx=>bif AG (OW d<x)then gd [AG (A4 .i64 (HY d))] (Ii (K7 s) (12,0,()))else
    gd [AG (A4 .i64 (HY d))] (bif AG ((s.2.2.1.length:AA)>=100)then Ii (K7 s) (5,0,())else
    gd (ACH s.2.2.1 p.1 (PP s d) (sc (K7 s) d)) (bif A5 (PN d)==A5 (OW d)then(fiv (HY d) s.2.2.2.1 λx=>bif AG (PN d>x)then
        gd [AG (A4 .i64 (HY d))] (sel (HY d) (PN d) s.2.2.2.1 [AG (A4 .i64 (HY d))] b)
        else gd [AG (A4 .i64 (HY d))] (Ii (s.1+1,(CW (K7 s) d).1,EI s.2.2.1 p.1 (PP s d),s.2.2.2.1,()) (CW (K7 s) d).2))
     else Ii (s.1+1,(CW (K7 s) d).1,EI s.2.2.1 p.1 (PP s d),s.2.2.2.1,()) (CW (K7 s) d).2)))))
  else gd [Aw d.2.1,IU s] (Ii s (1,0,())))
 else gd [IU s] (Ii s (1,0,()))
theorem gf{m:AE Ar}{n:AB}{x:Ar}:EI m (n:AA) x=Mf m (n:AA) x:=by
 show []++Dt m AF (AC (n:AA))++[x]++Dt m (AC (n:AA)) AF=m.take n++([x]++m.drop n);rw[OS,SC,DN,C9]
theorem ACJ{m:AE Ar}{n:AB}{x:Ar}{p:AH}(f:m.length<=100)(g:n<=m.length)(c:p=AD)(y:K6):gd (ACH m (n:AA) x p) y=y:=by
 have h:(m.take n).length<=100:=by rw[Bw];omega
 have i:(m.drop n).length<=100:=by rw[CC];omega
 have d:Dt m AF (AC (n:AA))=m.take n:=OS _ _;have e:Dt m (AC (n:AA)) AF=m.drop n:=SC _ _;refine gdL λb a=> ?_
 unfold ACH at a;rw[d,e]at a;simp only[Dv,RS,or_false,DN,BA,B7,E8]at a;rcases a with rfl|rfl|rfl|rfl|rfl|rfl|rfl|rfl
 ·exact BK (by omega)
 ·exact BK (by omega)
 ·exact BK (by omega)
 ·exact BK (by omega)
 ·exact BK (by omega)
 ·exact BK (by omega)
 ·exact BK (by omega)
 ·exact c
theorem ACK{s:Bc}{d:Ai}{r:HH->K6}(h:Mg s d=AD)(a:(OX s d).2=AK->C6 s=AD->∀w,r w=Ii (s.1+1,(CW (K7 s) d).1,(EI s.2.2.1 (OX s d).1 (PP s d)).filter (V9 (A5 (OW d)) (PN d)),w,()) (CW (K7 s) d).2):
  ACI s d (OX s d) (AG (s.2.2.1.length<=1000000)) (s.2.2.1.getD (OX s d).1.toNat (BB).dflt) r=AC ((Ez s d).1,(Ez s d).2,()):=by
 unfold Mg at h;rw[A0]at h;obtain⟨f,t⟩:=h;unfold ACI;cases g:C6 s
 ·rw[xF,BG f,xG,Jd (by rw[g];rfl)]
 cases hd:D7 d
 ·rw[xT,xF,BG t,BG f,xG,Jd (by rw[hd];exact Gl _)]
 obtain⟨q0,q1,l40,m100⟩:=P4 g;obtain⟨k,l⟩:=oL hd;have o:AG (A4 .i64 (HY d))=true:=BK (AZ.2 ⟨by omega,by omega⟩);have i:AG (A4 .i64 (s.1+1))=true:=BK (AZ.2 ⟨by omega,by omega⟩);rw[xT,xT,BG t,BG f,xG];unfold Ez;rw[g,hd,show(AD&&AD)=AD from AL,xT]
 cases A:AG (s.1>=1099511627776)
 ·obtain⟨n,u,e,v⟩:∃n:AB,(OX s d).1=(n:AA)/\n<=s.2.2.1.length/\((OX s d).2=AD->n<s.2.2.1.length):=MZ _ _ _;have b:AG (s.2.2.1.length<=1000000)=true:=BK (by omega);rw[xF,xF,xF,BG i,BG i,xG,xG,V7 k l,V7 k l,V7 k l,BG b,xG,BG b,xG,u];simp only[BG o,xG]
  have q:∀y:K6,n<s.2.2.1.length->gd (gX s.2.2.1 (n:AA)++[AG (A4 .i64 (HY d))]) y=y:=λy z=>by rw[OU z,BG o,xG]
  cases AG (OW d<E2 s.2.2.2.1 (HY d+1))
  ·rw[xF,xF,xF];cases j:(OX s d).2
   ·rw[xF,xF];have a:=a j g;rw[u]at a;by_cases c:100<=s.2.2.1.length
    ·rw[Bn (by omega),Bn c]
    ·rw[Bm (by omega),Bm c,ACJ m100 e (oK g hd),xc k l (λp f=>by rw[Cn.1 f,o]),a,gf,show A5 (OW d)=HY d+1 from(Int.sub_add_cancel _ _).symm,show V9 (HY d+1) (PN d)=(λm=> !Md (PN d) (HY d) m)from funext λx=>oN];cases A5 (PN d)==HY d+1<;>cases AG (PN d>E2 s.2.2.2.1 (HY d+1))<;>rfl
   ·have e:=v j;rw[xT,xT,q _ e];rfl
  ·rw[xT,xT,xT];cases(OX s d).2<;>rfl
 ·have b:AG (s.2.2.1.length<=1000000)=true:=BK (by omega);simp only[BG b,xG];cases(OX s d).2<;>rfl
end Nice
namespace Go.Proofs.YtkgejlchafionaaGreatDoor
open Tryz
open Nice
abbrev AOW:Eng.Env:=GF [(10,Q2),(11,Qz),(25,Iv),(34,dx),(35,oC)] []
abbrev Z9:AE (AB×AE (AB×Sh)):=[(21,[(2,(.obj [.sym,(.dat AW),(.vec BB 75),.sym,.sym,.sym,.sym,.sym])),(3,(.obj [.sym,.sym,.sym,.sym,.sym,.sym,.sym,.sym])),(4,(.obj [.sym,.any,.any,.sym,.sym,.sym,.sym,.sym])),(5,(.obj [.sym,.sym])),(8,(.one .sym)),(10,(.obj [.sym,.sym])),(11,(.one (.vec BB 75))),(12,(.one .sym))])]
def um(n:AB)(q:AA)(l:AE AX)(m:AE Ar)(a b c d e j:AA)(key body:L8)(f cond:AA)(g:L8)(h low k p r:AA)(o:AE Ar)(i:AA):K6:=rH prog AOW (AV Z9) f15 [CY,JI] n 0 [(2,.pointer (AC ⟨12,0,AF⟩)),(3,.pointer (AC ⟨13,0,AF⟩)),(4,.pointer (AC ⟨14,0,AF⟩)),(5,.pointer (AC ⟨15,0,AF⟩)),(8,sy (.int .i64 k)),(10,.pointer (AC ⟨16,0,AF⟩)),(11,dt 17),(12,sy (.int .i64 i))]
 [.dat AW l,.vec BB m 75,.row [sy (.int .i64 q),dt 10,dt 11,sy (.int .i64 a),sy (.int .i64 b),sy (.int .i64 c),sy (.int .i64 d),sy (.int .i64 e)] 28 AK,.row [sy (.int .i64 j),sy (.string (bs key)),sy (.string (bs body)),sy (.int .i64 f),sy (.int .i64 cond),sy (.string (bs g)),sy (.int .i64 h),sy (.int .i64 low)] 30 AK,.row [sy (.int .i64 0),RG AF 0 0,RG AF 0 0,sy (.int .i64 0),sy (.int .i64 0),sy (.int .i64 0),sy (.int .i64 0),sy (.int .i64 0)] 28 AK,.row [sy (.int .i64 0),sy (.int .i64 0)] 47 AK,.row [sy (.int .i64 p),sy (.int .i64 r)] 47 AK,.vec BB o 75]
theorem ACL(n:AB)(q:AA)(l:AE AX)(m:AE Ar)(a b c d e r:AA)(key body:L8)(f cond:AA)(g:L8)(h low k j p:AA)(o:AE Ar)(i:AA):
 um (n+1) q l m a b c d e r key body f cond g h low k j p o i=flS m k low (λo=>Ii (q,l,o,(a,b,c,d,e,()),()) (j,p,())) o i (um n q l m a b c d e r key body f cond g h low k j p):=by kernel_rfl
def AGg(x:AM [CY,Bu]):K6:=fO prog AOW (AV Z9) f15 [CY,Bu] [CY,JI] x
theorem AOf(x:AM [CY,Bu]):AGg x=Cy prog AOW (AV Z9) f15 [CY,Bu] [CY,JI] AU x:=AL
theorem ACN(N:AB)(q:AA)(l:AE AX)(m:AE Ar)(a b c d e i:AA)(key body:L8)(g cond:AA)(h:L8)(f low:AA):
 Cy prog AOW (AV Z9) f15 [CY,Bu] [CY,JI] N ((q,l,m,(a,b,c,d,e,()),()),(i,key,body,g,cond,h,f,low,()),())=ACI (q,l,m,(a,b,c,d,e,()),()) (i,key,body,g,cond,h,f,low,()) (FC (Fu f) (H1 f) m 0) (AG (m.length<=1000000)) (m.getD (FC (Fu f) (H1 f) m 0).1.toNat (BB).dflt)
  (λw=>um N (q+1) (CW (q+1,l,m,(a,b,c,d,e,()),()) (i,key,body,g,cond,h,f,low,())).1 (EI m (FC (Fu f) (H1 f) m 0).1 (PP (q,l,m,(a,b,c,d,e,()),()) (i,key,body,g,cond,h,f,low,()))) w.1 w.2.1 w.2.2.1 w.2.2.2.1 w.2.2.2.2.1 i key body g cond h f low (A5 f) (CW (q+1,l,m,(a,b,c,d,e,()),()) (i,key,body,g,cond,h,f,low,())).2.1 (CW (q+1,l,m,(a,b,c,d,e,()),()) (i,key,body,g,cond,h,f,low,())).2.2.1 [] 0):=by kernel_rfl
theorem AGh:PC 15 Z8:=(Ap (sh:=AV Z9) (Cb (l:=[(10,Q2),(11,Qz),(25,Iv),(34,dx),(35,oC)]) (o:=[]) ⟨wB,ANs,YZ,AGS,AB9,A3⟩ trivial) Al func15 (by kernel_rfl) (by decide)).nice λ⟨⟨q,l,m,⟨a,b,c,d,e,()⟩,()⟩,⟨k,key,body,g,cond,j,f,low,()⟩,()⟩ h=>by
 show AGg _=_;rw[AOf,ACN];refine ACK (s:=(q,l,m,(a,b,c,d,e,()),())) (d:=(k,key,body,g,cond,j,f,low,())) h λu p w=> ?_
 have v:(EI m (FC (Fu f) (H1 f) m 0).1 (PP (q,l,m,(a,b,c,d,e,()),()) (k,key,body,g,cond,j,f,low,()))).length<=102:=by
  obtain⟨n,r,t, -⟩:=MZ (Fu f) (H1 f) m;have m100:m.length<=100:=(P4 p).2.2.2;rw[r,gf];show(m.take n++([_]++m.drop n)).length<=_;simp only[BA,Bw,CC,B7,E8];omega
 refine(ALE (h:=λn o i=>um n (q+1) _ _ w.1 w.2.1 w.2.2.1 w.2.2.2.1 w.2.2.2.2.1 k key body g cond j f low (A5 f) _ _ o i) (λn o i=>ACL n (q+1) _ _ w.1 w.2.1 w.2.2.1 w.2.2.2.1 w.2.2.2.2.1 k key body g cond j f low (A5 f) _ _ o i) (by omega) _ 0 AU [] (by rw[CJ]) (by unfold AU;omega) (Ak _)).trans rfl
end Go.Proofs.YtkgejlchafionaaGreatDoor
namespace Nice
abbrev GS:Ty:=.pair BF (.pair IT (.pair IT (.pair Mj .unit)))
abbrev Bl:=BH×AA×AA×Hg×Unit
abbrev Hm:Ty:=.slice Gp
def OY(a:BH):AA:=bif a.1==2 then 1 else bif a.2.2.1 !=0 then 3 else 2
def E0(a:BH):AH:=a.1==2||a.1==3
def IQ(a:BH):Ai:=bif a.1==3 then(bif AG (a.2.2.1>0)then(3,a.2.1,[],a.2.2.1,0,[],0,0,())else(2,a.2.1,[],0,0,[],0,0,()))else(1,a.2.1,a.2.2.2.1,0,a.2.2.2.2.1,a.2.2.2.2.2.1,0,0,())
def rlD(w d:Ai):Ai:=(w.1,w.2.1,w.2.2.1,w.2.2.2.1,w.2.2.2.2.1,w.2.2.2.2.2.1,d.2.2.2.2.2.2.1,d.2.2.2.2.2.2.2.1,())
def Q1(a:BH)(d:Ai):AH:=d.1==OY a&&(d.2.1==a.2.1&&(d.2.2.1==a.2.2.2.1&&(d.2.2.2.2.1==a.2.2.2.2.1&&(d.2.2.2.2.2.1==a.2.2.2.2.2.1&&d.2.2.2.1==a.2.2.1))))
def uo(w d:Ai):AH:=w.1==d.1&&(w.2.1==d.2.1&&(w.2.2.1==d.2.2.1&&(w.2.2.2.1==d.2.2.2.1&&(w.2.2.2.2.1==d.2.2.2.2.1&&(w.2.2.2.2.2.1==d.2.2.2.2.2.1&&(w.2.2.2.2.2.2.1==d.2.2.2.2.2.2.1&&(w.2.2.2.2.2.2.2.1==d.2.2.2.2.2.2.2.1&&AD)))))))
abbrev Tu(a:BH):AH:=a.2.2.2.2.2.2.2.2.2.1
def OZ(a:BH)(x:Hg):Hg:=bif Tu a then(x.1,x.2.1,[],())else x
def oO:PSpec:=⟨[BF],[IT],λ_=>AD,λx=>(OY x.1,())⟩
def oP:PSpec:=⟨[BF],[.bool],λ_=>AD,λx=>(E0 x.1,())⟩
def oQ:PSpec:=⟨[BF],[Bu],λ_=>AD,λx=>(IQ x.1,())⟩
def oR:PSpec:=⟨[BF,Bu],[.bool],λ_=>AD,λx=>(Q1 x.1 x.2.1,())⟩
def ACO:PSpec:=⟨[Hm,Hm],[.bool],λx=>AG (x.1.length<=140737488355328),λx=>(Mh x.1 x.2.1,())⟩
abbrev wrA(t:L8)(a:BH)(r:Rd):Hg:=lZ t a.1 a.2.2.2.1 r.1
def HG(t:Bl)(s:Bc)(d:Ai):AH:=bif E0 t.1 then Q1 t.1 d&&Jf t.2.2.2.1 (wrA (GE (Ez s d).2.2.1) t.1 (Ez s d).2)else Jf t.2.2.2.1 (OZ t.1 (aY t.1 s))
def Oa(t:Bl)(s:Bc)(d:Ai):AH:=eM t.2.2.2.1&&(bif E0 t.1 then Mg s d&&(C4 (Ez s d).2.2.1&&Aw t.1.2.2.2.1)else eP t.1 s)
def ACP:PSpec:=⟨[GS,CY,Bu],[.bool],λx=>Oa x.1 x.2.1 x.2.2.1,λx=>(HG x.1 x.2.1 x.2.2.1,())⟩
def oS(a:BH)(x:Hg)(s:Bc)(d:Ai):AH:=bif E0 a then uo (rlD (IQ a) d) d&&Jf (wrA (D9 (Ez s d).2.2.1) a (Ez s d).2) x else Jf (OZ a (Q3 a s)) x
def oT(a:BH)(s:Bc)(d:Ai):AH:=bif E0 a then Mg s d&&(C4 (Ez s d).2.2.1&&Aw a.2.2.2.1)else UF a s
def bo2(g:AE AH)(b:AH):BO:=bif b then gd g (bO AD)else gd g (bO AK)
theorem gh{g:AE AH}{b:AH}(h:∀p,p∈g->p=AD):bo2 g b=bO b:=by
 unfold bo2;cases b<;>exact gdL h
def ACQ(t:Bl)(s:Bc)(d:Ai):BO:=
 bif t.1.1==2||t.1.1==3 then gd [Mg s d] (bif Q1 t.1 d then bo2 [eM t.2.2.2.1,C4 (Ez s d).2.2.1&&Aw t.1.2.2.2.1] (Jf t.2.2.2.1 (wrA (GE (Ez s d).2.2.1) t.1 (Ez s d).2))else bO AK)
 else gd [eP t.1 s] (bif Tu t.1 then bo2 [eM t.2.2.2.1] (Jf t.2.2.2.1 ((aY t.1 s).1,(aY t.1 s).2.1,[],()))else bo2 [eM t.2.2.2.1] (Jf t.2.2.2.1 (aY t.1 s)))
theorem ACR{t:Bl}{s:Bc}{d:Ai}(h:Oa t s d=AD):ACQ t s d=bO (HG t s d):=by
 unfold Oa at h;rw[A0]at h;obtain⟨b,h⟩:=h;unfold ACQ HG;have e:(t.1.1==2||t.1.1==3)=E0 t.1:=AL;rw[e];cases c:E0 t.1
 ·rw[c,xF]at h;rw[xF,xF,BG h,xG];unfold OZ;rw[gh (by intro p a;rw[Cn.1 a];exact b),gh (by intro p a;rw[Cn.1 a];exact b)];cases Tu t.1<;>rfl
 ·rw[c,xT,A0]at h;rw[xT,xT,BG h.1,xG];cases Q1 t.1 d
  ·rfl
  ·rw[xT,Cz];exact gh (by intro p a;simp only[Dv,RS,or_false]at a;rcases a with rfl|rfl;exact b;exact h.2)
theorem oU{a:Hg}(h:a.2.1.length<=2):eM a=true:=BK (by omega)
theorem ACS(t:L8)(a:AA)(b:L8)(er:AA):(lZ t a b er).2.1.length<=2:=by
 unfold lZ pz;cases a !=2<;>cases a !=3<;>cases er==0<;>cases er==9<;>cases er==6<;>cases er==5<;>cases a==2<;>first|exact Cx _|exact Ak _|exact zg _
theorem uq(t:L8)(v:BE)(er:AA)(sh:U0)(a:AA):(kx t v er sh a).2.1.length<=2:=by
 unfold kx;cases a==1<;>cases a==4<;>cases a==5<;>cases er !=0<;>first|exact Cx _|exact Ak _|exact zg _
end Nice
namespace Go.Proofs.YtkgejlchafionaaGreatDoor
open Tryz
open Nice
def AGi(x:AM [BF]):vI:=fO prog (GF [] []) (AV []) f73 [BF] [IT] x
theorem AGj(a:AA)(key:L8)(v:AA)(b:L8)(c:AA)(t p f:L8)(d:AA)(e:AH):AGi ((a,key,v,b,c,t,p,f,d,e,()),())=bif a==2 then AC (1,())else bif v !=0 then AC (3,())else AC (2,()):=by kernel_rfl
theorem ACT:PC 73 oO:=(Ap (Cb (l:=[]) (o:=[]) trivial trivial) Al func73 (by kernel_rfl) (by decide)).nice λ⟨⟨a,key,v,b,c,t,p,f,d,e,()⟩,()⟩ _=>by
 refine(AGj a key v b c t p f d e).trans ?_;show _=AC (OY (a,key,v,b,c,t,p,f,d,e,()),());unfold OY;cases a==2<;>cases v !=0<;>rfl
def ALF(x:AM [BF]):BO:=fO prog (GF [] []) (AV []) f36 [BF] [.bool] x
theorem ALG(a:AA)(key:L8)(v:AA)(b:L8)(c:AA)(t p f:L8)(d:AA)(e:AH):ALF ((a,key,v,b,c,t,p,f,d,e,()),())=bif a==2 then bO AD else bif a==3 then bO AD else bO false:=by kernel_rfl
theorem xg:PC 36 oP:=(Ap (Cb (l:=[]) (o:=[]) trivial trivial) Al func36 (by kernel_rfl) (by decide)).nice λ⟨⟨a,key,v,b,c,t,p,f,d,e,()⟩,()⟩ _=>by
 refine(ALG a key v b c t p f d e).trans ?_;show _=bO (a==2||a==3);cases a==2<;>cases a==3<;>rfl
def AGk(x:AM [BF]):AP (AM [Bu]):=fO prog (GF [] []) (AV []) f13 [BF] [Bu] x
theorem AGl(a:AA)(key:L8)(v:AA)(b:L8)(c:AA)(t p f:L8)(d:AA)(e:AH):AGk ((a,key,v,b,c,t,p,f,d,e,()),())=bif a==3 then(bif AG (v>0)then AC ((3,key,[],v,0,[],0,0,()),())else AC ((2,key,[],0,0,[],0,0,()),()))else AC ((1,key,b,0,c,t,0,0,()),()):=by kernel_rfl
theorem ACU:PC 13 oQ:=(Ap (Cb (l:=[]) (o:=[]) trivial trivial) Al func13 (by kernel_rfl) (by decide)).nice λ⟨⟨a,key,v,b,c,t,p,f,d,e,()⟩,()⟩ _=>by
 refine(AGl a key v b c t p f d e).trans ?_;show _=AC (IQ (a,key,v,b,c,t,p,f,d,e,()),());unfold IQ;cases a==3<;>cases AG (v>0)<;>rfl
abbrev aA:AE (AB×AE (AB×Sh)):=[(4,[(0,(.one (.dat (.pair .str (.pair .str .unit))))),(1,(.one (.dat (.pair .str (.pair .str .unit))))),(4,(.one .sym)),(12,(.one .sym)),(13,(.one .sym))])]
def ur(n:AB)(a b:AE EC)(i:AA):BO:=rH prog (GF [] []) (AV aA) f74 [.bool] n 0 [(0,dt 10),(1,dt 11),(4,.bool AK),(12,sy (.int .i64 (a.length:AA))),(13,sy (.int .i64 i))] [.dat (.pair .str (.pair .str .unit)) a,.dat (.pair .str (.pair .str .unit)) b]
def AGm(x:AM [Hm,Hm]):BO:=fO prog (GF [] []) (AV aA) f74 [Hm,Hm] [.bool] x
theorem ACV(N:AB)(a b:AE EC):Cy prog (GF [] []) (AV aA) f74 [Hm,Hm] [.bool] N (a,b,())=bif (a.length:AA) !=(b.length:AA)then bO AK else ur N a b 0:=by kernel_rfl
theorem ACW(x:AM [Hm,Hm]):AGm x=Cy prog (GF [] []) (AV aA) f74 [Hm,Hm] [.bool] AU x:=AL
theorem oV(k:AB)(a b:AE EC)(i:AA):ur (k+1) a b i=pS a b i (ur k a b (i+1)):=by kernel_rfl
theorem AGn(a b:AE EC)(l:a.length<=140737488355328)(n:a.length=b.length):∀(r i k:AB),a.length=i+r->r<k->ur k a b (i:AA)=AC (Mh (a.drop i) (b.drop i),()):=by
 intro r
 induction r with
 |zero=>
  intro i k e f;obtain⟨k,rfl⟩:∃m,k=m+1:=⟨k-1,by omega⟩
  rw[oV];unfold pS;rw[Bm (by omega),GY (by omega),GY (by omega)];rfl
 |succ r g=>
  intro i k e f;obtain⟨k,rfl⟩:∃m,k=m+1:=⟨k-1,by omega⟩
  have c:i<a.length:=by omega
  have d:i<b.length:=by omega
  have h:a.drop i=a.getD i (Gp).dflt::a.drop (i+1):=by
   rw[Ef c,Bg,B4 c];rfl
  have j:b.drop i=b.getD i (Gp).dflt::b.drop (i+1):=by
   rw[Ef d,Bg,B4 d];rfl
  have:=g (i+1) k (by omega) (by omega);simp only[Int.natCast_add,Int.natCast_one]at this;rw[oV];unfold pS;rw[Bn (by omega),show(i:AA).toNat=i from AL,h,j];show _=AC (P9 _ _&&Mh _ _,());cases P9 (a.getD i (Gp).dflt) (b.getD i (Gp).dflt)
  ·rw[FU,xT,An d,An (by omega),An (by omega),An c,An (by omega),An (by omega),xG];rfl
  ·rw[GG,xF,An (AZ.2 ⟨by omega,by omega⟩),An d,An (by omega),An (by omega),An c,An (by omega),An (by omega),xG,this,Cz]
theorem AGo:PC 74 ACO:=(Ap (sh:=AV aA) (Cb (l:=[]) (o:=[]) trivial trivial) Al func74 (by kernel_rfl) (by decide)).nice λ⟨a,b,()⟩ h=>by
 have h:a.length<=140737488355328:=BL h;show AGm _=AC (Mh a b,());rw[ACW,ACV];unfold bne;by_cases c:a.length=b.length
 ·rw[show((a.length:AA)==(b.length:AA))=AD from Be.2 (by omega),GG,xF];exact AGn a b h c a.length 0 AU (by omega) (by unfold AU;omega)
 ·rw[show((a.length:AA)==(b.length:AA))=AK from CE.2 (by omega),FU,xT,aN a b c];rfl
def AGp(x:AM [Mj,Mj]):BO:=fO prog (GF [(74,ACO)] []) (AV []) f39 [Mj,Mj] [.bool] x
theorem AGq(n:AA)(a:AE EC)(b:L8)(m:AA)(d:AE EC)(c:L8):AGp ((n,a,b,()),(m,d,c,()),())=bif n==m then(bif b==c then bo2 [AG (a.length<=140737488355328)] (Mh a d)else bO AK)else bO false:=by kernel_rfl
theorem ACX:PC 39 ADH:=(Ap (Cb (l:=[(74,ACO)]) (o:=[]) ⟨AGo,A3⟩ trivial) Al func39 (by kernel_rfl) (by decide)).nice λ⟨⟨n,a,b,()⟩,⟨m,d,c,()⟩,()⟩ h=>by
 refine(AGq n a b m d c).trans ?_;rw[gh (by intro p e;rw[Cn.1 e];exact h)];show _=bO (n==m&&(b==c&&Mh a d));cases n==m<;>cases b==c<;>rfl
def AGr(x:AM [BF,Bu]):BO:=fO prog (GF [(73,oO)] []) (AV []) f38 [BF,Bu] [.bool] x
theorem AGs(h:AA)(key:L8)(v:AA)(d:L8)(e:AA)(t p f:L8)(i:AA)(j:AH)(dk:AA)(a body:L8)(b cond:AA)(c:L8)(g low:AA):AGr ((h,key,v,d,e,t,p,f,i,j,()),(dk,a,body,b,cond,c,g,low,()),())=
 bif dk==OY (h,key,v,d,e,t,p,f,i,j,())then(bif a==key then(bif body==d then(bif cond==e then(bif c==t then(bif b==v then bO AD else bO AK)else bO AK)else bO AK)else bO AK)else bO AK)else bO false:=by kernel_rfl
theorem ACY:PC 38 oR:=(Ap (Cb (l:=[(73,oO)]) (o:=[]) ⟨ACT,A3⟩ trivial) Al func38 (by kernel_rfl) (by decide)).nice λ⟨⟨g,key,v,d,e,t,p,f,h,i,()⟩,⟨dk,a,body,b,cond,c,j,low,()⟩,()⟩ _=>by
 refine(AGs g key v d e t p f h i dk a body b cond c j low).trans ?_;show _=bO (dk==OY (g,key,v,d,e,t,p,f,h,i,())&&(a==key&&(body==d&&(cond==e&&(c==t&&b==v)))));cases dk==OY (g,key,v,d,e,t,p,f,h,i,())<;>cases a==key<;>cases body==d<;>cases cond==e<;>cases c==t<;>cases b==v<;>rfl
abbrev ALH:Eng.Env:=GF [(36,oP),(37,Z8),(38,oR),(39,ADH),(40,wrS),(41,ADf)] []
def ALI(x:AM [GS,CY,Bu]):BO:=fO prog ALH (AV []) f17 [GS,CY,Bu] [.bool] x
theorem ALJ(k:AA)(key:L8)(v:AA)(o:L8)(r:AA)(t p f:L8)(s:AA)(u:AH)(t1 t2 n:AA)(w:AE EC)(x:L8)(q:AA)(l:AE AX)(m:AE Ar)(a b c d e dk:AA)(g body:L8)(h cond:AA)(i:L8)(j low:AA):
 ALI (((k,key,v,o,r,t,p,f,s,u,()),t1,t2,(n,w,x,()),()),(q,l,m,(a,b,c,d,e,()),()),(dk,g,body,h,cond,i,j,low,()),())=ACQ ((k,key,v,o,r,t,p,f,s,u,()),t1,t2,(n,w,x,()),()) (q,l,m,(a,b,c,d,e,()),()) (dk,g,body,h,cond,i,j,low,()):=by kernel_rfl
theorem AGt:PC 17 ACP:=(Ap (Cb (l:=[(36,oP),(37,Z8),(38,oR),(39,ADH),(40,wrS),(41,ADf)]) (o:=[]) ⟨xg,xf,ACY,ACX,ALq,AHv,A3⟩ trivial) Al func17 (by kernel_rfl) (by decide)).nice λ⟨⟨⟨r,key,v,u,w,t,p,f,x,y,()⟩,t1,t2,⟨n,z,A,()⟩,()⟩,⟨q,l,m,⟨a,b,c,d,e,()⟩,()⟩,⟨dk,g,body,i,cond,j,k,low,()⟩,()⟩ h=>
 (ALJ r key v u w t p f x y t1 t2 n z A q l m a b c d e dk g body i cond j k low).trans (ACR (t:=((r,key,v,u,w,t,p,f,x,y,()),t1,t2,(n,z,A,()),())) (s:=(q,l,m,(a,b,c,d,e,()),())) (d:=(dk,g,body,i,cond,j,k,low,())) h)
end Go.Proofs.YtkgejlchafionaaGreatDoor
namespace Nice
theorem WA(s:L8)(n:AB):(cut s (n:AA)).length<=n:=by unfold cut;rw[Bw];omega
theorem kg(a:BH)(b:C4 a.2.2.1=AD)(c:C4 a.2.2.2.2.2.2.2.2.1=AD):Gh (VL a)=true:=by
 have d:(cut a.2.1 42).length<=42:=WA a.2.1 42;have e:(cut a.2.2.2.1 302).length<=302:=WA a.2.2.2.1 302;have f:(cut a.2.2.2.2.2.1 10).length<=10:=WA a.2.2.2.2.2.1 10;have g:(cut a.2.2.2.2.2.2.1 42).length<=42:=WA a.2.2.2.2.2.2.1 42;have h:(cut a.2.2.2.2.2.2.2.1 42).length<=42:=WA a.2.2.2.2.2.2.2.1 42
 unfold Gh Rb sa VL;dsimp only;rw[BK (by omega:(cut a.2.1 42).length<=1000),BK (by omega:(cut a.2.2.2.1 302).length<=1000),BK (by omega:(cut a.2.2.2.2.2.1 10).length<=1000),BK (by omega:(cut a.2.2.2.2.2.2.1 42).length<=1000),BK (by omega:(cut a.2.2.2.2.2.2.2.1 42).length<=1000),b,c];rfl
theorem oX(e:AX):(Oh e).1.length<=42/\(Oh e).2.1.length<=14:=by
 unfold Oh;refine⟨WA e.1 42,?_⟩;show((e.2.1.take 14).map ACy).length<=14;rw[Eg,Bw];omega
theorem SD{s:Bc}{e:AX}(h:e∈(Nm s).2.1):e.1.length<=42/\e.2.1.length<=14:=by
 have h:e∈(s.2.1.take 42).map Oh:=h;obtain⟨x, -,rfl⟩:=Ju.1 h;exact oX x
theorem WB(s:Bc):IU (Nm s)=true:=C8.2 λe a=>by
 obtain⟨b,c⟩:=SD a;unfold Dy Aw;rw[A0,A6,A6];omega
theorem kh{s:Bc}{a:BH}:(∀e,e∈(Fy (Nm s) a).2.1->e.2.1.length<=14)/\(Fy (Nm s) a).1.length<=20/\(Fy (Nm s) a).2.1.length<=20:=by
 unfold Fy;cases a.1==4
 ·cases a.1==5
  ·exact⟨(λx h=>by cases h),(by show 0<=20;omega),(by show 0<=20;omega)⟩
  ·exact⟨(λe h=>(SD (Uf.1 (RR h)).1).2),(by show 0<=20;omega),HO⟩
 ·refine⟨(λx h=>by cases h),?_,(by show 0<=20;omega)⟩;show((Cu (Nm s) a.2.2.2.2.2.2.1 a.2.2.2.2.2.2.2.1 a.2.2.2.2.2.2.2.2.1 AD).map (·.1)).length<=20;rw[Eg];exact HO
theorem gi{s:Bc}{p f:L8}{k:AA}{b:AH}{e:AX}(h:e∈Cu (Nm s) p f k b):e.1.length<=42/\e.2.1.length<=14:=
 SD (Uf.1 (RR h)).1
theorem AOX(s:Bc)(a:BH):IW (Fy (Nm s) a)=true:=by
 obtain⟨i,j,l⟩:=kh (s:=s) (a:=a);have d:∀k,k∈(Fy (Nm s) a).1->k.length<=42:=by
  intro k b
  revert b
  unfold Fy;cases a.1==4
  ·cases a.1==5
   ·intro b;cases b
   ·intro b;cases b
  ·intro b;obtain⟨e,c,rfl⟩:=Ju.1 (show k∈(Cu (Nm s) a.2.2.2.2.2.2.1 a.2.2.2.2.2.2.2.1 a.2.2.2.2.2.2.2.2.1 AD).map (·.1)from b);exact(gi c).1
 have f:∀e,e∈(Fy (Nm s) a).2.1->e.1.length<=42/\e.2.1.length<=14:=by
  intro e c
  revert c
  unfold Fy;cases a.1==4
  ·cases a.1==5
   ·intro b;cases b
   ·intro b;exact gi (show e∈Cu (Nm s) a.2.2.2.2.2.2.1 a.2.2.2.2.2.2.2.1 a.2.2.2.2.2.2.2.2.1 AK from b)
  ·intro b;cases b
 ·unfold IW IV;rw[BK (by omega),BK (by omega)];have g:(Fy (Nm s) a).1.all Aw=true:=C8.2 λk b=>BK (by have:=d k b;omega)
  have h:(Fy (Nm s) a).2.1.all Dy=true:=C8.2 λe c=>by
   have:=f e c;unfold Dy Aw;rw[BK (by omega),BK (by omega)];rfl
  rw[g,h];rfl
theorem oY{n:AA}(h:A4 .i64 n):C4 n=true:=by
 have:=AZ.1 h;unfold C4;rw[A0,A6,A6];exact this
theorem uu(s:Bc):(Nm s).2.1.length<=42:=by
 show((s.2.1.take 42).map Oh).length<=42;rw[Eg,Bw];omega
