/-
  Part of the proof. No condition.
-/
import Derived.Test.YtkgejlchafionaaGreatDoorG9
import Derived.Deep.QuietTactic
import Derived.BigQuiet
import Derived.Sort.Defs
import Derived.Shelf.SlSortCmp.Insertion1
open Array renaming getElem?_eq_getElem->CX,getElem?_setIfInBounds_ne->FG,getElem?_setIfInBounds_self_of_lt->Ig,getElem?_toList->Bf,length_toList->D0,ofFn->Kx,size_ofFn->zY,size_setIfInBounds->GK
open BEq renaming comm->ik
open Bool renaming and_eq_true->A0,and_false->Gl,and_true->Gt,false->AK,false_eq_true->CI,not_eq_true'->Hr,or_true->Jv,true->AD,true_and->Cz
open Classical renaming byContradiction->AJS,propDecidable->PI
open Decidable renaming decide->AG
open Go renaming Calls->BU,Value->AJ,World->AN,callFunc->FO,rounds_succ->sB,wp_loop_rounds->sC
open Go.Op renaming bytesLess->CG
open Go.Proofs.SlLaysF renaming n20->AJT
open Go.Shelf renaming Ren->I5
open Go.Sort renaming insInner->sD,insOuter->sE,putCells->M4,size_putRow->zZ
open Go.World renaming cell?->C0
open Int renaming le_refl->Hh,le_trans->il,natCast_add->Dz,natCast_one->Fb
open List renaming append_nil->Ce,drop_eq_getElem_cons->Ef,drop_eq_nil_of_le->GY,drop_zero->Do,getD_eq_getElem?_getD->Bg,getElem?_append_right->Fw,getElem?_drop->CA,getElem?_eq_getElem->B4,getElem?_eq_some_iff->MJ,getElem?_map->Fe,getElem?_take->CB,getElem_mem->EK,getElem_of_mem->M5,length_append->BA,length_cons->B7,length_drop->CC,length_map->Eg,length_range->RQ,length_replicate->Un,length_set->PL,length_singleton->EL,length_take->Bw,mem_append->CH,mem_cons->Dv,mem_cons_of_mem->GC,mem_cons_self->PB,mem_of_mem_drop->M6,mem_of_mem_take->RR,mem_singleton->Cn,pairwise_append->bx,pairwise_cons->Us,pairwise_iff_getElem->Ws,pairwise_singleton->za,replicate->Hj,take_append_drop->Wt
open List.Pairwise renaming nil->AJU
open List.Sublist renaming append->zb,refl->zd
open List.cons renaming inj->FP
open Nat renaming add_sub_cancel->bq,add_zero->FK,le_refl->Ak,le_trans->Ea,mul_one->Gd,sub_self->bY,zero_add->CJ,zero_le->Cx
open Ne renaming symm->ES
open Option renaming isSome_none->Df,none->AF,some->AC
open Option.some renaming inj->Dw
open _root_ renaming Array->Aa,Bool->AH,Inhabited->sF,Int->AA,List->AE,Nat->AB,Option->AP,beq_eq_false_iff_ne->CE,beq_iff_eq->Be,congrArg->BQ,decide_eq_false->BP,decide_eq_false_iff_not->Ut,decide_eq_true->BK,decide_eq_true_eq->A6,if_false->BR,if_neg->AY,if_pos->Ae,of_decide_eq_true->BL,rfl->AL,trivial->A3
set_option maxRecDepth 1000000
open Go Go.Eng
noncomputable section
namespace Nice
theorem kS(x y:EC):P9 x y=P9 y x:=by
 unfold P9;rw[ik (a:=x.1),ik (a:=x.2.1)]
theorem Vz:∀l m:AE EC,Mh l m=Mh m l
 |[],[]=>rfl
 |[],_::_=>rfl
 |_::_,[]=>rfl
 |x::l,y::m=>by
  show(P9 x y&&Mh l m)=(P9 y x&&Mh m l);rw[kS,Vz l m]
theorem Ts(a b:Hg):Jf a b=Jf b a:=by
 unfold Jf;rw[ik (a:=a.1),ik (a:=a.2.2.1),Vz]
theorem gQ{a:BH}(h:HW a=AD)(r:E0 a=AD)(d:Ai):Q1 a d=uo (rlD (IQ a) d) d:=by
 obtain⟨H,key,v,s,u,t,p,f,B,C,⟨⟩⟩:=a;obtain⟨dk,b,m,n,o,dt,q,dl,⟨⟩⟩:=d;unfold E0 at r;simp only[Bool.or_eq_true,Be]at r;unfold HW at h;rw[Bool.eq_iff_iff];rcases r with rfl|rfl
 ·simp only[show dW 2=AK from AL,xF,A0,show((2:AA)==1)=AK from AL,show((2:AA)==3)=AK from AL,show((2:AA)==2)=AD from AL,xT]at h;obtain⟨-,w⟩:=h;unfold tz at w;simp only[A0,Be]at w;have D:v=0:=w.2.1;subst D;show(dk==1&&(b==key&&(m==s&&(o==u&&(dt==t&&n==0)))))=AD↔((1:AA)==dk&&(key==b&&(s==m&&((0:AA)==n&&(u==o&&(t==dt&&(q==q&&(dl==dl&&AD))))))))=AD
  simp only[A0,Be];exact⟨λ⟨c,e,g,i,j,k⟩=>⟨c.symm,e.symm,g.symm,k.symm,i.symm,j.symm,A3,A3,A3⟩,λ⟨c,e,g,i,j,k,_⟩=>⟨c.symm,e.symm,g.symm,j.symm,k.symm,i.symm⟩⟩
 ·simp only[show dW 3=AK from AL,xF,A0,show((3:AA)==1)=AK from AL,show((3:AA)==3)=AD from AL,xT]at h;obtain⟨x,y, -⟩:=h;unfold kE at x;unfold dX at y;simp only[A0,Be,A6]at x y;obtain⟨z,l,A⟩:=y;have z:s=[]:=z;have l:u=0:=l
  have A:t=[]:=A;have D:0<=v:=x.2.2.2.2.1;subst z l A;by_cases E:v=0
  ·subst E;show(dk==2&&(b==key&&(m==[]&&(o==0&&(dt==[]&&n==0)))))=AD↔((2:AA)==dk&&(key==b&&([]==m&&((0:AA)==n&&((0:AA)==o&&([]==dt&&(q==q&&(dl==dl&&AD))))))))=AD;simp only[A0,Be];exact⟨λ⟨c,e,g,i,j,k⟩=>⟨c.symm,e.symm,g.symm,k.symm,i.symm,j.symm,A3,A3,A3⟩,λ⟨c,e,g,i,j,k,_⟩=>⟨c.symm,e.symm,g.symm,j.symm,k.symm,i.symm⟩⟩
  ·have F:OY (3,key,v,[],0,[],p,f,B,C,())=3:=by
    unfold OY;show(bif v !=0 then(3:AA)else 2)=3;rw[show(v !=0)=AD from bne_iff_ne.2 E];rfl
   have G:IQ (3,key,v,[],0,[],p,f,B,C,())=(3,key,[],v,0,[],0,0,()):=by
    unfold IQ;show(bif AG (v>0)then(3,key,[],v,0,[],0,0,())else(2,key,[],0,0,[],0,0,()):Ai)=_;rw[Bn (show v>0 by omega)]
   unfold Q1;rw[F,G];show(dk==3&&(b==key&&(m==[]&&(o==0&&(dt==[]&&n==v)))))=AD↔((3:AA)==dk&&(key==b&&([]==m&&(v==n&&((0:AA)==o&&([]==dt&&(q==q&&(dl==dl&&AD))))))))=AD;simp only[A0,Be];exact⟨λ⟨c,e,g,i,j,k⟩=>⟨c.symm,e.symm,g.symm,k.symm,i.symm,j.symm,A3,A3,A3⟩,λ⟨c,e,g,i,j,k,_⟩=>⟨c.symm,e.symm,g.symm,j.symm,k.symm,i.symm⟩⟩
theorem nV{s:Bc}{d:Ai}(hd:D7 d=AD)(c:0<=s.1)(f:s.1<=1099511627776):0<=(CW s d).2.2.1/\(CW s d).2.2.1<=1099511627776:=by
 have z:(0:AA)<=0/\(0:AA)<=1099511627776:=by omega
 have b:(d.1==3)=AD->0<=d.2.2.2.1/\d.2.2.2.1<=1099511627776:=λb=>by
  unfold D7 at hd;simp only[A0]at hd;have a:=hd.2.2.2.2;unfold JH at a;have e:=Be.1 b;rw[e]at a;simp only[show((3:AA)==1)=AK from AL,show((3:AA)==2)=AK from AL,show((3:AA)==3)=AD from AL,xF,xT,A0,A6]at a;omega
 unfold CW;cases d.1==1&& !P3 (F7 s d.2.1) d.2.2.2.2.1 d.2.2.2.2.2.1
 ·cases d.1 !=1&& !(FC (DM d.2.1) (EJ d.2.1) s.2.1 0).2
  ·rw[xF,xF];cases a:d.1==3
   ·rw[xF];cases(CL (F7 s d.2.1) (s.1,d.1==2,d.2.2.1,())).2&&((FC (DM d.2.1) (EJ d.2.1) s.2.1 0).2|| !decide (40<=s.2.1.length))
    ·exact z
    ·exact⟨c,f⟩
   ·rw[xT];cases(CM (F7 s d.2.1) d.2.2.2.1).2
    ·exact z
    ·exact b a
  ·exact z
 ·exact z
theorem Xv(s:Bc)(d:Ai):0<=(Ez s d).2.2.1/\(Ez s d).2.2.1<=1099511627776:=by
 have z:(0:AA)<=0/\(0:AA)<=1099511627776:=by omega
 cases a:C6 s
 ·rw[Jd (by rw[a];rfl)];exact z
 cases hd:D7 d
 ·rw[Jd (by rw[hd];exact Gl _)];exact z
 obtain⟨q0,q1,l40,m100⟩:=P4 a;unfold Ez;rw[a,hd,show(AD&&AD)=AD from AL,xT];by_cases e:s.1>=1099511627776
 ·rw[Bn e];exact z
 rw[Bm e];cases AG (OW d<E2 s.2.2.2.1 (HY d+1))
 ·rw[xF];cases b:(OX s d).2
  ·rw[xF];cases AG (100<=s.2.2.1.length)
   ·have:=nV (s:=K7 s) hd (show 0<=s.1+1 by omega) (show s.1+1<=1099511627776 by omega);rw[xF];cases AG (PN d>E2 s.2.2.2.1 (HY d+1))&&A5 (PN d)==HY d+1
    ·exact this
    ·exact this
   ·exact z
  ·obtain⟨n,f, -,g⟩:∃n:AB,(OX s d).1=(n:AA)/\n<=s.2.2.1.length/\((OX s d).2=AD->n<s.2.2.1.length):=MZ _ _ _;have c:=Tt a n (g b);unfold Lp P6 at c;simp only[A0,A6]at c;rw[xT,f];show 0<=(Bv s.2.2.1 n).2.1.2.1/\(Bv s.2.2.1 n).2.1.2.1<=_;have:=c.2.2.2.2.2
   omega
 ·exact z
theorem gR(s:Bc)(d:Ai):C4 (Ez s d).2.2.1=true:=by
 have:=Xv s d;unfold C4;rw[BK (by omega),BK (by omega)];rfl
theorem gS(s:Bc)(d:Ai):D9 (Ez s d).2.2.1=GE (Ez s d).2.2.1:=KR (Xv s d).1 (Xv s d).2
theorem Zy{A:BH}{s:Bc}(n:Gh A=AD)(o:HW A=AD)(c:C6 (Nm s)=AD):eP A (Nm s)=AD/\UF A (Nm s)=AD/\Q3 A (Nm s)=aY A (Nm s):=by
 have lL:=AOX s A;have d:=WB s;have a:=λe (g:e∈(Nm s).2.1)=>SD g
 have b:=uu s
 revert lL d a b c
 generalize Nm s=S;intro c lL d a b;obtain⟨g1,p,g3⟩:=vS c A.2.1 A.2.2.1;have hst:Kn S=true:=by
  unfold Kn;rw[BK (by omega),show S.2.1.all GA=AD from List.all_eq_true.2 λe g=>BK (by have:=(a e g).2;omega)];rfl
 have h:C4 (FI S A.2.1 A.2.2.1).1.1=true:=by
  unfold C4;rw[BK (by omega),BK (by omega)];rfl
 have j:Aw (FI S A.2.1 A.2.2.1).1.2.2.1=true:=BK (by omega);have l:QM S A=Fy S A:=by unfold QM;rw[c,o];rfl
 have m:GX S A.2.1 A.2.2.1=FI S A.2.1 A.2.2.1:=pW (UD c) (λe g=>by
  obtain⟨i,h,rfl⟩:=M5 g;have f:=(Lt c).2 i h;unfold K8 at f;rw[A0,Hb h]at f;exact(D4.1 f.1).2.2.1) _ _
 have k:SS S A=true:=by unfold SS;rw[d,n];rfl
 refine⟨?_,?_,?_⟩
 ·unfold eP;rw[hst,j,h,k,l,lL];rfl
 ·unfold UF;rw[m,hst,j,h,VK c,lL];rfl
 ·unfold Q3 aY;rw[m,l,KR p g3]
theorem kU{A:BH}{s:Bc}{D:Ai}{X:Hg}(t1 t2:AA)(a:Gh A=AD)(c:HW A=AD)(d:C6 (Nm s)=AD)(e:Aw D.2.1=AD)(f:eM X=AD):
  Oa (A,t1,t2,X,()) (Nm s) D=AD/\oT A (Nm s) D=AD/\HG (A,t1,t2,X,()) (Nm s) D=oS A X (Nm s) D:=by
 obtain⟨f1,f2,f3⟩:=Zy a c d;have b:Aw A.2.2.2.1=true:=by
  have a:=a;unfold Gh Rb sa at a;simp only[A0,A6]at a;unfold Aw;exact BK (by omega)
 have hd:Mg (Nm s) D=true:=by unfold Mg;rw[WB,e];rfl
 unfold Oa oT HG oS;dsimp only;rw[f];cases g:E0 A
 ·rw[xF,xF,xF,xF,f1,f2,f3];exact⟨rfl,rfl,Ts _ _⟩
 ·rw[xT,xT,xT,xT,hd,gR,b,gQ c g,gS,Ts];exact⟨rfl,rfl,rfl⟩
theorem uK{A:BH}(a:Gh A=AD):Aw A.2.1=true:=by
 unfold Gh Rb sa at a;simp only[A0,A6]at a;unfold Aw;exact BK (by omega)
end Nice
namespace Nice
structure BM(s:Bc):Prop where
 q0:0<=s.1
 q1:s.1<=1099511627776
 l40:s.2.1.length<=40
 m100:s.2.2.1.length<=100
 ent:∀e,e∈s.2.1->Cd e=AD/\(B3 e).1<=s.1
 srt:LA s.2.1
 low:Kj s.2.2.2.1=AD
 mem:∀x,x∈s.2.2.1->A5 x.1≠0/\E2 s.2.2.2.1 (A5 x.1)<=x.1/\P6 s.1 x=AD
 msrt:s.2.2.1.Pairwise λa b=>a.1<b.1
theorem AFu{s:Bc}(h:C6 s=AD):BM s:=by
 have b:=P4 h;have c:=Lt h;have d:=Tt h;refine⟨b.1,b.2.1,b.2.2.1,b.2.2.2,λe f=> ?_,UD h,?_,λx g=> ?_,V8 h⟩
 ·obtain⟨i,a,rfl⟩:=M5 f;have:=c.2 i a;unfold K8 at this;rw[Hb a]at this;simp only[A0,A6]at this;exact⟨this.1,this.2.1⟩
 ·unfold C6 at h;simp only[A0]at h;exact h.2.2.2.2.2.1
 ·obtain⟨i,a,rfl⟩:=M5 g;have:=d i a;unfold Lp at this;rw[Ln a]at this;simp only[A0,Hr,CE,A6]at this;exact⟨this.1,this.2.1,this.2.2.2⟩
theorem nW{s:Bc}(h:BM s):C6 s=true:=by
 have c:Ha (K8 s.1 s.2.1) s.2.1.length 0=true:=H6.2 λi _ a=>by
  have a:i<s.2.1.length:=by omega
  obtain⟨g1,b⟩:=h.ent _ (EK a);unfold K8;rw[Hb a,g1,BK b,Cz,Cz];rcases i with _|i
  ·rfl
  ·rw[show i+1-1=i from AL,Hb (show i<s.2.1.length by omega),Ws.1 h.srt i (i+1) (by omega) a (by omega),Jv]
 have d:Ha (Lp s.1 s.2.2.2.1 s.2.2.1) s.2.2.1.length 0=true:=H6.2 λi _ a=>by
  have a:i<s.2.2.1.length:=by omega
  obtain⟨g1,b,g3⟩:=h.mem _ (EK a);unfold Lp;rw[Ln a,CE.2 g1,BK b,g3,Gt];rcases i with _|i
  ·rfl
  ·rw[show i+1-1=i from AL,Ln (show i<s.2.2.1.length by omega),BK (Ws.1 h.msrt i (i+1) (by omega) a (by omega)),Jv];rfl
 unfold C6;rw[BK h.q0,BK h.q1,BK h.l40,BK h.m100,c,h.low,d];rfl
theorem Lk:∀(l:AE BE) (q:AA),IR q l=AD↔(∀v,v∈l->DJ v=AD/\q<v.1)/\l.Pairwise λa b=>a.1<b.1
 |[],q=>⟨λ_=>⟨(λv h=>by cases h),AJU⟩,λ_=>rfl⟩
 |v::l,q=>by
  rw[NV,A0,A0,A6,Lk l v.1,Us];constructor
  ·rintro⟨c,e,d,f⟩;refine⟨λu hu=> ?_,λu hu=>(d u hu).2,f⟩;rcases Dv.1 hu with rfl|hu
   ·exact⟨c,e⟩
   ·exact⟨(d u hu).1,Int.lt_trans e (d u hu).2⟩
  ·rintro⟨c,e,d⟩;exact⟨(c v (PB ..)).1,(c v (PB ..)).2,λu hu=>⟨(c u (GC _ hu)).1,e u hu⟩,d⟩
theorem Zz{e:AX}(h:1<=e.2.1.length):B3 e=e.2.1[e.2.1.length-1]'(by omega):=by
 unfold B3;rw[Bg,B4 (by omega)];rfl
theorem Xw{e:AX}(h:e.2.1.Pairwise λa b=>a.1<b.1){v:BE}(c:v∈e.2.1):v.1<=(B3 e).1:=by
 obtain⟨i,d,rfl⟩:=M5 c;rw[Zz (by omega)];by_cases f:i=e.2.1.length-1
 ·subst f;exact Hh _
 ·exact Int.le_of_lt (Ws.1 h i (e.2.1.length-1) d (by omega) (by omega))
theorem nX{e:AX}(h:1<=e.2.1.length):B3 e∈e.2.1:=by
 rw[Zz h];exact EK _
theorem uL{key:L8}{vs:AE BE}{v:BE}{q:AA}(k:isKey key=AD)(l:IR 0 vs=AD)(f:DJ v=AD)(m:v.1<=q)(h:(CL (key,vs,()) v).2=AD):
  (CL (key,vs,()) v).1.1=key/\Cd (CL (key,vs,()) v).1=AD/\(B3 (CL (key,vs,()) v).1).1<=q:=by
 unfold CL at h⊢;cases d:AG (12<=vs.length)||(AG (0<vs.length)&&AG (v.1<=(B3 (key,vs,())).1))
 ·have n:=d;rw[Bool.or_eq_false_iff,Ut]at d;obtain⟨c1,c2⟩:=d;obtain⟨o,j⟩:=(Lk vs 0).1 l;have g:∀u,u∈vs->u.1<v.1:=λu hu=>by
   have p:0<vs.length:=List.length_pos_of_mem hu;rw[BK p,Cz,Ut]at c2;have:=Xw (e:=(key,vs,())) j hu;omega
  rw[xF];have i:0<v.1:=by
   unfold DJ at f;simp only[A0,A6]at f;omega
  have c:IR 0 (vs++[v])=true:=by
   rw[Lk];refine⟨λu hu=> ?_,bx.2 ⟨j,za ..,λa r b s=> ?_⟩⟩
   ·rcases CH.1 hu with hu|hu
    ·exact o u hu
    ·rw[Cn.1 hu];exact⟨f,i⟩
   ·rw[Cn.1 s];exact g a r
  refine⟨rfl,D4.2 ⟨c,k,by show 1<=(vs++[v]).length;rw[BA,EL];omega,by show(vs++[v]).length<=12;rw[BA,EL];omega⟩,?_⟩;show(B3 (key,vs++[v],())).1<=q;have:B3 (key,vs++[v],())=v:=by
   unfold B3;show(vs++[v]).getD ((vs++[v]).length-1) _=v;rw[BA,EL,bq,Bg,Fw (Ak _),bY];rfl
  rw[this];exact m
 ·have h:(bif (AG (12<=vs.length)||(AG (0<vs.length)&&AG (v.1<=(B3 (key,vs,())).1)))then((key,vs,()),AK)else((key,vs++[v],()),AD):AX×AH).2=true:=h;rw[d]at h;cases h
theorem uM{e:AX}{a q:AA}(o:Cd e=AD)(k:(B3 e).1<=q)(h:(CM e a).2=AD):
  (CM e a).1.1=e.1/\a<=q/\1<=a/\((CM e a).1.2.1.length≠0->Cd (CM e a).1=AD/\(B3 (CM e a).1).1<=q):=by
 obtain⟨p,r,z,f⟩:=D4.1 o;obtain⟨l,g⟩:=(Lk _ 0).1 p;unfold CM at h⊢;cases i:AG (Db e.2.1 a<0)
 ·rw[xF];rw[Ut]at i;have j:∃v,v∈e.2.1/\v.1=a:=AJS λs=>by
   apply i;unfold Db;rw[NW _ _ λx t=>CE.2 λw=>s ⟨x,t,w⟩];omega
  obtain⟨v,m,rfl⟩:=j;have c:=(l v m).1;unfold DJ at c;simp only[A0,A6]at c;refine⟨rfl,il (Xw g m) k,c.1,λn=> ?_⟩;have b:(e.2.1.take (Db e.2.1 v.1).toNat++e.2.1.drop ((Db e.2.1 v.1).toNat+1)).Sublist e.2.1:=by
   have:=zb (zd (e.2.1.take (Db e.2.1 v.1).toNat)) (List.drop_sublist_drop_left e.2.1 (Nat.le_succ (Db e.2.1 v.1).toNat));rwa[Wt]at this
  have n:(e.2.1.take (Db e.2.1 v.1).toNat++e.2.1.drop ((Db e.2.1 v.1).toNat+1)).length≠0:=n;have d:1<=(e.2.1.take (Db e.2.1 v.1).toNat++e.2.1.drop ((Db e.2.1 v.1).toNat+1)).length:=by omega
  refine⟨D4.2 ⟨(Lk _ 0).2 ⟨λu y=>l u (b.subset y),g.sublist b⟩,r,d,Ea b.length_le f⟩,?_⟩;have:=nX (e:=(e.1,e.2.1.take (Db e.2.1 v.1).toNat++e.2.1.drop ((Db e.2.1 v.1).toNat+1),())) d;exact il (Xw g (b.subset this)) k
 ·have h:(bif AG (Db e.2.1 a<0)then(e,AK)else((e.1,e.2.1.take (Db e.2.1 a).toNat++e.2.1.drop ((Db e.2.1 a).toNat+1),()),AD):AX×AH).2=true:=h;rw[i]at h;cases h
def ABo{α:Type}(eq:α->AH):AP α->AH
 |some x=>eq x
 |none=>AK
theorem Xx{α:Type}(lt eq:α->AH):∀(l:AE α) (i:AB),∃n:AB,FC lt eq l i=(((i+n:AB):AA),ABo eq l[n]?)/\n<=l.length/\(∀k x,k<n->l[k]?=AC x->lt x=AD)/\∀x,l[n]?=AC x->lt x=AK
 |[],i=>⟨0,rfl,Ak _,λk x h=>by omega,λx h=>by cases h⟩
 |y::r,i=>by
  unfold FC;cases b:lt y
  ·exact⟨0,rfl,Cx _,λk x h=>by omega,λx h=>by cases h;exact b⟩
  ·obtain⟨n,c,f,d,e⟩:=Xx lt eq r (i+1);refine⟨n+1,?_,by simp only[B7];omega,λk x g a=> ?_,λx a=>e x a⟩
   ·rw[xT,c,show i+1+n=i+(n+1) by omega];rfl
   ·rcases k with _|k
    ·cases a;exact b
    ·exact d k x (by omega) a
theorem gT{L:AE AX}{key:L8}{e:AX}(s:LA L)(m:e.1=key):
  LA (KP L (FC (DM key) (EJ key) L 0) e)/\(∀x,x∈KP L (FC (DM key) (EJ key) L 0) e->x∈L\/(x=e/\e.2.1.length≠0))/\
  (KP L (FC (DM key) (EJ key) L 0) e).length<=L.length+(bif (FC (DM key) (EJ key) L 0).2 then 0 else 1):=by
 obtain⟨n,w,H,C,D⟩:=Xx (DM key) (EJ key) L 0;rw[CJ]at w;rw[w];have g:∀x,x∈L.take n->CG x.1 key=true:=λx hx=>by
  obtain⟨k,r⟩:=List.mem_iff_getElem?.1 hx;rw[CB]at r
  split at r
  ·rename_i t;exact C k x t r
  ·cases r
 have d:LA (L.take n):=s.sublist (List.take_sublist ..);unfold KP;show LA (L.take n++_)/\_/\_;rw[show((n:AB):AA).toNat=n from AL];generalize h:ABo (EJ key) L[n]?=f;cases l:L[n]? with
 |none=>
  rw[l]at h;obtain rfl:AK=f:=h;have u:L.length<=n:=List.getElem?_eq_none_iff.1 l;have hd:L.drop n=[]:=GY u;show LA (L.take n++((bif e.2.1.length==0 then []else [e])++L.drop n))/\(∀x,x∈L.take n++((bif e.2.1.length==0 then []else [e])++L.drop n)->_)/\(L.take n++((bif e.2.1.length==0 then []else [e])++L.drop n)).length<=L.length+1
  rw[hd,Ce];cases o:e.2.1.length==0
  ·refine⟨bx.2 ⟨d,za ..,λa i b c=> ?_⟩,λx hx=> ?_,?_⟩
   ·rw[Cn.1 c,m];exact g a i
   ·rcases CH.1 hx with hx|hx
    ·exact .inl (RR hx)
    ·exact .inr ⟨Cn.1 hx,CE.1 o⟩
   ·show(L.take n++[e]).length<=_;rw[BA,Bw,EL];omega
  ·rw[xT,Ce];exact⟨d,λx hx=>.inl (RR hx),by rw[Bw];omega⟩
 |some y=>
  have u:n<L.length:=(MJ.1 l).1;have E:L[n]=y:=(MJ.1 l).2;have hd:L.drop n=y::L.drop (n+1):=by rw[Ef u,E]
  have j:=D y l;have p:LA (L.take n++(y::L.drop (n+1))):=by rw[<-hd,Wt];exact s
  obtain⟨-,z,A⟩:=bx.1 p;obtain⟨B,F⟩:=Us.1 z;rw[l]at h;have h:(y.1==key)=f:=h;cases f
  ·have G:=h;have q:CG key y.1=true:=by
    have:=Ol key y.1;have j:CG y.1 key=false:=j;rw[j,G]at this;exact this
   show LA (L.take n++((bif e.2.1.length==0 then []else [e])++L.drop n))/\(∀x,x∈L.take n++((bif e.2.1.length==0 then []else [e])++L.drop n)->_)/\(L.take n++((bif e.2.1.length==0 then []else [e])++L.drop n)).length<=L.length+1;cases o:e.2.1.length==0
   ·refine⟨bx.2 ⟨d,?_,λa i b c=> ?_⟩,λx hx=> ?_,?_⟩
    ·show LA (e::L.drop n);rw[hd];refine Us.2 ⟨λb c=> ?_,z⟩;rw[m];rcases Dv.1 c with rfl|c
     ·exact q
     ·exact KT q (B b c)
    ·have c:b∈e::L.drop n:=c;rcases Dv.1 c with rfl|c
     ·rw[m];exact g a i
     ·rw[hd]at c;exact A a i b c
    ·rcases CH.1 hx with hx|hx
     ·exact .inl (RR hx)
     ·have hx:x∈e::L.drop n:=hx;rcases Dv.1 hx with rfl|hx
      ·exact .inr ⟨rfl,CE.1 o⟩
      ·exact .inl (M6 hx)
    ·show(L.take n++(e::L.drop n)).length<=_;rw[BA,B7,Bw,CC];omega
   ·show LA (L.take n++L.drop n)/\(∀x,x∈L.take n++L.drop n->_)/\(L.take n++L.drop n).length<=L.length+1;rw[Wt];exact⟨s,λx hx=>.inl hx,by omega⟩
  ·have v:y.1=key:=Be.1 h;show LA (L.take n++((bif e.2.1.length==0 then []else [e])++L.drop (n+1)))/\(∀x,x∈L.take n++((bif e.2.1.length==0 then []else [e])++L.drop (n+1))->_)/\(L.take n++((bif e.2.1.length==0 then []else [e])++L.drop (n+1))).length<=L.length+0;cases o:e.2.1.length==0
   ·refine⟨bx.2 ⟨d,?_,λa i b c=> ?_⟩,λx hx=> ?_,?_⟩
    ·show LA (e::L.drop (n+1));refine Us.2 ⟨λb c=> ?_,F⟩;rw[m,<-v];exact B b c
    ·have c:b∈e::L.drop (n+1):=c;rcases Dv.1 c with rfl|c
     ·rw[m];exact g a i
     ·exact A a i b (GC _ c)
    ·rcases CH.1 hx with hx|hx
     ·exact .inl (RR hx)
     ·have hx:x∈e::L.drop (n+1):=hx;rcases Dv.1 hx with rfl|hx
      ·exact .inr ⟨rfl,CE.1 o⟩
      ·exact .inl (M6 hx)
    ·show(L.take n++(e::L.drop (n+1))).length<=_;rw[BA,B7,Bw,CC];omega
   ·show LA (L.take n++L.drop (n+1))/\(∀x,x∈L.take n++L.drop (n+1)->_)/\(L.take n++L.drop (n+1)).length<=L.length+0;refine⟨p.sublist (zb (zd _) (List.sublist_cons_self ..)),λx hx=> ?_,?_⟩
    ·rcases CH.1 hx with hx|hx
     ·exact .inl (RR hx)
     ·exact .inl (M6 hx)
    ·rw[BA,Bw,CC];omega
theorem uN{s:Bc}{d:Ai}(h:BM s)(hd:D7 d=AD)(K:1<=s.1):
  (CW s d).1.length<=40/\(∀e,e∈(CW s d).1->Cd e=AD/\(B3 e).1<=s.1)/\LA (CW s d).1/\0<=(CW s d).2.1/\(CW s d).2.1<=13/\0<=(CW s d).2.2.1/\(CW s d).2.2.1<=s.1:=by
 have same:∀x:AA,0<=x->x<=13->s.2.1.length<=40/\(∀e,e∈s.2.1->Cd e=AD/\(B3 e).1<=s.1)/\LA s.2.1/\0<=x/\x<=13/\(0:AA)<=0/\(0:AA)<=s.1:=λx B C=>⟨h.l40,h.ent,h.srt,B,C,Hh _,h.q0⟩
 obtain⟨l, -, -, -,m⟩:=Jc hd;have c:JH d=true:=by
  unfold D7 at hd;simp only[A0]at hd;exact hd.2.2.2.2
 obtain⟨n,C,Q,R,S⟩:=Xx (DM d.2.1) (EJ d.2.1) s.2.1 0;have o:(F7 s d.2.1).1=d.2.1/\IR 0 (F7 s d.2.1).2.1=AD/\((FC (DM d.2.1) (EJ d.2.1) s.2.1 0).2=AD->F7 s d.2.1∈s.2.1):=by
  unfold F7;cases g:(FC (DM d.2.1) (EJ d.2.1) s.2.1 0).2
  ·exact⟨rfl,rfl,λh=>by cases h⟩
  ·rw[C]at g⊢;cases u:s.2.1[n]? with
   |none=>rw[u]at g;cases g
   |some y=>
    rw[u]at g;have L:y.1=d.2.1:=Be.1 g;have D:VG s.2.1 (((0+n:AB):AA))=y:=by
     show s.2.1.getD (0+n) _=y;rw[CJ,Bg,u];rfl
    rw[xT,D];have p:y∈s.2.1:=List.mem_of_getElem? u;exact⟨L,(D4.1 (h.ent y p).1).1,λ_=>p⟩
 obtain⟨w,M,N⟩:=o;unfold CW;cases d.1==1&& !P3 (F7 s d.2.1) d.2.2.2.2.1 d.2.2.2.2.2.1
 ·rw[xF];cases i:d.1 !=1&& !(FC (DM d.2.1) (EJ d.2.1) s.2.1 0).2
  ·rw[xF];cases q:d.1==3
   ·rw[xF];cases r:(CL (F7 s d.2.1) (s.1,d.1==2,d.2.2.1,())).2&&((FC (DM d.2.1) (EJ d.2.1) s.2.1 0).2|| !decide (40<=s.2.1.length))
    ·exact same 5 (by omega) (by omega)
    ·rw[A0]at r;obtain⟨t1,t2⟩:=r;have F:DJ (s.1,d.1==2,d.2.2.1,())=true:=by
      unfold DJ;have f:d.2.2.1.length<=300/\((d.1==2)=AD->d.2.2.1=[]):=by
       unfold JH at c;cases z:d.1==1
       ·cases j:d.1==2
        ·rw[z,j,q]at m;cases m
        ·rw[z,j,xF,xT]at c;unfold NS at c;simp only[A0,Be]at c;have:d.2.2.1=[]:=c.1.1;rw[this];exact⟨Cx _,λ_=>rfl⟩
       ·rw[z,xT]at c;unfold Z7 at c;simp only[A0,A6]at c;refine⟨c.2.1,λj=> ?_⟩;have O:=Be.1 z;rw[O]at j;cases j
      rw[BK K,BK h.q1,BK f.1];cases j:d.1==2
      ·rfl
      ·rw[f.2 j];rfl
     have I:F7 s d.2.1=(d.2.1,(F7 s d.2.1).2.1,()):=by
      revert w
      generalize F7 s d.2.1=E;intro w;obtain⟨a,b,⟨⟩⟩:=E;rw[show a=d.2.1 from w]
     have J:=uL (v:=(s.1,d.1==2,d.2.2.1,())) l M F (Hh _) (by rw[<-I];exact t1);rw[<-I]at J;obtain⟨t3,t4,t5⟩:=J;obtain⟨G,H,A⟩:=gT (key:=d.2.1) h.srt t3;refine⟨?_,λx k=> ?_,G,(show(0:AA)<=0 by omega),(show(0:AA)<=13 by omega),h.q0,Hh _⟩
     ·refine Ea A ?_;have:=h.l40;cases g:(FC (DM d.2.1) (EJ d.2.1) s.2.1 0).2
      ·rw[g,Bool.false_or,Hr,Ut]at t2;rw[xF];omega
      ·rw[xT];omega
     ·rcases H x k with k|⟨rfl,_⟩
      ·exact h.ent x k
      ·exact⟨t4,t5⟩
   ·rw[xT];have t:(FC (DM d.2.1) (EJ d.2.1) s.2.1 0).2=true:=by
     cases g:(FC (DM d.2.1) (EJ d.2.1) s.2.1 0).2
     ·rw[g]at i;have a3:=Be.1 q;rw[a3]at i;cases i
     ·rfl
    have p:=N t;cases P:(CM (F7 s d.2.1) d.2.2.2.1).2
    ·exact same 6 (by omega) (by omega)
    ·obtain⟨t1,t2,t3,t4⟩:=uM (h.ent _ p).1 (h.ent _ p).2 P;obtain⟨G,H,A⟩:=gT (key:=d.2.1) h.srt (t1.trans w);refine⟨?_,λx k=> ?_,G,(show(0:AA)<=0 by omega),(show(0:AA)<=13 by omega),?_,t2⟩
     ·rw[t]at A;exact Ea A h.l40
     ·rcases H x k with k|⟨rfl,B⟩
      ·exact h.ent x k
      ·exact t4 B
     ·show 0<=d.2.2.2.1;omega
  ·exact same 6 (by omega) (by omega)
 ·exact same 9 (by omega) (by omega)
end Nice
namespace Nice
abbrev TlO:=AP (AE AH×AM [IT,.bool])
def HX:Ai:=(0,[],[],0,0,[],0,0,())
abbrev C5(bk:AE Bc)(i:AB):Bc:=bk.getD i (CY).dflt
abbrev P1(ds:AE Ai)(i:AB):Ai:=ds.getD i (Bu).dflt
abbrev nY(t:Bl):AA:=t.2.2.2.1.1
def dr(t:Bl)(bk:AE Bc)(ds:AE Ai)(tk:AE AH)(p:AA)(nx:TlO):TlO:=
 bif AG (p<(bk.length:AA))then
  (bif E0 t.1 then
   (bif AG (p>0)then
    (bif tk.getD p.toNat (Ty.bool).dflt then gd (AG (A4 .i64 (p+1))::EV p tk.length) nx
    else bif HG t (C5 bk (p-1).toNat) (P1 ds (p-1).toNat)then gd (EV p tk.length++(Oa t (C5 bk (p-1).toNat) (P1 ds (p-1).toNat)::(EV (p-1) ds.length++(AG (A4 .i64 (p-1))::(EV (p-1) bk.length++(AG (A4 .i64 (p-1))::EV p tk.length)))))) (AC (tk.set p.toNat AD,p,AD,()))
    else gd (AG (A4 .i64 (p+1))::(Oa t (C5 bk (p-1).toNat) (P1 ds (p-1).toNat)::(EV (p-1) ds.length++(AG (A4 .i64 (p-1))::(EV (p-1) bk.length++(AG (A4 .i64 (p-1))::EV p tk.length)))))) nx)
   else gd [AG (A4 .i64 (p+1))] nx)
  else bif HG t (C5 bk p.toNat) HX then gd (Oa t (C5 bk p.toNat) HX::EV p bk.length) (AC (tk,p,AD,()))
  else gd (AG (A4 .i64 (p+1))::(Oa t (C5 bk p.toNat) HX::EV p bk.length)) nx)
 else AC (tk,0,AK,())
def U8(t:Bl)(bk:AE Bc)(ds:AE Ai)(tk:AE AH):AB->AB->AE AH×AM [IT,.bool]
 |0,_=>(tk,0,AK,())
 |r+1,p=>bif E0 t.1 then(bif AG (0<p)&&(!tk.getD p AK&&HG t (C5 bk (p-1)) (P1 ds (p-1)))then(tk.set p AD,(p:AA),AD,())else U8 t bk ds tk r (p+1))
  else bif HG t (C5 bk p) HX then(tk,(p:AA),AD,())else U8 t bk ds tk r (p+1)
theorem nZ(t:Bl)(bk:AE Bc)(ds:AE Ai)(tk:AE AH)(r p:AB):U8 t bk ds tk (r+1) p=bif E0 t.1 then(bif AG (0<p)&&(!tk.getD p AK&&HG t (C5 bk (p-1)) (P1 ds (p-1)))then(tk.set p AD,(p:AA),AD,())else U8 t bk ds tk r (p+1))
 else bif HG t (C5 bk p) HX then(tk,(p:AA),AD,())else U8 t bk ds tk r (p+1):=AL
def Z0(t:Bl)(bk:AE Bc)(ds:AE Ai)(a:AA)(tk:AE AH):AE AH×AM [IT,.bool]:=
 bif nY t==503 then(tk,a,AD,())else U8 t bk ds tk (bk.length-a.toNat) a.toNat
def V0(t:Bl)(bk:AE Bc)(ds:AE Ai):Prop:=
 (E0 t.1=AD->∀p,p<ds.length->Oa t (C5 bk p) (P1 ds p)=AD)/\(E0 t.1=AK->∀p,p<bk.length->Oa t (C5 bk p) HX=AD)
def AFv(t:Bl)(bk:AE Bc)(ds:AE Ai)(a:AA)(tk:AE AH):Prop:=
 0<=a/\bk.length<=1000/\tk.length=bk.length/\ds.length+1=bk.length/\V0 t bk ds
open Classical in
def uO:VSpec:=⟨.bool,4,3,[GS,.slice CY,.slice Bu,IT],[IT,.bool],λtk y=>AG (AFv y.1 y.2.1 y.2.2.1 y.2.2.2.1 tk),λtk y=>Z0 y.1 y.2.1 y.2.2.1 y.2.2.2.1 tk⟩
theorem GR{α:Type}{i L:AB}(h:i<L)(a:AE AH)(x:AP α):gd (EV (i:AA) L++a) x=gd a x:=by
 show gd (AG ((i:AA).toNat<L)::AG (0<=(i:AA))::AG ((i:AA)<(L:AA))::a) x=_;rw[An (by omega),An (by omega),An (by omega)]
end Nice
namespace Go.Proofs.YtkgejlchafionaaGreatDoor
open Tryz
open Nice
abbrev uP:Eng.Env:=GF [(36,oP),(17,ACP)] []
abbrev na:AE (AB×AE (AB×Sh)):=[(4,[(3,(.one (.vec .bool 4))),(1,(.one (.dat CY))),(2,(.one (.dat Bu))),(5,(.obj [.sym,.sym,.sym,.sym,.sym,.sym,.sym,.sym,.sym,.sym,.sym,.sym,.sym,(.dat Gp),.sym])),(12,(.one .sym))])]
def htl(n:AB)(t:Bl)(bk:AE Bc)(ds:AE Ai)(tk:AE AH)(p:AA):TlO:=rHW prog uP (AV na) f46 .bool 4 [IT,.bool] n 0 [(3,dt 10),(1,dt 11),(2,dt 12),(5,.pointer (AC ⟨14,0,AF⟩)),(12,sy (.int .i64 p))]
 [.vec .bool tk 4,.dat CY bk,.dat Bu ds,.dat Gp t.2.2.2.1.2.1,.row [sy (.int .i64 t.1.1),sy (.string (bs t.1.2.1)),sy (.int .i64 t.1.2.2.1),sy (.string (bs t.1.2.2.2.1)),sy (.int .i64 t.1.2.2.2.2.1),sy (.string (bs t.1.2.2.2.2.2.1)),sy (.string (bs t.1.2.2.2.2.2.2.1)),sy (.string (bs t.1.2.2.2.2.2.2.2.1)),sy (.int .i64 t.1.2.2.2.2.2.2.2.2.1),.bool t.1.2.2.2.2.2.2.2.2.2.1,sy (.int .i64 t.2.1),sy (.int .i64 t.2.2.1),sy (.int .i64 t.2.2.2.1.1),dt 13,sy (.string (bs t.2.2.2.1.2.2.1))] 44 AK]
def otl(tk:AE AH)(y:AM [GS,.slice CY,.slice Bu,IT]):TlO:=fW prog uP (AV na) f46 .bool 4 3 [GS,.slice CY,.slice Bu,IT] [IT,.bool] tk y
theorem AFw(tk:AE AH)(y:AM [GS,.slice CY,.slice Bu,IT]):otl tk y=fWN prog uP (AV na) f46 .bool 4 3 [GS,.slice CY,.slice Bu,IT] [IT,.bool] AU tk y:=AL
theorem AFx(N:AB)(t:Bl)(bk:AE Bc)(ds:AE Ai)(a:AA)(tk:AE AH):fWN prog uP (AV na) f46 .bool 4 3 [GS,.slice CY,.slice Bu,IT] [IT,.bool] N tk (t,bk,ds,a,())=bif nY t==503 then AC (tk,a,AD,())else htl N t bk ds tk a:=by kernel_rfl
theorem xL(n:AB)(t:Bl)(bk:AE Bc)(ds:AE Ai)(tk:AE AH)(p:AA):htl (n+1) t bk ds tk p=dr t bk ds tk p (htl n t bk ds tk (p+1)):=by kernel_rfl
theorem AKy{t:Bl}{bk:AE Bc}{ds:AE Ai}{tk:AE AH}(u:bk.length<=1000)(v:tk.length=bk.length)(hd:ds.length+1=bk.length)(e:V0 t bk ds):
  ∀(r p n:AB),bk.length-p=r->r<n->htl n t bk ds tk (p:AA)=AC (U8 t bk ds tk r p):=by
 intro r
 induction r with
 |zero=>
  intro p n k m;obtain⟨n,rfl⟩:∃q,n=q+1:=⟨n-1,by omega⟩
  rw[xL];unfold dr;rw[Bm (by omega)];rfl
 |succ r o=>
  intro p n k m;obtain⟨n,rfl⟩:∃q,n=q+1:=⟨n-1,by omega⟩
  have c:=o (p+1) n (by omega) (by omega);simp only[Dz,Fb]at c;have a:A4 .i64 ((p:AA)+1):=AZ.2 ⟨by omega,by omega⟩;rw[xL,c];unfold dr;rw[nZ];rw[Bn (by omega),show(p:AA).toNat=p from AL,An a];cases f:E0 t.1
  ·have b:=e.2 f p (by omega);have g:∀x:TlO,gd (Oa t (C5 bk p) HX::EV (p:AA) bk.length) x=x:=λx=>(BG b).trans ((BQ (λl=>gd l x) (Ce _).symm).trans ((GR (by omega) [] x).trans (xG x)))
   rw[xF,xF,g,An a,g];cases HG t (C5 bk p) HX<;>rfl
  ·rw[xT,xT];by_cases h:0<p
   ·obtain⟨q,rfl⟩:∃q,p=q+1:=⟨p-1,by omega⟩
    have s:((q+1:AB):AA)-1=(q:AA):=by omega
    have b:=e.1 f q (by omega);have d:A4 .i64 (q:AA):=AZ.2 ⟨by omega,by omega⟩;have i:∀x:TlO,gd (EV ((q+1:AB):AA) tk.length) x=x:=λx=>(BQ (λl=>gd l x) (Ce _).symm).trans ((GR (by omega) [] x).trans (xG x))
    have j:∀x:TlO,gd (Oa t (C5 bk q) (P1 ds q)::(EV (q:AA) ds.length++(AG (A4 .i64 (q:AA))::(EV (q:AA) bk.length++(AG (A4 .i64 (q:AA))::EV ((q+1:AB):AA) tk.length))))) x=x:=λx=>by
     rw[BG b,GR (by omega),An d,GR (by omega),An d,i]
    rw[Bn (by omega),BK h,Cz,s,show(q:AA).toNat=q from AL,bq,An a,i,GR (by omega),j,j];show(bif tk.getD (q+1) AK then _ else _)=_;cases tk.getD (q+1) AK<;>cases HG t (C5 bk q) (P1 ds q)<;>rfl
   ·rw[Bm (by omega),BP h,Bool.false_and,xF,An a,xG]
theorem AFy:VC 46 uO:=(AL9 (sh:=AV na) (d:=((0:AA),AK,())) (Cb (l:=[(36,oP),(17,ACP)]) (o:=[]) ⟨xg,AGt,A3⟩ trivial) Al rfl func46 (by kernel_rfl) (by decide)).nice λtk ⟨t,bk,ds,a,()⟩ h=>by
 have h:AFv t bk ds a tk:= @BL _ (PI _) h;obtain⟨b,c,e,f,g⟩:=h;show otl tk (t,bk,ds,a,())=AC (Z0 t bk ds a tk);obtain⟨n,rfl⟩:∃n:AB,a=(n:AA):=Int.eq_ofNat_of_zero_le b;rw[AFw,AFx];unfold Z0;cases nY t==503
 ·rw[xF,xF,AKy c e f g (bk.length-n) n AU rfl (by unfold AU;omega)];rfl
 ·rfl
end Go.Proofs.YtkgejlchafionaaGreatDoor
namespace Go.Proofs.YtkgejlchafionaaGreatDoor
open Tryz
open Go Go.RowKit Go.Shelf Go.Lib
def cmW(a b:AA):AA:=if a<b then -1 else if a>b then 1 else 0
theorem xM(n:AA)(w:AN):BU prog 81 #[.int .i64 n] w λe w'=>e=.returned (.bool AK)/\w'=w:=by
 have mixed:Tryz.prog.follows .mixedOrders=true:=by kernel_rfl
 go_enter func81,ntmps81
 go_wp2
 go_ret
 refine⟨?_,rfl⟩;simp
set_option maxHeartbeats 4000000 in
theorem AFz(x y:AA)(w:AN):BU prog 45 #[.int .i64 x,.int .i64 y] w λe w'=>e=.returned (.int .i64 (cmW x y))/\w'=w:=by
 have mixed:Tryz.prog.follows .mixedOrders=true:=by kernel_rfl
 have d:∀args w,(FO 81 args).run prog w=.ok (.enter 81 args) w:=enters_of func81 (by kernel_rfl) rfl;have b:=λw=>xM x w
 have c:=λw=>xM y w
 unfold cmW
 go_enter func45,ntmps45
 by_cases a:x<y
 ·rw[Ae a]
  go_wp2_with (go_at_fn 81;first|(refine(b _).mono ?_;rintro e w' ⟨rfl,rfl⟩)|(refine(c _).mono ?_;rintro e w' ⟨rfl,rfl⟩))
  go_ret
  exact⟨rfl,rfl⟩
 ·rw[AY a];by_cases H3:x>y
  ·rw[Ae H3]
   go_wp2_with (go_at_fn 81;first|(refine(b _).mono ?_;rintro e w' ⟨rfl,rfl⟩)|(refine(c _).mono ?_;rintro e w' ⟨rfl,rfl⟩))
   go_ret
   exact⟨rfl,rfl⟩
  ·rw[AY H3]
   go_wp2_with (go_at_fn 81;first|(refine(b _).mono ?_;rintro e w' ⟨rfl,rfl⟩)|(refine(c _).mono ?_;rintro e w' ⟨rfl,rfl⟩))
   go_ret
   exact⟨rfl,rfl⟩
set_option maxHeartbeats 4000000 in
theorem AF0(a b n c B o B2 d:AB)(x y:AA)(W:AN)(k:a<n)(l:b<n)(f:W.cell? ⟨B,o,AF⟩=AC (.slice (AC ⟨B2,d,AF⟩) n c))(m:W.cell? ⟨B2,d+a*15+11,AF⟩=AC (.int .i64 x))(p:W.cell? ⟨B2,d+b*15+11,AF⟩=AC (.int .i64 y)):
  BU prog 44 #[.int .i64 a,.int .i64 b,.pointer (AC ⟨B,o,AF⟩)] W λe w'=>e=.returned (.int .i64 (cmW x y))/\∃q,w'=W.drewN q:=by
 have mixed:Tryz.prog.follows .mixedOrders=true:=by kernel_rfl
 have g:∀args w,(FO 45 args).run prog w=.ok (.enter 45 args) w:=enters_of func45 (by kernel_rfl) rfl;have h:=λw=>AFz x y w
 have i:(a:AA)<(n:AA):=by omega
 have j:(b:AA)<(n:AA):=by omega
 go_enter func44,ntmps44
 go_wp2_with fail
 go_quiet (first|(go_at_fn 45;refine Calls.quiet_of_same (h _)))
 go_wp2
 go_ret
 exact⟨rfl,_,rfl⟩
end Go.Proofs.YtkgejlchafionaaGreatDoor
namespace Nice
open Go Go.Sort
section
variable {m:AB} (e:AB->AA)
def lx(a b:AB):Prop:=e a<e b\/(e a=e b/\a<b)
theorem nb{a b c:AB}(h:lx e a b)(k:lx e b c):lx e a c:=by
 unfold lx at *;omega
def nc(x y:Fin (m+1)):AH:=AG (e x.val<e y.val)
theorem uQ{α : Type}[sF α](d : Aa α)(i j k : AB)(c : i < d.size)(e : j < d.size) : (swp d i j)[k]! = if k = j then d[i]! else if k = i then d[j]! else d[k]! := by
  unfold swp
  by_cases a : k = j
  · subst a
    rw [Ae rfl, getElem!_def, Ig (by rw [GK]; exact e)]
  · rw [AY a]
    by_cases b : k = i
    · subst b
      rw [Ae rfl, getElem!_def, FG (ES a), Ig c]
    · rw [AY b, getElem!_def, FG (ES a), FG (ES b), ← getElem!_def]
theorem ABs{α:Type}[sF α](d:Aa α)(i j:AB):(swp d i j).size=d.size:=by
 unfold swp;rw[GK,GK]
structure SI(N i:AB)(d:Aa (Fin (m+1))):Prop where
 sz:d.size=N
 srt:∀p q,p<q->q<i->lx e (d[p]!).val (d[q]!).val
 tl:∀q,i<=q->q<N->(d[q]!).val=q
 bd:∀p,p<i->(d[p]!).val<i
 al:∀v,v<N->∃p,p<N/\(d[p]!).val=v
structure SJ(N i j:AB)(d:Aa (Fin (m+1))):Prop where
 sz:d.size=N
 lt:i<N
 le:j<=i
 atj:(d[j]!).val=i
 srt:∀p q,p<q->q<=i->p≠j->q≠j->lx e (d[p]!).val (d[q]!).val
 up:∀q,j<q->q<=i->e i<e (d[q]!).val
 lo:∀p,p<=i->p≠j->(d[p]!).val<i
 tl:∀q,i<q->q<N->(d[q]!).val=q
 al:∀v,v<N->∃p,p<N/\(d[p]!).val=v
variable {e}
theorem SJ.stop{N i j:AB}{d:Aa (Fin (m+1))}(h:SJ e N i j d)(o:j=0\/e (d[j-1]!).val<=e i):SI e N (i+1) d:=by
 have c:∀p,p<j->lx e (d[p]!).val i:=λp k=>by
  have l:=h.le;have g:lx e (d[j-1]!).val i:=by
   have:=h.lo (j-1) (by omega) (by omega);unfold lx;omega
  by_cases a:p=j-1
  ·subst a;exact g
  ·exact nb e (h.srt p (j-1) (by omega) (by omega) (by omega) (by omega)) g
 refine⟨h.sz,λp q b r=> ?_,λq g n=>h.tl q (by omega) n,λp k=> ?_,h.al⟩
 ·by_cases f:q=j
  ·subst f;rw[h.atj];exact c p b
  ·by_cases a:p=j
   ·subst a;rw[h.atj];exact .inl (h.up q b (by omega))
   ·exact h.srt p q b (by omega) a f
 ·by_cases a:p=j
  ·subst a;rw[h.atj];omega
  ·have:=h.lo p (by omega) a;omega
theorem SJ.step{N i j : AB}{d : Aa (Fin (m + 1))}(h : SJ e N i (j + 1) d)(w : e i < e (d[j]!).val) : SJ e N i j (swp d (j + 1) j) := by
  have x := h.le
  have o := h.lt
  have r := h.sz
  have g : ∀k, (swp d (j + 1) j)[k]! = if k = j then d[j + 1]! else if k = j + 1 then d[j]! else d[k]! := fun k => uQ d (j + 1) j k (by omega) (by omega)
  have t : (swp d (j + 1) j)[j]! = d[j + 1]! := by rw [g, Ae rfl]
  have gs : (swp d (j + 1) j)[j + 1]! = d[j]! := by rw [g, AY (by omega), Ae rfl]
  have go : ∀k, k ≠ j → k ≠ j + 1 → (swp d (j + 1) j)[k]! = d[k]! := fun k a b => by rw [g, AY a, AY b]
  refine⟨by rw [ABs]; exact r, o, by omega, by rw [t]; exact h.atj, fun p q s u n l => ?_, fun q a b => ?_, fun p a b => ?_, fun q a b => by rw [go q (by omega) (by omega)]; exact h.tl q a b, fun v y => ?_⟩
  · by_cases a : p = j + 1
    · subst a
      rw [gs, go q l (by omega)]
      exact h.srt j q (by omega) u (by omega) (by omega)
    · by_cases b : q = j + 1
      · subst b
        rw [gs, go p n a]
        exact h.srt p j (by omega) (by omega) a (by omega)
      · rw [go p n a, go q l b]
        exact h.srt p q s u a b
  · by_cases f : q = j + 1
    · subst f
      rw [gs]; exact w
    · rw [go q (by omega) f]
      exact h.up q (by omega) b
  · by_cases f : p = j + 1
    · subst f
      rw [gs]; exact h.lo j (by omega) (by omega)
    · rw [go p b f]; exact h.lo p a f
  · obtain⟨p, n, c⟩ := h.al v y
    by_cases a : p = j
    · subst a
      exact⟨p + 1, by omega, by rw [gs]; exact c⟩
    · by_cases b : p = j + 1
      · subst b
        exact⟨j, by omega, by rw [t]; exact c⟩
      · exact⟨p, n, by rw [go p a b]; exact c⟩
theorem Z1{N i:AB}:∀(j:AB) (d:Aa (Fin (m+1))),SJ e N i j d->SI e N (i+1) (sD (nc e) 0 j d)
 |0,d,h=>by
  unfold sD;exact h.stop (.inl rfl)
 |j+1,d,h=>by
  unfold sD;by_cases a:e i<e (d[j]!).val
  ·rw[Ae (by unfold nc;rw[h.atj,BK a,BK (Nat.succ_pos j)];rfl)];exact Z1 j _ (h.step a)
  ·rw[AY (by unfold nc;rw[h.atj,BP a,Gl];exact Bool.false_ne_true)];exact h.stop (.inr (by show e (d[j]!).val<=_;omega))
theorem Z2{N:AB}:∀(r i:AB) (d:Aa (Fin (m+1))),i+r=N->SI e N i d->SI e N N (sE (nc e) 0 N i d)
 |0,i,d,c,h=>by
  unfold sE;rw[AY (by omega)];have:i=N:=by omega
  subst this;exact h
 |r+1,i,d,c,h=>by
  unfold sE;rw[Ae (by omega)];refine Z2 r (i+1) _ (by omega) (Z1 i d ⟨h.sz,by omega,Ak _,h.tl i (Ak _) (by omega),λp q a b f g=>h.srt p q a (by omega),λq a b=>by omega,λp a b=>h.bd p (by omega),λq a b=>h.tl q (by omega) b,h.al⟩)
end
def NR(n:AB)(e:AB->AA):AE AA:=match n with
 |0=>[]
 |m+1=>(insertionSort (nc e) (Kx (n:=m+1) id) 0 (m+1)).toList.map λx=>(x.val:AA)
theorem ON{m:AB}(q:AB)(h:q<m+1):((Kx (n:=m+1) id)[q]!).val=q:=by
 rw[getElem!_def,Array.getElem?_ofFn,dif_pos h];rfl
theorem Z3(m:AB)(e:AB->AA):SI e (m+1) (m+1) (insertionSort (nc e) (Kx (n:=m+1) id) 0 (m+1)):=by
 unfold insertionSort;refine Z2 m 1 _ (by omega) ⟨by rw[zY],λp q c a=>by omega,λq c a=>ON q a,λp d=> ?_,λv b=>⟨v,b,ON v b⟩⟩;rw[ON p (by omega)];exact d
theorem Xy(n:AB)(e:AB->AA):∃o:AB->AB,(NR n e).length=n/\(∀p,p<n->(NR n e)[p]?=AC ((o p:AB):AA)/\o p<n)/\(∀p q,p<q->q<n->lx e (o p) (o q))/\∀v,v<n->∃p,p<n/\o p=v:=by
 cases n with
 |zero=>exact⟨λ_=>0,rfl,λp h=>by omega,λp q _ h=>by omega,λv h=>by omega⟩
 |succ m=>
  have h:=Z3 m e;generalize hd:insertionSort (nc e) (Kx (n:=m+1) id) 0 (m+1)=d at h;have b:NR (m+1) e=d.toList.map λx=>(x.val:AA):=by rw[<-hd];rfl
  have a:=h.sz;refine⟨λp=>(d[p]!).val,by rw[b,Eg,D0];exact a,λp c=>⟨?_,?_⟩,λp q f g=>h.srt p q f g,h.al⟩
  ·rw[b,Fe,Bf];show Option.map _ _=AC (((d[p]!).val:AB):AA);rw[getElem!_def,CX (by omega)];rfl
  ·exact h.bd p c
end Nice
namespace Go.Proofs
open Go.Shelf
def Tryz.insS_ren:I5:=⟨λ|20=>123|n=>n,λ|22=>59|24=>3|25=>104|n=>n,λ|n=>n⟩
theorem Tryz.laysInsS:AJT Tryz.prog Tryz.insS_ren:={
 mixed:=by kernel_rfl
 f20:=⟨Tryz.f123.name,by kernel_rfl,Tryz.func123.trans (BQ AC (by kernel_rfl))⟩
 t0:=Tryz.underlying0
 a0:=Tryz.isAgg0
 z0:=Tryz.sizeOf0
 v0:=Tryz.zeroValue0
 t3:=Tryz.underlying3
 a3:=Tryz.isAgg3
 z3:=Tryz.sizeOf3
 v3:=Tryz.zeroValue3
 t4:=Tryz.underlying4
 a4:=Tryz.isAgg4
 z4:=Tryz.sizeOf4
 v4:=Tryz.zeroValue4
 t22:=Tryz.underlying59
 a22:=Tryz.isAgg59
 z22:=Tryz.sizeOf59
 v22:=Tryz.zeroValue59
 a24:=Tryz.isAgg3
 z24:=Tryz.sizeOf3
 t25:=Tryz.underlying104
 a25:=Tryz.isAgg104
 z25:=Tryz.sizeOf104
 v25:=Tryz.zeroValue104}
end Go.Proofs
namespace Nice
abbrev AF1:Ty:=.clo 44 (.pair (.ref (.slice GS)) .unit)
def DI(l:AE Bl)(k:AB):AA:=(l.getD k (GS).dflt).2.2.1
def Gn(n:AB):AE AA:=(List.range n).map λ(k:AB)=>(k:AA)
def gU:VSpec:=⟨IT,3,0,[AF1],[],λa y=>AG (a=Gn y.1.1.length)&&AG (y.1.1.length<=19),λ_ y=>(NR y.1.1.length (DI y.1.1),())⟩
end Nice
namespace Go.Proofs.YtkgejlchafionaaGreatDoor
open Tryz
open Nice Go.RowKit Go.Shelf Go.Lib Go.Sort
theorem SA{α:Type}[sF α](enc:α->AJ)(w:AN)(blk off m:AB)(dk:Aa α)(os:Aa Obj){x:AB}(h:x<w.heap.size):
  (sortWorld enc w blk off m dk os).heap[x]?=if blk=x then(w.heap[x]?).map (onCells (M4 enc off dk))else w.heap[x]?:=by
 unfold sortWorld;rw[heap_grow_old _ _ (by rw[zZ];exact h)];show(World.heap (mapBlock _ _ _))[x]?=_;unfold mapBlock;rw[Array.getElem?_modify];rfl
set_option maxHeartbeats 4000000 in
theorem Z4(p:AP Addr)(n c:AB)(fv:AJ)(Q:AN->Prop)(w:AN)(b:n<=19)(d:BU prog 123 #[.slice p n c,.int .i64 (0:AB),.int .i64 n,fv] w λe w'=>e=.returned (.tuple #[])/\Q w'):
  BU prog 80 #[.slice p n c,.int .i64 n,fv] w λe w'=>e=.returned (.tuple #[])/\Q w':=by
 have mixed:Tryz.prog.follows .mixedOrders=true:=by kernel_rfl
 have a:∀args w,(FO 123 args).run prog w=.ok (.enter 123 args) w:=enters_of func123 (by kernel_rfl) rfl;have f:¬(20:AA)<=(n:AA):=by omega
 have g:¬(20:AA)<(n:AA):=by omega
 go_enter func80,ntmps80
 go_wp2
 refine sC 1 ?_;rw[sB]
 go_wp2_with (go_at_fn 123;refine d.mono ?_;rintro e w' ⟨rfl,h⟩)
 refine sC 1 ?_;rw[sB]
 go_wp2
 go_end0
 exact⟨rfl,h⟩
set_option maxHeartbeats 4000000 in
theorem AOL(p:AP Addr)(n c:AB)(fv:AJ)(Q:AN->Prop)(w:AN)(a:BU prog 80 #[.slice p n c,.int .i64 n,fv] w λe w'=>e=.returned (.tuple #[])/\Q w'):
  BU prog 43 #[.slice p n c,fv] w λe w'=>e=.returned (.tuple #[])/\Q w':=by
 have mixed:Tryz.prog.follows .mixedOrders=true:=by kernel_rfl
 have b:∀args w,(FO 80 args).run prog w=.ok (.enter 80 args) w:=enters_of func80 (by kernel_rfl) rfl
 go_enter func43,ntmps43
 go_wp2_with (go_at_fn 80;refine a.mono ?_;rintro e w' ⟨rfl,d⟩)
 go_end0
 exact⟨rfl,d⟩
set_option maxHeartbeats 4000000 in
theorem uR(p:AP Addr)(c:AB)(fv:AJ)(w:AN):BU prog 123 #[.slice p 0 c,.int .i64 (0:AB),.int .i64 (0:AB),fv] w λe w'=>e=.returned (.tuple #[])/\w'=w:=by
 have mixed:Tryz.prog.follows .mixedOrders=true:=by kernel_rfl
 go_enter func123,ntmps123
 go_wp2
 refine sC 1 ?_;rw[sB]
 go_wp2
 go_end0
 exact⟨rfl,rfl⟩
theorem uS{fz:AB->AP (Aa AJ)}{t:Bl}{c:AE AJ}(h:Cw fz GS t c):c[11]?=AC (.int .i64 t.2.2.1):=by
 obtain⟨d,g,rfl,e,c1,c2,rfl,a,c3,c4,rfl,b, -⟩:=h;have f:d.length=10:=(Lh _ _ _ e).1;have a:c1=[.int .i64 t.2.1]:=a;have b:c3=[.int .i64 t.2.2.1]:=b;subst a b;rw[Fw (by omega),f];rfl
theorem ABt{m:AB}(E:AB->AA):(ltOf λx y:Fin (m+1)=>cmW (E x.val) (E y.val))=nc E:=by
 funext x y;unfold ltOf nc cmW;show AG ((if E x.val<E y.val then(-1:AA)else if E x.val>E y.val then 1 else 0)<0)=AG (E x.val<E y.val);by_cases h:E x.val<E y.val
 ·rw[Ae h,BK h];rfl
 ·rw[AY h,BP h];by_cases k:E x.val>E y.val
  ·rw[Ae k];rfl
  ·rw[AY k];rfl
theorem Ll{n j:AB}(h:j<n):(Gn n)[j]?=AC (j:AA):=by
 unfold Gn;rw[Fe,List.getElem?_range h];rfl
theorem ABu:VC 43 gU:=by
 refine λfz r w (T:AE AA) args (y:AM [AF1]) hfz hgl hh X hfo hrd s=> ?_
 obtain⟨⟨l,⟨⟩⟩,⟨⟩⟩:=y;have s:(AG (T=Gn l.length)&&AG (l.length<=19))=true:=s;simp only[A0,A6]at s;obtain⟨Y,h19⟩:=s;have J:T.length=l.length:=by rw[Y];unfold Gn;rw[Eg,RQ]
 obtain⟨v,Z,rfl,hv,hr⟩:=hrd;obtain rfl:Z=[]:=hr;rcases hv with⟨h, -⟩|⟨-,us,e1,c1,c2,rfl,hc,hu⟩
 ·cases h
 obtain rfl:c2=[]:=hu;have e1:=(FP e1).1;obtain⟨B,o,K,rfl,f1,fit1,g⟩:=hc;subst e1;have g:Cw fz (.slice GS) l ((K.toList.drop o).take 1):=g;have hh2:BI prog (λ_=>r) 0 w (.vec IT T 3):=hh;obtain⟨u,z,hvec⟩:=hh2;show BU prog 43 #[r.sv,.func (.func 44) #[] #[.pointer (AC ⟨B,o,AF⟩)]] w λev w'=>∃vs,ev=.returned (Er vs)/\CN (λ_=>AF) [] () vs/\BI prog (λ_=>r) 0 w' (.vec IT (NR l.length (DI l)) 3)/\w.heap.size<=w'.heap.size/\w'.os=w.os/\w'.output=w.output/\∀b,b<w.heap.size->¬r.Own b->w'.heap[b]?=w.heap[b]?
 have A:∀(p:AP Addr) (c:AB) (fv:AJ),BU prog 43 #[.slice p (0:AB) c,fv] w λe w'=>e=.returned (.tuple #[])/\w'=w:=λp c fv=>AOL p 0 c fv (λw'=>w'=w) w (Z4 p 0 c fv (λw'=>w'=w) w (by omega) (uR p c fv w))
 rcases hvec with⟨U,L,q,d⟩|⟨U,i,cap,C,fr,d,E,a,f,t,N,P,Q⟩
 ·have h0:l.length=0:=by rw[<-J,L];rfl
  have d:r.sv=.slice q 0 0:=d;rw[d,h0];refine(A q 0 _).mono ?_;rintro e w' ⟨rfl,rfl⟩;exact⟨[],rfl,rfl,⟨u,z,.inl ⟨U,rfl,q,d⟩⟩,Ak _,rfl,rfl,λ_ _ _=>rfl⟩
 ·have d:r.sv=.slice (AC ⟨r.blk,r.base,AF⟩) T.length cap:=d;have a:w.heap[r.blk]?=AC (.cells C 3 fr):=a;have E:T.length<=cap:=E;have f:r.base+r.room=C.size:=f;have t:cap*1<=r.room:=t;have Q:Et r.fz IT T (C.toList.drop r.base):=Q;rw[d,J];rcases hn:l.length with _|m
  ·refine(A _ cap _).mono ?_;rintro e w' ⟨rfl,rfl⟩;refine⟨[],rfl,rfl,⟨u,z,.inr ⟨U,i,cap,C,fr,?_,Cx _,a,f,t,N,P,λk x L=>by cases L⟩⟩,Ak _,rfl,rfl,λ_ _ _=>rfl⟩;show r.sv=_;rw[d,J,hn];rfl
  ·have O:=BX a;have M:(Kx (n:=m+1) id:Aa (Fin (m+1))).size=m+1:=zY;let enc:Fin (m+1)->AJ:=λx=>.int .i64 (x.val:AB)
   have hC:∀j,j<m+1->C[r.base+j]?=AC (.int .i64 (j:AB)):=λj V=>by
    obtain⟨h1,h2⟩:=Q j (j:AA) (by rw[Y];exact Ll (by omega));have h2:((C.toList.drop r.base).drop (j*1)).take 1=[.int .i64 (j:AA)]:=h2;have h3:(((C.toList.drop r.base).drop (j*1)).take 1)[0]?=AC (.int .i64 (j:AA)):=by rw[h2];rfl
    rw[CB,Ae (by omega),CA,CA,Bf,Gd,FK]at h3;exact h3
   have hHo:Holds enc w r.blk r.base (Kx (n:=m+1) id):=λj V=>by
    rw[M]at V;have hv:=ON j V;refine⟨?_,?_⟩
    ·simp only[C0,a,Df,CI,BR];rw[hC j V];show AC (Value.int .i64 (j:AB))=AC (.int .i64 (((Kx (n:=m+1) id)[j]!).val:AB));rw[hv]
    ·have:=P (r.base+j) (by have:=E;omega);simp only[World.frozen?,a];simpa using this
   have hone:OneCell enc:=λx=>rfl
   have hneB:∀b c,fz b=AC c->r.blk≠b:=λb c h e=>hfo b c h ⟨U,e⟩
   have F:∀(W:AB) (dk:Aa (Fin (m+1))) (os:Aa Obj) b c,fz b=AC c->∃el fr',(sortWorld enc w r.blk r.base W dk os).heap[b]?=AC (.cells c el fr'):=λW dk os b c h=>by
    obtain⟨el,fr',R⟩:=hfz b c h;exact⟨el,fr',by rw[SA _ _ _ _ _ _ _ (BX R),AY (hneB b c h)];exact R⟩
   obtain⟨sv,hsv1,hs2⟩:=g;rcases hs2 with⟨-,hl⟩|⟨b2,o2,k2,G,rfl,f2,fit2,hk2,hel⟩
   ·rw[hl]at hn;cases hn
   have hbox:K[o]?=AC (.slice (AC ⟨b2,o2,AF⟩) l.length k2):=by
    have h3:((K.toList.drop o).take 1)[0]?=AC (.slice (AC ⟨b2,o2,AF⟩) l.length k2):=by rw[hsv1];rfl
    rw[CB,Ae (by omega),CA,Bf,FK]at h3;exact h3
   have H:∀k,k<l.length->G[o2+k*15+11]?=AC (.int .i64 (DI l k)):=λk hk=>by
    have h1:=uS (hel k _ (B4 hk));have h1:(((G.toList.drop (o2+k*15)).take 15)[11]?)=AC (.int .i64 (l[k]).2.2.1):=h1;rw[CB,Ae (by omega),CA,Bf]at h1;rw[h1];unfold DI;rw[Bg,B4 hk];rfl
   have hcmp:CmpLays1 prog 44 #[.pointer (AC ⟨B,o,AF⟩)] enc (λx y=>cmW (DI l x.val) (DI l y.val)) r.blk r.base (Kx (n:=m+1) id:Aa (Fin (m+1))).size w:=λW os dk hs x y=>by
    obtain⟨el1,fr1,g1⟩:=F W dk os B K f1;obtain⟨el2,fr2,g2⟩:=F W dk os b2 G f2;have:=AF0 x.val y.val l.length k2 B o b2 o2 (DI l x.val) (DI l y.val) (sortWorld enc w r.blk r.base W dk os) (by have:=x.isLt;omega) (by have:=y.isLt;omega)
     (by simp only[C0,g1,Df,CI,BR];exact hbox)
     (by simp only[C0,g2,Df,CI,BR];exact H _ (by have:=x.isLt;omega))
     (by simp only[C0,g2,Df,CI,BR];exact H _ (by have:=y.isLt;omega))
    refine this.mono ?_;rintro e w' ⟨rfl,q,rfl⟩;exact⟨rfl,q,#[],(grow_empty _).symm⟩
   have eg:∀args w,(FO 44 args).run prog w=.ok (.enter 44 args) w:=enters_of func44 (by kernel_rfl) rfl;have I:=Any.insertionSortCmpFunc_s Tryz.laysInsS enc (λx y=>cmW (DI l x.val) (DI l y.val)) 44 #[.pointer (AC ⟨B,o,AF⟩)] r.blk r.base cap 0 (m+1) (Kx (n:=m+1) id) (Kx (n:=m+1) id) w w eg hcmp ⟨hone,hHo,O⟩ rfl (SW.start hHo) (Cx _) (by rw[M];exact Ak _) (by rw[M];omega)
   rw[ABt,M]at I;have hOK:=Z3 m (DI l);have hS:NR (m+1) (DI l)=(insertionSort (nc (DI l)) (Kx (n:=m+1) id) 0 (m+1)).toList.map λx=>(x.val:AA):=AL
   generalize insertionSort (nc (DI l)) (Kx (n:=m+1) id) 0 (m+1)=D at I hOK hS;have hDs:=hOK.sz;refine(AOL _ (m+1) cap _ _ w (Z4 _ (m+1) cap _ _ w (by omega) I)).mono ?_;rintro e w' ⟨rfl,n,os,rfl⟩;have hP:∀j,j<m+1->(M4 enc r.base D C)[r.base+j]?=AC (.int .i64 ((D[j]!).val:AB)):=λj V=>by
    unfold M4;rw[Array.getElem?_mapIdx,hC j V];show AC (if _ then _ else _)=_;rw[Ae ⟨by omega,by omega⟩,show r.base+j-r.base=j by omega]
   have S:(M4 enc r.base D C).size=C.size:=by unfold M4;rw[Array.size_mapIdx]
   have g:(NR (m+1) (DI l)).length=m+1:=by rw[hS,Eg,D0];exact hDs
   refine⟨[],rfl,rfl,⟨u,λb c R=> ?_,.inr ⟨U,i,cap,M4 enc r.base D C,fr,?_,?_,?_,by rw[S];exact f,t,by rw[S];exact N,by rw[S];exact P,λk x L=> ?_⟩⟩,?_,rfl,rfl,λb R X=> ?_⟩
   ·obtain⟨el,fr',h⟩:=z b c R;refine⟨el,fr',?_⟩;rw[SA _ _ _ _ _ _ _ (BX h),AY (λe=>i ⟨c,by rw[e];exact R⟩)];exact h
   ·show r.sv=.slice _ (NR (m+1) (DI l)).length cap;rw[d,J,hn,g]
   ·show(NR (m+1) (DI l)).length<=cap;rw[g];omega
   ·show(sortWorld enc w r.blk r.base n D os).heap[r.blk]?=_;rw[SA _ _ _ _ _ _ _ O,Ae rfl,a];rfl
   ·have hk:k<m+1:=by rw[<-g];exact GP L
    rw[hS,Fe,Bf,CX (by omega)]at L;have L:((D[k]'(by omega)).val:AA)=x:=Dw L;have hg:(D[k]!).val=(D[k]'(by omega)).val:=by rw[getElem!_pos D k (by omega)]
    have hpk:=hP k hk;have hlt:=GP (l:=(M4 enc r.base D C).toList) (by rw[Bf];exact hpk);refine⟨by show k*1+1<=((M4 enc r.base D C).toList.drop r.base).length;rw[CC];omega,?_⟩;show(((M4 enc r.base D C).toList.drop r.base).drop (k*1)).take 1=[.int .i64 x]
    rw[List.drop_drop,Gd,Ef hlt,List.take_succ_cons,List.take_zero];have h4:(M4 enc r.base D C).toList[r.base+k]?=AC (.int .i64 x):=by rw[Bf,hpk,hg,L]
    rw[B4 hlt]at h4;rw[Dw h4]
   ·show w.heap.size<=(sortWorld enc w r.blk r.base n D os).heap.size;unfold sortWorld;rw[size_grow,zZ];show w.heap.size<=w.heap.size+_;omega
   ·show(sortWorld enc w r.blk r.base n D os).heap[b]?=_;rw[SA _ _ _ _ _ _ _ R,AY (λe=>X ⟨U,e⟩)]
end Go.Proofs.YtkgejlchafionaaGreatDoor
namespace Nice
abbrev du:=AP (AM [.slice IT,.bool])
abbrev B5(l:AE Bl)(i:AB):Bl:=l.getD i (GS).dflt
def KL:Bc:=(0,[],[],(0,0,0,0,0,()),())
def nf(bk:AE Bc)(d:Ai):Bc:=(Ez (C5 bk (bk.length-1)) d).1
def FX:AE Bc->AE Ai->AE Bc
 |bk,[]=>bk
 |bk,d::r=>FX (bk++[nf bk d]) r
def ng:AE Bc->AE Ai->Prop
 |_,[]=>True
 |bk,d::r=>Mg (C5 bk (bk.length-1)) d=AD/\ng (bk++[nf bk d]) r
theorem OO:∀(ds:AE Ai) (bk:AE Bc),(FX bk ds).length=bk.length+ds.length
 |[],_=>rfl
 |d::r,bk=>by
  show(FX (bk++[nf bk d]) r).length=_;rw[OO r,BA,B7];simp only[B7,List.length_nil];omega
def gMk(n:AA):AE AH:=[AG (dG n),AG (n=n)]
theorem dv{α:Type}{n:AA}(h:n<=1099511627776)(a:AE AH)(x:AP α):gd (gMk n++a) x=gd a x:=by
 show gd (AG (dG n)::AG (n=n)::a) x=_;rw[An (show dG n from h),An rfl]
theorem Ki{α:Type}{i L:AB}(h:i<L)(x:AP α):gd (EV (i:AA) L) x=x:=
 (BQ (λl=>gd l x) (Ce _).symm).trans ((GR h [] x).trans (xG x))
def ps0(bk:AE Bc)(a:AE Ai)(n i:AA)(nx:AE Bc->du)(b:du):du:=
 bif AG (i<n)then gd (AG (A4 .i64 (i+1))::(AG ((2*(bk.length+[(Ez (C5 bk ((bk.length:AA)-1).toNat) (P1 a i.toNat)).1].length)+400)*96<=281474976710656)::(Mg (C5 bk ((bk.length:AA)-1).toNat) (P1 a i.toNat)::(EV ((bk.length:AA)-1) bk.length++(AG (A4 .i64 ((bk.length:AA)-1))::EV i a.length)))))
  (nx (bk++[(Ez (C5 bk ((bk.length:AA)-1).toNat) (P1 a i.toNat)).1]))
 else b
def ps1(od:AE AA)(n i:AA)(nx:AE AA->du)(a:du):du:=
 bif AG (i<n)then gd (AG (A4 .i64 (i+1))::EV i od.length) (nx (od.set i.toNat i))else a
def ps3(l:AE Bl)(out b:AE AA)(i lo c a:AA)(nx:AA->du)(d:du):du:=
 bif AG (a<c)then gd (EV a b.length) (bif AG ((B5 l (b.getD a.toNat (IT).dflt:AA).toNat).2.2.1<(B5 l i.toNat).2.1)then
     gd (AG (A4 .i64 (a+1))::(EV (b.getD a.toNat (IT).dflt) out.length++(EV i l.length++EV (b.getD a.toNat (IT).dflt) l.length))) (nx (max lo (out.getD (b.getD a.toNat (IT).dflt:AA).toNat (IT).dflt)))
  else gd (AG (A4 .i64 (a+1))::(EV i l.length++EV (b.getD a.toNat (IT).dflt) l.length)) (nx lo))
 else d
abbrev K4(l:AE Bl)(ds:AE Ai)(bk:AE Bc)(i lo:AA)(tk:AE AH):AE AH×AM [IT,.bool]:=Z0 (B5 l i.toNat) bk ds lo tk
abbrev nh(l:AE Bl)(ds:AE Ai)(bk:AE Bc)(i lo:AA)(tk:AE AH):AH:=uO.pre tk (B5 l i.toNat,bk,ds,lo,())
def FY(l:AE Bl)(out:AE AA)(i:AB):AE AA->AA->AA
 |[],lo=>lo
 |j::r,lo=>FY l out i r (bif AG ((B5 l j.toNat).2.2.1<(B5 l i).2.1)then max lo (out.getD j.toNat 0)else lo)
def Xz(l:AE Bl)(ds:AE Ai)(bk:AE Bc)(od:AE AA):AB->AB->AE AA->AE AH->AM [.slice IT,.bool]
 |0,_,out,_=>(out,AD,())
 |r+1,m,out,tk=>bif (K4 l ds bk (od.getD m 0) (FY l out (od.getD m 0).toNat (od.take m) 0) tk).2.2.1 then Xz l ds bk od r (m+1) (out.set (od.getD m 0).toNat (K4 l ds bk (od.getD m 0) (FY l out (od.getD m 0).toNat (od.take m) 0) tk).2.1) (K4 l ds bk (od.getD m 0) (FY l out (od.getD m 0).toNat (od.take m) 0) tk).1 else([],AK,())
def dw(l:AE Bl)(ds:AE Ai):AM [.slice IT,.bool]:=
 Xz l ds (FX [KL] ds) (NR l.length (DI l)) l.length 0 (Hj l.length 0) (Hj (FX [KL] ds).length AK)
def ABv(l:AE Bl)(ds:AE Ai):Prop:=
 l.length<=19/\ds.length<=100/\ng [KL] ds/\∀i,i<l.length->V0 (B5 l i) (FX [KL] ds) ds
open Classical in
def kV:PSpec:=⟨[.slice GS,.slice Bu],[.slice IT,.bool],λx=>AG (ABv x.1 x.2.1),λx=>dw x.1 x.2.1⟩
theorem kW(i:AB):Gn (i+1)=Gn i++[(i:AA)]:=by
 unfold Gn;rw[List.range_succ,List.map_append];rfl
theorem OP(i:AB):(Gn i).length=i:=by
 unfold Gn;rw[Eg,RQ]
theorem ni(i r:AB):(Gn i++Hj (r+1) (0:AA)).set i (i:AA)=Gn (i+1)++Hj r 0:=by
 rw[List.set_append_right _ _ (by rw[OP];exact Ak _),OP,bY,List.replicate_succ,kW,List.append_assoc];rfl
theorem X0(t:Bl)(bk:AE Bc)(ds:AE Ai)(tk:AE AH):∀r p,(U8 t bk ds tk r p).1.length=tk.length
 |0,_=>rfl
 |r+1,p=>by
  rw[nZ];cases E0 t.1
  ·rw[xF];cases HG t (C5 bk p) HX
   ·exact X0 t bk ds tk r (p+1)
   ·rfl
  ·rw[xT];cases(AG (0<p)&&(!tk.getD p AK&&HG t (C5 bk (p-1)) (P1 ds (p-1))))
   ·exact X0 t bk ds tk r (p+1)
   ·exact PL
theorem uT(t:Bl)(bk:AE Bc)(ds:AE Ai)(lo:AA)(tk:AE AH):(Z0 t bk ds lo tk).1.length=tk.length:=by
 unfold Z0;cases nY t==503
 ·exact X0 ..
 ·rfl
theorem SB(l:AE Bl)(out:AE AA)(i:AB):∀(a:AE AA) (lo:AA),lo<=FY l out i a lo
 |[],lo=>Hh _
 |j::r,lo=>by
  refine il ?_ (SB l out i r _);cases AG ((B5 l j.toNat).2.2.1<(B5 l i).2.1)
  ·exact Hh _
  ·exact Int.le_max_left ..
end Nice
namespace Go.Proofs.YtkgejlchafionaaGreatDoor
open Tryz
open Nice
def vtT:TypeId->AP Ty:=λt=>bif Nat.beq t 28 then AC CY else tyE (Sx sb) 10 t
def AF2(l:AE (AB×PSpec))(o:AE (AB×OSpec))(v:AE (AB×VSpec)):Eng.Env:={ ACx l o v with vt:=vtT}
theorem uU{l:AE (AB×PSpec)}{o:AE (AB×OSpec)}{v:AE (AB×VSpec)}(h:Ke prog IP l)(a:QL prog IP o)(b:Uc prog IP v):(AF2 l o v).OK prog:=
 have e:=gv h a b
 ⟨e.T,e.fn,e.ext,e.sum,e.gl,e.mixed,e.spec,e.mnz,e.cmp,e.osp,e.vsp⟩
abbrev uV:Eng.Env:=AF2 [(37,Z8)] [] [(43,gU),(46,uO)]
abbrev nk:AE (AB×AE (AB×Sh)):=[(3,[(1,(.one (.dat Bu))),(2,(.obj [(.dat GS)])),(6,(.one (.vec CY 28))),(24,(.one (.dat Bu))),(25,(.one .sym)),(26,(.one .sym))]),(10,[(1,(.one (.dat Bu))),(2,(.obj [(.dat GS)])),(6,(.one (.vec CY 28))),(11,(.one (.vec IT 3))),(50,(.one .sym)),(51,(.one .sym))]),(18,[(1,(.one (.dat Bu))),(2,(.obj [(.dat GS)])),(6,(.one (.vec CY 28))),(11,(.one (.dat IT))),(13,(.one (.vec IT 3))),(14,(.one (.vec .bool 4))),(68,(.one (.same 4))),(69,(.one .sym)),(70,(.one .sym))]),(22,[(1,(.one (.dat Bu))),(2,(.obj [(.dat GS)])),(6,(.one (.vec CY 28))),(11,(.one (.dat IT))),(13,(.one (.vec IT 3))),(14,(.one (.vec .bool 4))),(68,(.one (.same 4))),(77,(.one (.dat IT))),(15,(.one .sym)),(16,(.one .sym)),(17,(.one .sym)),(69,(.one .sym)),(70,(.one .sym)),(78,(.one .sym)),(79,(.one .sym))])]
abbrev psH(k h:AB)(ds:AE Ai)(l:AE Bl)(bk:AE Bc)(s:AE (AB×AJ))(o:AE AO):du:=rH prog uV (AV nk) f19 [.slice IT,.bool] k h ([(1,dt 10),(2,.pointer (AC ⟨12,0,AF⟩)),(6,dt 13)]++s) ([.dat Bu ds,.dat GS l,.row [dt 11] 56 AK,.vec CY bk 28]++o)
def nm(k:AB)(ds:AE Ai)(l:AE Bl)(bk:AE Bc)(a:AE Ai)(n i:AA):du:=psH k 0 ds l bk [(24,dt 14),(25,sy (.int .i64 n)),(26,sy (.int .i64 i))] [.dat Bu a]
def kX(k:AB)(ds:AE Ai)(l:AE Bl)(bk:AE Bc)(od:AE AA)(n i:AA):du:=psH k 1 ds l bk [(11,dt 14),(50,sy (.int .i64 n)),(51,sy (.int .i64 i))] [.vec IT od 3]
def kY(k:AB)(ds:AE Ai)(l:AE Bl)(bk:AE Bc)(od out:AE AA)(tk:AE AH)(n m:AA):du:=psH k 2 ds l bk [(11,dt 14),(13,dt 15),(14,dt 16),(68,dt 14),(69,sy (.int .i64 n)),(70,sy (.int .i64 m))] [.dat IT od,.vec IT out 3,.vec .bool tk 4]
def np(k:AB)(ds:AE Ai)(l:AE Bl)(bk:AE Bc)(od out:AE AA)(tk:AE AH)(a:AE AA)(kk i lo n m b c:AA):du:=psH k 3 ds l bk [(11,dt 14),(13,dt 15),(14,dt 16),(68,dt 14),(77,dt 17),(15,sy (.int .i64 kk)),(16,sy (.int .i64 i)),(17,sy (.int .i64 lo)),(69,sy (.int .i64 n)),(70,sy (.int .i64 m)),(78,sy (.int .i64 b)),(79,sy (.int .i64 c))] [.dat IT od,.vec IT out 3,.vec .bool tk 4,.dat IT a]
def ops(x:AM [.slice GS,.slice Bu]):du:=fO prog uV (AV nk) f19 [.slice GS,.slice Bu] [.slice IT,.bool] x
theorem AF3(x:AM [.slice GS,.slice Bu]):ops x=Cy prog uV (AV nk) f19 [.slice GS,.slice Bu] [.slice IT,.bool] AU x:=AL
theorem AF4(N:AB)(l:AE Bl)(ds:AE Ai):Cy prog uV (AV nk) f19 [.slice GS,.slice Bu] [.slice IT,.bool] N (l,ds,())=nm N ds l [KL] ds (ds.length:AA) 0:=by kernel_rfl
theorem xN(k:AB)(ds:AE Ai)(l:AE Bl)(bk:AE Bc)(a:AE Ai)(n i:AA):nm (k+1) ds l bk a n i=ps0 bk a n i (λb=>nm k ds l b a n (i+1)) (gd (gMk (l.length:AA)) (kX k ds l bk (Hj ((l.length:AA)).toNat 0) ((Hj ((l.length:AA)).toNat (0:AA)).length:AA) 0)):=by kernel_rfl
theorem xO(k:AB)(ds:AE Ai)(l:AE Bl)(bk:AE Bc)(od:AE AA)(n i:AA):kX (k+1) ds l bk od n i=ps1 od n i (λo=>kX k ds l bk o n (i+1)) (gd (gMk (bk.length:AA)++(gMk (l.length:AA)++[gU.pre od ((l,()),())])) (kY k ds l bk (NR l.length (DI l)) (Hj ((l.length:AA)).toNat 0) (Hj ((bk.length:AA)).toNat AK) ((NR l.length (DI l)).length:AA) 0)):=by kernel_rfl
theorem xP(k:AB)(ds:AE Ai)(l:AE Bl)(bk:AE Bc)(od out:AE AA)(tk:AE AH)(n m:AA):kY (k+1) ds l bk od out tk n m=bif AG (m<n)then gd (AG (0<=m)::(AG (m<=(od.length:AA))::EV m od.length)) (np k ds l bk od out tk (Dt od AF (AC m)) m (od.getD m.toNat (IT).dflt) 0 n m ((Dt od AF (AC m)).length:AA) 0)else AC (out,AD,()):=by kernel_rfl
theorem xQ(k:AB)(ds:AE Ai)(l:AE Bl)(bk:AE Bc)(od out:AE AA)(tk:AE AH)(a:AE AA)(kk i lo n m b c:AA):np (k+1) ds l bk od out tk a kk i lo n m b c=ps3 l out a i lo b c (λx=>np k ds l bk od out tk a kk i x n m b (c+1))
 (bif (K4 l ds bk i lo tk).2.2.1 then gd (AG (A4 .i64 (m+1))::(EV i out.length++(nh l ds bk i lo tk::EV i l.length))) (kY k ds l bk od (out.set i.toNat (K4 l ds bk i lo tk).2.1) (K4 l ds bk i lo tk).1 n (m+1))
  else gd (nh l ds bk i lo tk::EV i l.length) (AC ([],AK,()))):=by kernel_rfl
theorem AF5{ds:AE Ai}{l:AE Bl}(hd:ds.length<=100)(o:l.length<=19):∀(r i k:AB) (bk:AE Bc),ds.length=i+r->1<=bk.length->bk.length+r<=200->ng bk (ds.drop i)->nm (k+r+1) ds l bk ds (ds.length:AA) (i:AA)=kX k ds l (FX bk (ds.drop i)) (Hj l.length 0) (l.length:AA) 0:=by
 intro r
 induction r with
 |zero=>
  intro i k bk g a b c;rw[FK,xN];unfold ps0;rw[Bm (by omega),GY (by omega)];have:=dv (α:=AM [.slice IT,.bool]) (n:=(l.length:AA)) (by omega) [];rw[Ce]at this;rw[this,xG,Un];rfl
 |succ r h=>
  intro i k bk g a b c;have d:i<ds.length:=by omega
  have j:ds.drop i=P1 ds i::ds.drop (i+1):=by
   rw[Ef d];unfold P1;rw[Bg,B4 d];rfl
  rw[j]at c⊢;obtain⟨e,f⟩:=c;have m:((bk.length:AA)-1)=((bk.length-1:AB):AA):=by omega
  have key:=h (i+1) k (bk++[nf bk (P1 ds i)]) (by omega) (by rw[BA];omega) (by rw[BA,EL];omega) f;simp only[Dz,Fb]at key;rw[show k+(r+1)+1=k+r+1+1 by omega,xN];unfold ps0;rw[Bn (by omega),m,show((bk.length-1:AB):AA).toNat=bk.length-1 from AL,show(i:AA).toNat=i from AL,An (AZ.2 ⟨by omega,by omega⟩),An (by rw[EL];omega),BG e,GR (by omega),An (AZ.2 ⟨by omega,by omega⟩),Ki d]
  exact key
theorem AF6{ds:AE Ai}{l:AE Bl}{bk:AE Bc}(c:l.length<=19)(f:bk.length<=1000):∀(r i k:AB),l.length=i+r->kX (k+r+1) ds l bk (Gn i++Hj r 0) (l.length:AA) (i:AA)=kY k ds l bk (NR l.length (DI l)) (Hj l.length 0) (Hj bk.length AK) (l.length:AA) 0:=by
 intro r
 induction r with
 |zero=>
  intro i k d;obtain⟨o,b, -⟩:=Xy l.length (DI l);rw[FK,xO];unfold ps1;rw[Bm (by omega),dv (by omega),dv (by omega),BG ?_,xG,b]
  ·rfl
  ·show(AG (Gn i++Hj 0 0=Gn l.length)&&AG (l.length<=19))=AD;rw[BK c,Gt,List.replicate_zero,Ce];have:i=l.length:=by omega
   rw[this];exact BK rfl
 |succ r e=>
  intro i k d;have key:=e (i+1) k (by omega);simp only[Dz,Fb]at key;have a:(Gn i++Hj (r+1) (0:AA)).length=l.length:=by rw[BA,OP,Un];omega
  rw[show k+(r+1)+1=k+r+1+1 by omega,xO];unfold ps1;rw[Bn (by omega),An (AZ.2 ⟨by omega,by omega⟩),show(i:AA).toNat=i from AL,ni,Ki (by rw[a];omega)];exact key
def AOd(n:AB)(od:AE AA):Prop:=od.length=n/\∀m,m<n->∃i:AB,od.getD m 0=(i:AA)/\i<n
theorem uW(n:AB)(e:AB->AA):AOd n (NR n e):=by
 obtain⟨o,c,a, -⟩:=Xy n e;exact⟨c,λm b=>⟨o m,by rw[Bg,(a m b).1];rfl,(a m b).2⟩⟩
theorem AF7{ds:AE Ai}{l:AE Bl}{bk:AE Bc}{od out:AE AA}{tk:AE AH}{kk:AA}{i:AB}{n m:AA}(_:l.length<=19)(x:out.length=l.length)(o:i<l.length)(b:AE AA)(g:∀c,c<b.length->∃j:AB,b.getD c 0=(j:AA)/\j<l.length)(r:b.length<=19):
  ∀(q a k:AB) (lo:AA),b.length=a+q->np (k+q+1) ds l bk od out tk b kk (i:AA) lo n m (b.length:AA) (a:AA)=
   (bif (K4 l ds bk (i:AA) (FY l out i (b.drop a) lo) tk).2.2.1 then gd (AG (A4 .i64 (m+1))::(EV (i:AA) out.length++(nh l ds bk (i:AA) (FY l out i (b.drop a) lo) tk::EV (i:AA) l.length))) (kY k ds l bk od (out.set i (K4 l ds bk (i:AA) (FY l out i (b.drop a) lo) tk).2.1) (K4 l ds bk (i:AA) (FY l out i (b.drop a) lo) tk).1 n (m+1))
    else gd (nh l ds bk (i:AA) (FY l out i (b.drop a) lo) tk::EV (i:AA) l.length) (AC ([],AK,()))):=by
 intro q
 induction q with
 |zero=>
  intro a k lo s;rw[FK,xQ];unfold ps3;rw[Bm (by omega),GY (by omega)];rfl
 |succ q t=>
  intro a k lo s;have f:a<b.length:=by omega
  obtain⟨j,d,p⟩:=g a f;have u:b.drop a=(j:AA)::b.drop (a+1):=by
   rw[Ef f];rw[Bg,B4 f]at d;have d:b[a]=(j:AA):=d;rw[d]
  have h:b.getD a (IT).dflt=(j:AA):=d;have key:=λlo=>t (a+1) k lo (by omega)
  simp only[Dz,Fb]at key;rw[show k+(q+1)+1=k+q+1+1 by omega,xQ,u];unfold ps3;have e:A4 .i64 ((a:AA)+1):=AZ.2 ⟨by omega,by omega⟩;rw[Bn (by omega),Ki f,show(a:AA).toNat=a from AL,h,show(j:AA).toNat=j from AL,show(i:AA).toNat=i from AL,An e,GR (by omega),GR o,Ki p,An e,GR o,Ki p]
  have v:FY l out i ((j:AA)::b.drop (a+1)) lo=FY l out i (b.drop (a+1)) (bif AG ((B5 l j).2.2.1<(B5 l i).2.1)then max lo (out.getD j 0)else lo):=AL;rw[v];cases AG ((B5 l j).2.2.1<(B5 l i).2.1)
  ·exact key lo
  ·exact key (max lo (out.getD j 0))
theorem AF8{ds:AE Ai}{l:AE Bl}{bk:AE Bc}{od:AE AA}(x:l.length<=19)(y:bk.length<=1000)(hd:ds.length+1=bk.length)(d:AOd l.length od)(z:∀i,i<l.length->V0 (B5 l i) bk ds):
  ∀(r m k:AB) (out:AE AA) (tk:AE AH),l.length=m+r->out.length=l.length->tk.length=bk.length->r*21+1<=k->kY k ds l bk od out tk (l.length:AA) (m:AA)=AC (Xz l ds bk od r m out tk):=by
 intro r
 induction r with
 |zero=>
  intro m k out tk A f g B;obtain⟨k,rfl⟩:∃q,k=q+1:=⟨k-1,by omega⟩
  rw[xP,Bm (by omega)];rfl
 |succ r C=>
  intro m k out tk A f g B;obtain⟨F,t⟩:=d;obtain⟨i,u,b⟩:=t m (by omega);have h:od.getD m (IT).dflt=(i:AA):=u;have o:Dt od AF (AC (m:AA))=od.take m:=AL;have D:(od.take m).length=m:=by rw[Bw];omega
  have p:∀c,c<(od.take m).length->∃j:AB,(od.take m).getD c 0=(j:AA)/\j<l.length:=λc G=>by
   obtain⟨j,e,E⟩:=t c (by omega);refine⟨j,?_,E⟩;rw[Bg,CB,Ae (by omega),<-Bg];exact e
  obtain⟨k,rfl⟩:∃q,k=q+m+1+1:=⟨k-(m+2),by omega⟩
  rw[xP,Bn (by omega),An (by omega),An (by omega),Ki (by omega),o,show(m:AA).toNat=m from AL,h];have key:=AF7 (ds:=ds) (bk:=bk) (od:=od) (tk:=tk) (kk:=(m:AA)) (n:=(l.length:AA)) (m:=(m:AA)) x f b (od.take m) p (by omega) m 0 k 0 (by omega);rw[Do]at key;have a:np (k+m+1) ds l bk od out tk (od.take m) (m:AA) (i:AA) 0 (l.length:AA) (m:AA) ((od.take m).length:AA) 0=_:=key
  rw[a];have s:=SB l out i (od.take m) 0;have v:nh l ds bk (i:AA) (FY l out i (od.take m) 0) tk=true:=by
   refine @BK _ (PI _) ?_;exact⟨s,y,g,hd,z i b⟩
  rw[An (AZ.2 ⟨by omega,by omega⟩),GR (by omega),BG v,Ki b,BG v,Ki b];show _=AC (bif (K4 l ds bk (od.getD m 0) (FY l out (od.getD m 0).toNat (od.take m) 0) tk).2.2.1 then Xz l ds bk od r (m+1) (out.set (od.getD m 0).toNat (K4 l ds bk (od.getD m 0) (FY l out (od.getD m 0).toNat (od.take m) 0) tk).2.1) (K4 l ds bk (od.getD m 0) (FY l out (od.getD m 0).toNat (od.take m) 0) tk).1 else([],AK,()))
  rw[u,show(i:AA).toNat=i from AL];have w:=C (m+1) k (out.set i (K4 l ds bk (i:AA) (FY l out i (od.take m) 0) tk).2.1) (K4 l ds bk (i:AA) (FY l out i (od.take m) 0) tk).1 (by omega) (by rw[PL];exact f) (by rw[uT];exact g) (by omega);simp only[Dz,Fb]at w
  rw[w];cases(K4 l ds bk (i:AA) (FY l out i (od.take m) 0) tk).2.2.1<;>rfl
theorem AF9:PC 19 kV:=(Ap (sh:=AV nk) (uU (l:=[(37,Z8)]) (o:=[]) (v:=[(43,gU),(46,uO)]) ⟨xf,A3⟩ trivial ⟨ABu,AFy,A3⟩) Al func19 (by kernel_rfl) (by decide)).nice λ⟨l,ds,()⟩ h=>by
 have h:ABv l ds:= @BL _ (PI _) h;obtain⟨a,d,e,f⟩:=h;have g:(FX [KL] ds).length=1+ds.length:=OO ds [KL];show ops (l,ds,())=AC (dw l ds);obtain⟨K,i⟩:∃K,AU=K+1000+l.length+1+ds.length+1:=⟨AU-(1000+l.length+1+ds.length+1),by unfold AU;omega⟩
 rw[AF3,i,AF4];have b:=AF5 d a ds.length 0 (K+1000+l.length+1) [KL] (by omega) (Ak _) (by show 1+_<=_;omega) e;have b:nm (K+1000+l.length+1+ds.length+1) ds l [KL] ds (ds.length:AA) 0=_:=b;rw[b,Do];have c:=AF6 (ds:=ds) (bk:=FX [KL] ds) a (by omega) l.length 0 (K+1000) (by omega)
 have c:kX (K+1000+l.length+1) ds l (FX [KL] ds) (Hj l.length 0) (l.length:AA) 0=_:=c;rw[c];have j:=AF8 a (show(FX [KL] ds).length<=1000 by omega) (by omega) (uW l.length (DI l)) f l.length 0 (K+1000) (Hj l.length 0) (Hj (FX [KL] ds).length AK) (by omega) (Un ..) (Un ..) (by omega)
 exact j
end Go.Proofs.YtkgejlchafionaaGreatDoor
namespace Nice
abbrev kZ(t:Bl):Hg:=t.2.2.2.1
def nq(t:Bl)(bk:AE Bc)(ds:AE Ai):Prop:=
 (E0 t.1=AD->∀p,p<ds.length->oT t.1 (C5 bk p) (P1 ds p)=AD/\oS t.1 (kZ t) (C5 bk p) (P1 ds p)=HG t (C5 bk p) (P1 ds p))/\
 (E0 t.1=AK->∀p,p<bk.length->oT t.1 (C5 bk p) HX=AD/\oS t.1 (kZ t) (C5 bk p) HX=HG t (C5 bk p) HX)
def AK2(l:AE Bl)(ds:AE Ai):Prop:=
 l.length<=19/\ds.length<=100/\ng [KL] ds/\∀i,i<l.length->nq (B5 l i) (FX [KL] ds) ds
end Nice
namespace Nice
theorem gW(l:AE Bl)(out:AE AA)(c:AB)(B:AA):∀(b:AE AA) (lo:AA),lo<=B->(∀x,x∈b->DI l x.toNat<(B5 l c).2.1->out.getD x.toNat 0<=B)->FY l out c b lo<=B
 |[],_,h,_=>h
 |x::r,lo,h,d=>by
  unfold FY;refine gW l out c B r _ ?_ λy e=>d y (GC _ e)
  by_cases a:DI l x.toNat<(B5 l c).2.1
  ·rw[show AG ((B5 l x.toNat).2.2.1<(B5 l c).2.1)=AD from BK a];exact Int.max_le.2 ⟨h,d x (PB ..) a⟩
  ·rw[show AG ((B5 l x.toNat).2.2.1<(B5 l c).2.1)=AK from BP a];exact h
theorem gY(l:AE Bl)(out:AE AA)(c:AB):∀(a:AE AA) (lo:AA),∀x,x∈a->DI l x.toNat<(B5 l c).2.1->out.getD x.toNat 0<=FY l out c a lo
 |[],_,_,h,_=>by cases h
 |y::r,lo,x,hx,b=>by
  unfold FY;rcases Dv.1 hx with rfl|hx
  ·refine il ?_ (SB l out c r _);rw[show AG ((B5 l x.toNat).2.2.1<(B5 l c).2.1)=AD from BK b];exact Int.le_max_right ..
  ·exact gY l out c r _ x hx b
theorem ka{α:Type}(l:AE α)(i j:AB)(x d:α)(h:i<l.length):(l.set i x).getD j d=if j=i then x else l.getD j d:=by
 rw[Bg,List.getElem?_set];by_cases e:j=i
 ·subst e;rw[Ae rfl,Ae rfl,Ae h];rfl
 ·rw[AY (ES e),AY e,Bg]
