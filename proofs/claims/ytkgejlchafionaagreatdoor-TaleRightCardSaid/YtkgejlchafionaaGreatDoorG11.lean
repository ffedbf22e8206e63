/-
  Part of the proof. No condition.
-/
import Derived.Test.YtkgejlchafionaaGreatDoorG10
import Derived.Test.YtkgejlchafionaaGreatDoorBegF
open BEq renaming rfl->sU
open Bool renaming and_eq_true->A0,and_true->Gt,false->AK,true->AD
open Classical renaming propDecidable->PI
open Decidable renaming decide->AG
open Int renaming le_refl->Hh,natCast_add->Dz,natCast_one->Fb
open List renaming all_eq_true->C8,drop_sublist->AAP,getD_eq_getElem?_getD->Bg,getElem?_eq_getElem->B4,getElem?_eq_none->DA,getElem?_eq_some_iff->MJ,getElem?_take->CB,getElem_mem->EK,length_append->BA,length_singleton->EL,map_congr_left->AAQ,map_id->AAR,mem_append->CH,mem_cons->Dv,mem_iff_getElem?->sV,mem_singleton->Cn,pairwise_cons->Us,take_of_length_le->GB
open Nat renaming le_refl->Ak,zero_add->CJ
open Option.some renaming inj->Dw
open _root_ renaming Bool->AH,Int->AA,List->AE,Nat->AB,decide_eq_false->BP,decide_eq_true->BK,decide_eq_true_eq->A6,if_neg->AY,if_pos->Ae
set_option maxRecDepth 1000000
open Go Go.Eng
noncomputable section
namespace Nice
theorem lB{q:AA}{m:Ar}(h:P6 q m=AD):P6 (q+1) m=true:=by
 unfold P6 at *;simp only[A0,A6]at *;omega
theorem AH3{s:Bc}(h:BM s)(c:s.1<1099511627776):BM (K7 s) where
 q0:=by show 0<=s.1+1;have:=h.q0;omega
 q1:=by show s.1+1<=_;omega
 l40:=h.l40
 m100:=h.m100
 ent:=λe b=>⟨(h.ent e b).1,by show _<=s.1+1;have:=(h.ent e b).2;omega⟩
 srt:=h.srt
 low:=h.low
 mem:=λx a=>⟨(h.mem x a).1,(h.mem x a).2.1,lB (h.mem x a).2.2⟩
 msrt:=h.msrt
theorem lC(w:HH)(h x k:AA)(c:0<=h)(d:h<=4)(e:1<=k)(f:k<=5):E2 (oJ w h x) k=if k=h+1 then x else E2 w k:=by
 have a:h=0\/h=1\/h=2\/h=3\/h=4:=by omega
 have b:k=1\/k=2\/k=3\/k=4\/k=5:=by omega
 rcases a with rfl|rfl|rfl|rfl|rfl<;>rcases b with rfl|rfl|rfl|rfl|rfl<;>rfl
theorem lD(w:HH)(h x:AA)(m:0<=h)(n:h<=4)(i:Kj w=AD)(j:A5 x=h+1):Kj (oJ w h x)=true:=by
 unfold Kj at i;simp only[A0]at i;obtain⟨b,c,d,f,g⟩:=i;have l:h=0\/h=1\/h=2\/h=3\/h=4:=by omega
 have a:∀k,k=h+1->X9 x k=true:=λk e=>by
  unfold X9;rw[j,e,sU,Bool.or_true]
 unfold Kj;simp only[A0];rcases l with rfl|rfl|rfl|rfl|rfl
 ·exact⟨a 1 rfl,c,d,f,g⟩
 ·exact⟨b,a 2 rfl,d,f,g⟩
 ·exact⟨b,c,a 3 rfl,f,g⟩
 ·exact⟨b,c,d,a 4 rfl,g⟩
 ·exact⟨b,c,d,f,a 5 rfl⟩
theorem qQ{M:AE Ar}{r:AA}{x:Ar}(i:M.Pairwise λa b=>a.1<b.1)(o:x.1=r)(d:(FC (Fu r) (H1 r) M 0).2=AK):(Mf M (FC (Fu r) (H1 r) M 0).1 x).Pairwise λa b=>a.1<b.1:=by
 obtain⟨n,p,A,q,s⟩:=Xx (Fu r) (H1 r) M 0;rw[p]at d⊢;rw[CJ];show(M.take n++([x]++M.drop n)).Pairwise _;have d:ABo (H1 r) M[n]?=false:=d;have j:∀y,y∈M.take n->y.1<r:=λy c=>by
  obtain⟨k,h⟩:=sV.1 c;rw[CB]at h
  split at h
  ·rename_i l;exact of_decide_eq_true (q k y l h)
  ·cases h
 have f:∀y,y∈M.drop n->r<y.1:=λy c=>by
  cases g:M[n]? with
  |none=>
   rw[List.drop_eq_nil_of_le (List.getElem?_eq_none_iff.1 g)]at c;cases c
  |some z=>
   rw[g]at d;have d:(z.1==r)=false:=d;have B:¬z.1<r:=of_decide_eq_false (s z g);have t:=beq_eq_false_iff_ne.1 d;have u:n<M.length:=(MJ.1 g).1;have m:M[n]=z:=(MJ.1 g).2;have hd:M.drop n=z::M.drop (n+1):=by rw[List.drop_eq_getElem_cons u,m]
   rw[hd]at c;rcases Dv.1 c with rfl|c
   ·omega
   ·have v:(z::M.drop (n+1)).Pairwise λa b=>a.1<b.1:=by rw[<-hd];exact i.sublist (AAP ..)
    have:=(Us.1 v).1 y c;omega
 refine List.pairwise_append.2 ⟨i.sublist (List.take_sublist ..),?_,λa w b e=> ?_⟩
 ·exact Us.2 ⟨λb e=>by rw[o];exact f b e,i.sublist (AAP ..)⟩
 ·have e:b∈x::M.drop n:=e;have:=j a w;rcases Dv.1 e with rfl|e
  ·omega
  ·have:=f b e;omega
theorem qR{M:AE Ar}{i:AA}{x y:Ar}(h:y∈Mf M i x):y∈M\/y=x:=by
 rcases CH.1 h with h|h
 ·exact .inl (List.mem_of_mem_take h)
 ·have h:y∈x::M.drop i.toNat:=h;rcases Dv.1 h with rfl|h
  ·exact .inr rfl
  ·exact .inl (List.mem_of_mem_drop h)
theorem qS(M:AE Ar)(i:AA)(x:Ar):(Mf M i x).length<=M.length+1:=by
 show(M.take i.toNat++(x::M.drop i.toNat)).length<=_;rw[BA,List.length_cons,List.length_take,List.length_drop];omega
theorem yC{s:Bc}{d:Ai}(h:BM s)(hd:D7 d=AD):BM (Ez s d).1:=by
 obtain⟨q,n,w,y, -⟩:=Jc hd;have z:=HZ (OW d);unfold Ez;rw[nW h,hd,show(AD&&AD)=AD from rfl,xT];by_cases r:s.1>=1099511627776
 ·rw[Bn r];exact h
 rw[Bm r];have a:=AH3 h (by omega);by_cases f:OW d<E2 s.2.2.2.1 (HY d+1)
 ·rw[Bn f];exact a
 rw[Bm f];cases A:(OX s d).2
 ·rw[xF];by_cases b:100<=s.2.2.1.length
  ·rw[Bn b];exact a
  rw[Bm b];obtain⟨R1,R2,R3,R4,R5,R6,R7⟩:=uN a hd (by show 1<=s.1+1;have:=h.q0;omega);have t:=qQ (x:=PP s d) h.msrt rfl A;have o:HY d+1=A5 (OW d):=by show A5 (OW d)-1+1=_;omega
  have i:A5 (PP s d).1≠0/\E2 s.2.2.2.1 (A5 (PP s d).1)<=(PP s d).1/\P6 (s.1+1) (PP s d)=true:=by
   refine⟨n,?_,?_⟩
   ·rw[o]at f;show E2 s.2.2.2.1 (A5 (OW d))<=OW d;omega
   ·unfold P6;rw[BK (show 0<=(PP s d).2.1.1 from R4),BK (show(PP s d).2.1.1<=13 from R5),BK (show 0<=(PP s d).2.1.2.1 from R6),BK (show(PP s d).2.1.2.1<=s.1+1 from R7)];rfl
  have c:∀x,x∈Mf s.2.2.1 (OX s d).1 (PP s d)->A5 x.1≠0/\E2 s.2.2.2.1 (A5 x.1)<=x.1/\P6 (s.1+1) x=true:=λx g=>by
   rcases qR g with g|rfl
   ·exact a.mem x g
   ·exact i
  have u:=qS s.2.2.1 (OX s d).1 (PP s d);cases v:AG (PN d>E2 s.2.2.2.1 (HY d+1))&&A5 (PN d)==HY d+1
  ·exact⟨a.q0,a.q1,R1,by show(Mf s.2.2.1 (OX s d).1 (PP s d)).length<=100;omega,R2,R3,h.low,c,t⟩
  ·rw[A0,beq_iff_eq]at v;have j:0<=HY d:=by show 0<=A5 (OW d)-1;omega
   have k:HY d<=4:=by show A5 (OW d)-1<=4;omega
   refine⟨a.q0,a.q1,R1,?_,R2,R3,lD _ _ _ j k h.low v.2,λx g=> ?_,t.sublist List.filter_sublist⟩
   ·show((Mf s.2.2.1 (OX s d).1 (PP s d)).filter λm=> !Md (PN d) (HY d) m).length<=100;have:=List.length_filter_le (λm=> !Md (PN d) (HY d) m) (Mf s.2.2.1 (OX s d).1 (PP s d));omega
   ·have g:x∈(Mf s.2.2.1 (OX s d).1 (PP s d)).filter λm=> !Md (PN d) (HY d) m:=g
    obtain⟨p,l⟩:=List.mem_filter.1 g;obtain⟨g1,B,g3⟩:=c x p;refine⟨g1,?_,g3⟩;have C:=HZ x.1;show E2 (oJ s.2.2.2.1 (HY d) (PN d)) (A5 x.1)<=x.1;rw[lC _ _ _ _ j k (by omega) (by omega)];by_cases e:A5 x.1=HY d+1
    ·rw[Ae e];unfold Md at l;rw[e,sU,Gt,Bool.not_eq_true',decide_eq_false_iff_not]at l;omega
    ·rw[AY e];exact B
 ·exact a
theorem YP:BM KL:=AFu rfl
theorem eX:∀(ds:AE Ai) (bk:AE Bc),1<=bk.length->(∀d,d∈ds->D7 d=AD)->(∀s,s∈bk->BM s)->(∀s,s∈FX bk ds->BM s)/\ng bk ds
 |[],bk,_,_,h=>⟨h,trivial⟩
 |d::r,bk,n,hd,h=>by
  have g:C5 bk (bk.length-1)∈bk:=by
   unfold C5;rw[Bg,B4 (by omega)];exact EK _
  have f:=h _ g;have a:=hd d (List.mem_cons_self ..);have b:BM (nf bk d):=yC f a;obtain⟨g1,i⟩:=eX r (bk++[nf bk d]) (by rw[BA];omega) (λx j=>hd x (List.mem_cons_of_mem _ j)) λs c=>by
   rcases CH.1 c with c|c
   ·exact h s c
   ·rw[Cn.1 c];exact b
  refine⟨g1,?_,i⟩;unfold Mg IU;rw[A0,C8];refine⟨λe k=> ?_,?_⟩
  ·obtain⟨-,l, -,m⟩:=D4.1 (f.ent e k).1;have:=D8 l;unfold Dy Aw;rw[A0,A6,A6];omega
  ·have:=D8 (Jc a).1;exact BK (by omega)
theorem eY{s:Bc}(h:BM s):Nm s=s:=by
 have a:∀(l:L8) (n:AB),l.length<=n->cut l (n:AA)=l:=λl n h=>GB h
 have b:∀e,e∈s.2.1->Oh e=e:=λe b=>by
  obtain⟨f,g, -,i⟩:=D4.1 (h.ent e b).1;have j:=D8 g;have c:(e.2.1.take 14).map ACy=e.2.1:=by
   rw[GB (by omega)];refine(AAQ λv c=> ?_).trans (AAR _);have d:=Gv _ _ f v c;unfold DJ at d;simp only[A0,A6]at d;have:=d.2.2.1;show(v.1,v.2.1,cut v.2.2.1 302,())=v;rw[show cut v.2.2.1 302=v.2.2.1 from a _ 302 (by omega)]
  unfold Oh;rw[c,show cut e.1 42=e.1 from a _ 42 (by omega)]
 have k:(s.2.1.take 42).map Oh=s.2.1:=by
  rw[GB (by have:=h.l40;omega)];exact(AAQ b).trans (AAR _)
 have m:s.2.2.1.take 103=s.2.2.1:=GB (by have:=h.m100;omega);unfold Nm;rw[k,m]
theorem qT{ds:AE Ai}{t:Bl}(h:Gh t.1=AD)(i:HW t.1=AD)(j:(kZ t).2.1.length<=2)(hd:∀d,d∈ds->D7 d=AD):V0 t (FX [KL] ds) ds/\nq t (FX [KL] ds) ds:=by
 obtain⟨k, -⟩:=eX ds [KL] (Ak _) hd λs l=>by rw[Cn.1 l];exact YP
 have m:(FX [KL] ds).length=1+ds.length:=OO ds [KL];have f:∀p,p<(FX [KL] ds).length->BM (C5 (FX [KL] ds) p):=λp a=>by
  refine k _ ?_;unfold C5;rw[Bg,B4 a];exact EK _
 have b:∀p,p<ds.length->Aw (P1 ds p).2.1=true:=λp a=>by
  have e:P1 ds p∈ds:=by
   unfold P1;rw[Bg,B4 a];exact EK _
  have:=D8 (Jc (hd _ e)).1;exact BK (by omega)
 have key:∀p D,p<(FX [KL] ds).length->Aw D.2.1=AD->Oa t (C5 (FX [KL] ds) p) D=AD/\oT t.1 (C5 (FX [KL] ds) p) D=AD/\HG t (C5 (FX [KL] ds) p) D=oS t.1 (kZ t) (C5 (FX [KL] ds) p) D:=λp D a n=>by
  have c:=f p a;have:=kU (A:=t.1) (s:=C5 (FX [KL] ds) p) (D:=D) (X:=kZ t) t.2.1 t.2.2.1 h i (by rw[eY c];exact nW c) n (oU j);rw[eY c]at this;exact this
 have g:Aw HX.2.1=true:=rfl;refine⟨⟨λ_ p a=>(key p _ (by omega) (b p a)).1,λ_ p a=>(key p _ a g).1⟩,⟨λ_ p a=>⟨(key p _ (by omega) (b p a)).2.1,(key p _ (by omega) (b p a)).2.2.symm⟩,λ_ p a=>⟨(key p _ a g).2.1,(key p _ a g).2.2.symm⟩⟩⟩
end Nice
namespace Nice
def YQ(a:BH)(q:AA):Ai:=((IQ a).1,(IQ a).2.1,(IQ a).2.2.1,(IQ a).2.2.2.1,(IQ a).2.2.2.2.1,(IQ a).2.2.2.2.2.1,q,(IQ a).2.2.2.2.2.2.2.1,())
abbrev ALs(ds:AE Ai)(d:Ai):AH:=AG ((2*(ds.length+[d].length)+400)*88<=281474976710656)
abbrev AH4(ts:AE Bl)(t:Bl):AH:=AG ((2*(ts.length+[t].length)+400)*184<=281474976710656)
end Nice
namespace Go.Proofs.YtkgejlchafionaaGreatDoor
open Tryz
open Nice
def AH5(r:AB)(f:AE AB)(l:AE (AB×PSpec))(o:AE (AB×OSpec))(v:AE (AB×VSpec)):Eng.Env:={ ACx l o v with frz:=λid=>bif Nat.beq id r then f else []}
theorem vm{r:AB}{f:AE AB}{l:AE (AB×PSpec)}{o:AE (AB×OSpec)}{v:AE (AB×VSpec)}(h:Ke prog IP l)(a:QL prog IP o)(b:Uc prog IP v):(AH5 r f l o v).OK prog:=
 have e:=gv h a b
 ⟨e.T,e.fn,e.ext,e.sum,e.gl,e.mixed,e.spec,e.mnz,e.cmp,e.osp,e.vsp⟩
end Go.Proofs.YtkgejlchafionaaGreatDoor
namespace Nice
structure FpI(m:AB)(ds:AE Ai)(ts:AE Bl):Prop where
 d:∀x,x∈ds->D7 x=AD
 t:∀x,x∈ts->Gh x.1=AD/\HW x.1=AD/\(kZ x).2.1.length<=2
 dl:ds.length<=m
 tl:ts.length<=m
theorem ADw{m:AB}{ds:AE Ai}{ts:AE Bl}(h:FpI m ds ts)(b:m<=19):ABv ts ds/\AK2 ts ds:=by
 obtain⟨-,c⟩:=eX ds [KL] (Ak _) h.d λs j=>by rw[Cn.1 j];exact YP
 have e:∀i,i<ts.length->V0 (B5 ts i) (FX [KL] ds) ds/\nq (B5 ts i) (FX [KL] ds) ds:=λi a=>by
  have b:B5 ts i∈ts:=by
   unfold B5;rw[Bg,B4 a];exact EK _
  obtain⟨f,g,k⟩:=h.t _ b;exact qT f g k h.d
 have f:=h.tl;have g:=h.dl;exact⟨⟨by omega,by omega,c,λi a=>(e i a).1⟩,⟨by omega,by omega,c,λi a=>(e i a).2⟩⟩
theorem qU{A:BH}(a:Gh A=AD):Aw A.2.2.2.1=true:=by
 unfold Gh Rb sa at a;simp only[A0,A6]at a;unfold Aw;exact BK (by omega)
theorem qV(A:BH)(q:AA):(YQ A q).2.1=A.2.1:=by
 unfold YQ IQ;cases A.1==3<;>cases AG (A.2.2.1>0)<;>rfl
theorem vn{s:Bc}{d:Ai}(h:BM s)(a:Aw d.2.1=AD):Mg s d=true:=by
 unfold Mg IU;rw[a,Gt,C8];intro e b;obtain⟨-,a, -,c⟩:=D4.1 (h.ent e b).1;have:=D8 a;unfold Dy Aw;rw[A0,A6,A6];omega
end Nice
namespace Go.Proofs.YtkgejlchafionaaGreatDoor
open Tryz
open Nice
theorem eZ:PC 6 p4:=lR Y7
end Go.Proofs.YtkgejlchafionaaGreatDoor
namespace Nice
abbrev a8(l:AE BH)(i:AB):BH:=l.getD i (BF).dflt
abbrev sz8(a:AE AA)(x:AA):AH:=AG ((2*(a.length+[x].length)+400)*8<=281474976710656)
def iB(ts:AE Bl)(a:AE AA)(A:BH)(i n:AA)(Y:Hg)(nx:AE Bl->AE AA->BO):BO:=
 gd [AG (A4 .i64 (i+1)),sz8 a n,AH4 ts (A,2*i,2*i+1,Y,())] (nx (ts++[(A,2*i,2*i+1,Y,())]) (a++[n]))
def frT(ts:AE Bl)(a:AE AA)(A:BH)(i n:AA)(Y:Hg)(nx:AE Bl->AE AA->BO):BO:=
 bif Tu A then iB ts a A i n (Y.1,Y.2.1,[],()) nx else iB ts a A i n (Y.1,Y.2.1,Y.2.2.1,()) nx
def frW(ds:AE Ai)(ts:AE Bl)(a:AE AA)(st:Bc)(A:BH)(i:AA)(D:Ai)(nx:AE Ai->AE Bl->AE AA->Bc->BO):BO:=
 gd [AG (A4 .i64 (4294967296+(i+1))),AG (A4 .i64 (i+1))] (bif D7 D then
  gd [C4 (Ez st D).2.2.1&&Aw A.2.2.2.1,ALs ds D,Mg st D,Aw D.2.1] (frT ts a A i ((ds++[D]).length:AA) (wrA (D9 (Ez st D).2.2.1) A (Ez st D).2) λts a=>nx (ds++[D]) ts a (Ez st D).1)
  else gd [AG (A4 .i64 (i+1)),Aw D.2.1] (nx ds ts a st))
def fr0(l:AE BH)(ds:AE Ai)(ts:AE Bl)(a:AE AA)(st:Bc)(A:BH)(i:AA)(nx:AE Ai->AE Bl->AE AA->Bc->BO)(b:BO):BO:=
 bif AG (i<(l.length:AA))then(bif AG (i<15)then gd (EV i l.length) (bif HW A then
     gd [UF A st,AG (A4 .i64 (2*i+1)),AG (A4 .i64 (2*i)),AG (A4 .i64 (2*i)),Gh A] (bif A.1==2 then frW ds ts a st A i (YQ A (4294967296+(i+1))) nx
      else bif A.1==3 then frW ds ts a st A i (YQ A (4294967296+(i+1))) nx else frT ts a A i (ds.length:AA) (Q3 A st) λts a=>nx ds ts a st)
     else gd [AG (A4 .i64 (i+1)),Gh A] (nx ds ts a st))else b)else b
def fr1(p:AE AA)(ts:AE Bl)(a:AE AA)(b i:AA)(nx:AA->BO):BO:=
 bif AG (i<(p.length:AA))then
  (bif AG (p.getD i.toNat (IT).dflt>a.getD i.toNat (IT).dflt)then gd (EV i a.length++EV i p.length) (bO AK)
  else bif AG (p.getD i.toNat (IT).dflt<b)then gd (EV i p.length++(EV i a.length++EV i p.length)) (bO AK)
  else bif (B5 ts i.toNat).1.1==2 then
   (bif AG (p.getD i.toNat (IT).dflt>a.getD i.toNat (IT).dflt)then gd (EV i a.length++(EV i p.length++(EV i ts.length++(EV i p.length++(EV i a.length++EV i p.length))))) (bO AK)
   else gd (AG (A4 .i64 (i+1))::(EV i p.length++(EV i a.length++(EV i p.length++(EV i ts.length++(EV i p.length++(EV i a.length++EV i p.length))))))) (nx (p.getD i.toNat (IT).dflt)))
  else bif (B5 ts i.toNat).1.1==3 then
   (bif AG (p.getD i.toNat (IT).dflt>a.getD i.toNat (IT).dflt)then gd (EV i a.length++(EV i p.length++(EV i ts.length++(EV i ts.length++(EV i p.length++(EV i a.length++EV i p.length)))))) (bO AK)
   else gd (AG (A4 .i64 (i+1))::(EV i p.length++(EV i a.length++(EV i p.length++(EV i ts.length++(EV i ts.length++(EV i p.length++(EV i a.length++EV i p.length)))))))) (nx (p.getD i.toNat (IT).dflt)))
  else gd (AG (A4 .i64 (i+1))::(EV i p.length++(EV i ts.length++(EV i ts.length++(EV i p.length++(EV i a.length++EV i p.length)))))) (nx (p.getD i.toNat (IT).dflt)))
 else bO AD
end Nice
namespace Go.Proofs.YtkgejlchafionaaGreatDoor
open Tryz
open Nice
abbrev qW:Eng.Env:=AH5 24 [5,4] [(6,p4),(7,lq),(11,Qz),(12,Tk),(13,oQ),(14,p0),(15,Z8),(16,ADc),(19,kV)] [] []
abbrev lE:AE (AB×AE (AB×Sh)):=[(9,[(0,(.one (.dat BF))),(4,(.one (.vec Bu 30))),(5,(.one (.vec GS 44))),(6,(.one (.vec IT 3))),(7,(.obj [.sym,(.dat AW),(.dat BB),.sym,.sym,.sym,.sym,.sym])),(8,(.one .sym))]),(29,[(14,(.one (.dat IT))),(5,(.one (.dat GS))),(6,(.one (.dat IT))),(16,(.one .sym)),(17,(.one .sym))])]
def Ni(N:AB)(l:AE BH)(ds:AE Ai)(ts:AE Bl)(a:AE AA)(st:Bc)(i:AA):BO:=rH prog qW (AV lE) f5 [.bool] N 0 [(0,dt 10),(4,dt 11),(5,dt 12),(6,dt 13),(7,.pointer (some ⟨16,0,none⟩)),(8,sy (.int .i64 i))]
 [.dat BF l,.vec Bu ds 30,.vec GS ts 44,.vec IT a 3,.dat AW st.2.1,.dat BB st.2.2.1,.row [sy (.int .i64 st.1),dt 14,dt 15,sy (.int .i64 st.2.2.2.1.1),sy (.int .i64 st.2.2.2.1.2.1),sy (.int .i64 st.2.2.2.1.2.2.1),sy (.int .i64 st.2.2.2.1.2.2.2.1),sy (.int .i64 st.2.2.2.1.2.2.2.2.1)] 28 AK]
def vo(N:AB)(p:AE AA)(ts:AE Bl)(a:AE AA)(b i:AA):BO:=rH prog qW (AV lE) f5 [.bool] N 1 [(14,dt 10),(5,dt 11),(6,dt 12),(16,sy (.int .i64 b)),(17,sy (.int .i64 i))] [.dat IT p,.dat GS ts,.dat IT a]
def ofr(x:AM [.slice BF]):BO:=fO prog qW (AV lE) f5 [.slice BF] [.bool] x
theorem AH8(x:AM [.slice BF]):ofr x=Cy prog qW (AV lE) f5 [.slice BF] [.bool] AU x:=rfl
theorem AH9(N:AB)(l:AE BH):Cy prog qW (AV lE) f5 [.slice BF] [.bool] N (l,())=Ni N l [] [] [] KL 0:=by kernel_rfl
theorem yD(N:AB)(p:AE AA)(ts:AE Bl)(a:AE AA)(b i:AA):vo (N+1) p ts a b i=fr1 p ts a b i (λx=>vo N p ts a x (i+1)):=by kernel_rfl
abbrev frE(N:AB)(ds:AE Ai)(ts:AE Bl)(a:AE AA):BO:=
 bif (dw ts ds).2.1 then gd [kV.pre (ts,ds,())] (bif ((dw ts ds).1.length:AA) !=(a.length:AA)then bO AK else vo N (dw ts ds).1 ts a 0 0)else gd [kV.pre (ts,ds,())] (bO AK)
theorem yE(N:AB)(l:AE BH)(ds:AE Ai)(ts:AE Bl)(a:AE AA)(st:Bc)(i:AA):Ni (N+1) l ds ts a st i=fr0 l ds ts a st (VL (a8 l i.toNat)) i (λds ts a st=>Ni N l ds ts a st (i+1)) (frE N ds ts a):=by kernel_rfl
end Go.Proofs.YtkgejlchafionaaGreatDoor
namespace Nice
open Go.Proofs.YtkgejlchafionaaGreatDoor
theorem vp(t:L8)(a:AA)(b:L8)(er:AA):(lZ t a b er).2.2.1=[]:=by
 unfold lZ pz;cases a !=2<;>cases a !=3<;>cases er==0<;>cases er==9<;>cases er==6<;>cases er==5<;>cases a==2<;>rfl
theorem lF(d:Ai):uo d d=true:=by
 unfold uo;simp only[sU,Bool.and_self]
theorem QI(D:Ai):∀(ds:AE Ai) (bk:AE Bc),FX bk (ds++[D])=FX bk ds++[nf (FX bk ds) D]
 |[],_=>rfl
 |d::r,bk=>QI D r (bk++[nf bk d])
abbrev Nl(ds:AE Ai):AE Bc:=FX [KL] ds
theorem YR(ds:AE Ai):(Nl ds).length=ds.length+1:=by
 have:=OO ds [KL];show(FX [KL] ds).length=_;rw[this,EL];omega
theorem Ow{α:Type}(l m:AE α)(i:AB)(d:α)(h:i<l.length):(l++m).getD i d=l.getD i d:=by
 rw[Bg,List.getElem?_append_left h,Bg]
theorem Ox{α:Type}(l:AE α)(x d:α):(l++[x]).getD l.length d=x:=by
 rw[Bg,List.getElem?_append_right (Ak _),Nat.sub_self];rfl
theorem YS(ds:AE Ai)(D:Ai){p:AB}(h:p<=ds.length):C5 (Nl (ds++[D])) p=C5 (Nl ds) p:=by
 unfold C5;rw[show Nl (ds++[D])=Nl ds++[nf (Nl ds) D]from QI D ds [KL],Ow _ _ _ _ (by rw[YR];omega)]
theorem vq(ds:AE Ai)(D:Ai):C5 (Nl (ds++[D])) (ds.length+1)=(Ez (C5 (Nl ds) ds.length) D).1:=by
 have a:=YR ds;unfold C5;rw[show Nl (ds++[D])=Nl ds++[nf (Nl ds) D]from QI D ds [KL],<-a,Ox];unfold nf;rw[a];rfl
def FrE(ds:AE Ai)(t:Bl)(w:AA):Prop:=
 0<=w/\w<=(ds.length:AA)/\(E0 t.1=AD->0<w/\HG t (C5 (Nl ds) (w.toNat-1)) (P1 ds (w.toNat-1))=AD)/\(E0 t.1=AK->HG t (C5 (Nl ds) w.toNat) HX=AD)
theorem FrE.more{ds:AE Ai}{t:Bl}{w:AA}(h:FrE ds t w)(D:Ai):FrE (ds++[D]) t w:=by
 obtain⟨b,f,c,d⟩:=h;refine⟨b,by rw[BA,EL];omega,λa=> ?_,λa=> ?_⟩
 ·obtain⟨g1,e⟩:=c a;refine⟨g1,?_⟩;have hd:P1 (ds++[D]) (w.toNat-1)=P1 ds (w.toNat-1):=Ow _ _ _ _ (by omega);rw[YS _ _ (by omega),hd];exact e
 ·rw[YS _ _ (by omega)];exact d a
structure FrI(m:AB)(ds:AE Ai)(ts:AE Bl)(wa:AE AA)(st:Bc):Prop where
 fp:FpI m ds ts
 bm:BM st
 st:st=C5 (Nl ds) ds.length
 wl:wa.length=ts.length
 el:∀k,k<ts.length->FrE ds (B5 ts k) (wa.getD k 0)/\DI ts k<2*(m:AA)
 tm:∀j k,j<k->k<ts.length->DI ts j<(B5 ts k).2.1/\DI ts j<DI ts k/\wa.getD j 0<=wa.getD k 0/\(E0 (B5 ts k).1=AD->wa.getD j 0<wa.getD k 0)
theorem FrI.skip{m:AB}{ds:AE Ai}{ts:AE Bl}{a:AE AA}{st:Bc}(h:FrI m ds ts a st):FrI (m+1) ds ts a st:=
 ⟨⟨h.fp.d,h.fp.t,by have:=h.fp.dl;omega,by have:=h.fp.tl;omega⟩,h.bm,h.st,h.wl,λk b=>⟨(h.el k b).1,by have:=(h.el k b).2;omega⟩,h.tm⟩
theorem FrI.add{m:AB}{ds a:AE Ai}{ts:AE Bl}{i:AE AA}{st d:Bc}{A:BH}{Z:Hg}{w:AA}(h:FrI m ds ts i st)(B:Gh A=AD)(C:HW A=AD)(D:Z.2.1.length<=2)(o:∀x,x∈a->D7 x=AD)(p:a.length<=m+1)(q:BM d)(r:d=C5 (Nl a) a.length)(f:∀t x,FrE ds t x->FrE a t x)(E:FrE a (A,2*(m:AA),2*(m:AA)+1,Z,()) w)(F:(ds.length:AA)<=w)(H3:E0 A=AD->(ds.length:AA)<w):
  FrI (m+1) a (ts++[(A,2*(m:AA),2*(m:AA)+1,Z,())]) (i++[w]) d:=by
 have b:∀k,k<ts.length->B5 (ts++[(A,2*(m:AA),2*(m:AA)+1,Z,())]) k=B5 ts k/\(i++[w]).getD k 0=i.getD k 0/\DI (ts++[(A,2*(m:AA),2*(m:AA)+1,Z,())]) k=DI ts k:=λk g=>by
  have v:B5 (ts++[(A,2*(m:AA),2*(m:AA)+1,Z,())]) k=B5 ts k:=Ow _ _ _ _ g;refine⟨v,Ow _ _ _ _ (by rw[h.wl];exact g),?_⟩;show(B5 _ k).2.2.1=(B5 ts k).2.2.1;rw[v]
 have c:B5 (ts++[(A,2*(m:AA),2*(m:AA)+1,Z,())]) ts.length=(A,2*(m:AA),2*(m:AA)+1,Z,()):=Ox _ _ _;have l:(i++[w]).getD ts.length 0=w:=by rw[<-h.wl];exact Ox _ _ _
 have hen:DI (ts++[(A,2*(m:AA),2*(m:AA)+1,Z,())]) ts.length=2*(m:AA)+1:=by
  show(B5 _ ts.length).2.2.1=_;rw[c]
 refine⟨⟨o,λx hx=> ?_,p,by rw[BA,EL];have:=h.fp.tl;omega⟩,q,r,by rw[BA,BA,h.wl];rfl,λk g=> ?_,λj k n g=> ?_⟩
 ·rcases CH.1 hx with hx|hx
  ·exact h.fp.t x hx
  ·rw[Cn.1 hx];exact⟨B,C,D⟩
 ·rw[BA,EL]at g;by_cases e:k=ts.length
  ·subst e;rw[c,l,hen];exact⟨E,by omega⟩
  ·obtain⟨y,a2,a3⟩:=b k (by omega);rw[y,a2,a3];obtain⟨s,z⟩:=h.el k (by omega);exact⟨f _ _ s,by omega⟩
 ·rw[BA,EL]at g;obtain⟨y,a2,a3⟩:=b j (by omega);by_cases e:k=ts.length
  ·subst e;obtain⟨s,z⟩:=h.el j n;obtain⟨-,c2, -⟩:=s;rw[c,l,hen,a2,a3];refine⟨z,by omega,by omega,λu=> ?_⟩;have:=H3 u;omega
  ·obtain⟨c1,c2,c3⟩:=b k (by omega);rw[a2,a3,c1,c2,c3];exact h.tm j k n (by omega)
def ADy(t:Bl)(bk:AE Bc)(ds:AE Ai)(tk:AE AH)(x:AB):Prop:=
 (E0 t.1=AD->0<x/\tk.getD x AK=AK/\HG t (C5 bk (x-1)) (P1 ds (x-1))=AD)/\(E0 t.1=AK->HG t (C5 bk x) HX=AD)
theorem qX{t:Bl}{bk:AE Bc}{ds:AE Ai}{tk:AE AH}{x:AB}(b:ADy t bk ds tk x):∀r p,p<=x->x<p+r->(U8 t bk ds tk r p).2.2.1=AD/\(p:AA)<=(U8 t bk ds tk r p).2.1/\(U8 t bk ds tk r p).2.1<=(x:AA)/\((U8 t bk ds tk r p).1=tk\/(U8 t bk ds tk r p).1=tk.set (U8 t bk ds tk r p).2.1.toNat AD)
 |0,p,d,f=>by omega
 |r+1,p,d,f=>by
  have go:p≠x->(U8 t bk ds tk r (p+1)).2.2.1=AD/\(p:AA)<=(U8 t bk ds tk r (p+1)).2.1/\(U8 t bk ds tk r (p+1)).2.1<=(x:AA)/\((U8 t bk ds tk r (p+1)).1=tk\/(U8 t bk ds tk r (p+1)).1=tk.set (U8 t bk ds tk r (p+1)).2.1.toNat AD):=λg=>by
   obtain⟨g1,i,g3,g4⟩:=qX b r (p+1) (by omega) (by omega);exact⟨g1,by omega,g3,g4⟩
  rw[nZ];cases c:E0 t.1
  ·rw[xF];cases a:HG t (C5 bk p) HX
   ·exact go λe=>by subst e;rw[b.2 c]at a;cases a
   ·exact⟨rfl,Hh _,by show(p:AA)<=x;omega,.inl rfl⟩
  ·rw[xT];cases a:(AG (0<p)&&(!tk.getD p AK&&HG t (C5 bk (p-1)) (P1 ds (p-1))))
   ·refine go λe=> ?_
    subst e;obtain⟨h,a2,a3⟩:=b.1 c;rw[BK h,a2,a3]at a;cases a
   ·exact⟨rfl,Hh _,by show(p:AA)<=x;omega,.inr rfl⟩
theorem ADz{t:Bl}{bk:AE Bc}{ds:AE Ai}{tk:AE AH}{x:AB}{lo:AA}(a:ADy t bk ds tk x)(c:0<=lo)(b:lo<=(x:AA))(d:x<bk.length):(Z0 t bk ds lo tk).2.2.1=AD/\lo<=(Z0 t bk ds lo tk).2.1/\(Z0 t bk ds lo tk).2.1<=(x:AA)/\((Z0 t bk ds lo tk).1=tk\/(Z0 t bk ds lo tk).1=tk.set (Z0 t bk ds lo tk).2.1.toNat AD):=by
 unfold Z0;cases nY t==503
 ·obtain⟨g1,e,g3,g4⟩:=qX a (bk.length-lo.toNat) lo.toNat (by omega) (by omega);exact⟨g1,by show lo<=(U8 t bk ds tk (bk.length-lo.toNat) lo.toNat).2.1;omega,g3,g4⟩
 ·exact⟨rfl,Hh _,b,.inl rfl⟩
structure GrI(n:AB)(wa:AE AA)(m:AB)(out:AE AA)(tk:AE AH):Prop where
 ol:out.length=n
 le:∀j,j<m->0<=out.getD j 0/\out.getD j 0<=wa.getD j 0
 mono:∀j k,j<k->k<m->out.getD j 0<=out.getD k 0
 tk:∀q,tk.getD q AK=AD->∃j,j<m/\out.getD j 0=(q:AA)
theorem US{G:AB}{ds:AE Ai}{ts:AE Bl}{t:AE AA}{st:Bc}(h:FrI G ds ts t st){od:AE AA}(g:od=Gn ts.length):
  ∀(r m:AB) (out:AE AA) (tk:AE AH),ts.length=m+r->GrI ts.length t m out tk->(Xz ts ds (Nl ds) od r m out tk).2.1=AD/\GrI ts.length t ts.length (Xz ts ds (Nl ds) od r m out tk).1 []
 |0,m,out,tk,H,c=>by
  have e:m=ts.length:=by omega
  subst e;exact⟨rfl,c.ol,c.le,c.mono,λq d=>by
   rw[Bg,List.getElem?_nil]at d;cases d⟩
 |r+1,m,out,tk,H,c=>by
  have b:m<ts.length:=by omega
  have I:od.getD m 0=(m:AA):=by rw[g,Bg,Ll b];rfl
  obtain⟨⟨w0,J,C,D⟩, -⟩:=h.el m b;have l:=SB ts out m (od.take m) 0;have n:∀x,x∈od.take m->∃j:AB,j<m/\x=(j:AA):=λx i=>by
   obtain⟨j,a⟩:=sV.1 i;rw[CB]at a
   split at a
   ·rename_i u;rw[g,Ll (by omega)]at a;exact⟨j,u,(Dw a).symm⟩
   ·cases a
  have E:FY ts out m (od.take m) 0<=t.getD m 0:=gW ts out m _ (od.take m) 0 w0 λx i _=>by
   obtain⟨j,a,rfl⟩:=n x i;have:=(c.le j a).2;have:=(h.tm j m a b).2.2.1;show out.getD j 0<=_;omega
  have o:∀j,j<m->out.getD j 0<=FY ts out m (od.take m) 0:=λj a=>by
   have v:(j:AA)∈od.take m:=by
    rw[sV];refine⟨j,?_⟩;rw[CB,Ae a,g,Ll (by omega)]
   exact gY ts out m (od.take m) 0 (j:AA) v (h.tm j m a b).1
  obtain⟨x,i⟩:=Int.eq_ofNat_of_zero_le w0;have p:ADy (B5 ts m) (Nl ds) ds tk x:=by
   rw[i]at C D;refine⟨λF=> ?_,D⟩;obtain⟨g1,w⟩:=C F;refine⟨by omega,?_,w⟩;cases d:tk.getD x AK
   ·rfl
   ·obtain⟨j,a,e⟩:=c.tk x d;have:=(c.le j a).2;have:=(h.tm j m a b).2.2.2 F;omega
  have y:x<(Nl ds).length:=by rw[YR];omega
  obtain⟨g1,w,g3,g4⟩:=ADz p l (by omega) y;have key:Xz ts ds (Nl ds) od (r+1) m out tk=Xz ts ds (Nl ds) od r (m+1) (out.set m (Z0 (B5 ts m) (Nl ds) ds (FY ts out m (od.take m) 0) tk).2.1) (Z0 (B5 ts m) (Nl ds) ds (FY ts out m (od.take m) 0) tk).1:=by
   show(bif (K4 ts ds (Nl ds) (od.getD m 0) (FY ts out (od.getD m 0).toNat (od.take m) 0) tk).2.2.1 then Xz ts ds (Nl ds) od r (m+1) (out.set (od.getD m 0).toNat (K4 ts ds (Nl ds) (od.getD m 0) (FY ts out (od.getD m 0).toNat (od.take m) 0) tk).2.1) (K4 ts ds (Nl ds) (od.getD m 0) (FY ts out (od.getD m 0).toNat (od.take m) 0) tk).1 else([],AK,()))=_
   rw[I,show(m:AA).toNat=m from rfl];show(bif (Z0 (B5 ts m) (Nl ds) ds (FY ts out m (od.take m) 0) tk).2.2.1 then _ else _)=_;rw[g1];rfl
  rw[key];generalize Z0 (B5 ts m) (Nl ds) ds (FY ts out m (od.take m) 0) tk=z at g1 w g3 g4;have A:m<out.length:=by rw[c.ol];exact b
  have f:∀j,(out.set m z.2.1).getD j 0=if j=m then z.2.1 else out.getD j 0:=λj=>ka _ _ _ _ _ A
  refine US h g r (m+1) _ _ (by omega) ⟨by rw[List.length_set];exact c.ol,λj a=> ?_,λj k B K=> ?_,λq d=> ?_⟩
  ·rw[f];by_cases e:j=m
   ·rw[Ae e,e,i];exact⟨by omega,g3⟩
   ·rw[AY e];exact c.le j (by omega)
  ·rw[f,f,AY (by omega)];by_cases e:k=m
   ·rw[Ae e];have:=o j (by omega);omega
   ·rw[AY e];exact c.mono j k B (by omega)
  ·have old:tk.getD q AK=AD->∃j,j<m+1/\(out.set m z.2.1).getD j 0=(q:AA):=λd=>by
    obtain⟨j,a,e⟩:=c.tk q d;exact⟨j,by omega,by rw[f,AY (by omega)];exact e⟩
   rcases g4 with e|e
   ·rw[e]at d;exact old d
   ·rw[e]at d;by_cases s:q=z.2.1.toNat
    ·refine⟨m,by omega,?_⟩;rw[f,Ae rfl,s];omega
    ·refine old ?_;rw[Bg,List.getElem?_set,AY (Ne.symm s)]at d;rw[Bg];exact d
theorem qY{n:AB}{e:AB->AA}(s:∀j k,j<k->k<n->e j<e k):NR n e=Gn n:=by
 obtain⟨o,w,l,t, -⟩:=Xy n e;have m:∀p q,p<q->q<n->o p<o q:=λp q r u=>by
  have h:=t p q r u;unfold lx at h;rcases Nat.lt_trichotomy (o p) (o q)with g|g|g
  ·exact g
  ·rw[g]at h;omega
  ·have:=s (o q) (o p) g (l p (by omega)).2;omega
 have i:∀d p,p+d<n->o p+d<=o (p+d):=λd=>by
  induction d with
  |zero=>intro p _;exact Ak _
  |succ d v=>
   intro p f;have a:=v p (by omega);have b:=m (p+d) (p+(d+1)) (by omega) f;omega
 have hid:∀p,p<n->o p=p:=λp f=>by
  have a:=i p 0 (by omega);have b:=i (n-1-p) p (by omega);have c:=(l (p+(n-1-p)) (by omega)).2;rw[CJ]at a;omega
 apply List.ext_getElem?;intro p;by_cases f:p<n
 ·rw[(l p f).1,hid p f,Ll f]
 ·rw[DA (by omega),DA (by rw[OP];omega)]
theorem eb{e:AB}{ds:AE Ai}{ts:AE Bl}{c:AE AA}{st:Bc}(h:FrI e ds ts c st):(dw ts ds).2.1=AD/\GrI ts.length c ts.length (dw ts ds).1 []:=by
 refine US h (qY λj k a d=>(h.tm j k a d).2.1) ts.length 0 _ _ (by omega) ⟨List.length_replicate ..,λj f=>by omega,λj k _ d=>by omega,λq b=> ?_⟩;rw[Bg,List.getElem?_replicate]at b
 split at b<;>cases b
theorem vu(A:BH)(t:L8)(d:AA)(e:L8)(er:AA):OZ A (lZ t d e er)=lZ t d e er:=by
 have h:=vp t d e er;unfold OZ;generalize lZ t d e er=x at h;obtain⟨a,b,c,⟨⟩⟩:=x;cases Tu A
 ·rfl
 ·rw[xT];show(a,b,[],())=(a,b,c,());rw[show c=[]from h]
theorem qZ{A:BH}{x:Hg}(h:x.2.1.length<=2):(OZ A x).2.1.length<=2:=by
 unfold OZ;cases Tu A<;>exact h
theorem yH{ts:AE Bl}{a:AE AA}{A:BH}{i:AB}{n:AA}{Y:Hg}{nx:AE Bl->AE AA->BO}(c:i<=1000)(d:ts.length<=19)(e:a.length<=19):
  frT ts a A (i:AA) n Y nx=nx (ts++[(A,2*(i:AA),2*(i:AA)+1,OZ A Y,())]) (a++[n]):=by
 have b:A4 .i64 ((i:AA)+1):=AZ.2 ⟨by omega,by omega⟩;have key:∀Z:Hg,iB ts a A (i:AA) n Z nx=nx (ts++[(A,2*(i:AA),2*(i:AA)+1,Z,())]) (a++[n]):=λZ=>by
  unfold iB;rw[An b,An (by rw[EL];omega),An (by rw[EL];omega),xG]
 unfold frT OZ;rw[key,key];cases Tu A<;>rfl
theorem AIA{m:AB}{ds:AE Ai}{ts:AE Bl}{b:AE AA}{st:Bc}{A:BH}{nx:AE Ai->AE Bl->AE AA->Bc->BO}{R:BO}(h:FrI m ds ts b st)(q:m<=14)(k:Gh A=AD)(a:HW A=AD)(i:E0 A=AD)(H:∀ds ts b st,FrI (m+1) ds ts b st->nx ds ts b st=R):frW ds ts b st A (m:AA) (YQ A (4294967296+((m:AA)+1))) nx=R:=by
 have j:Aw (YQ A (4294967296+((m:AA)+1))).2.1=true:=by rw[qV];exact uK k
 have c:Q1 A (YQ A (4294967296+((m:AA)+1)))=true:=by rw[gQ a i];exact lF _
 have r:=h.fp.dl;have s:=h.fp.tl;have u:=h.wl;have e:A4 .i64 ((m:AA)+1):=AZ.2 ⟨by omega,by omega⟩;unfold frW;generalize YQ A (4294967296+((m:AA)+1))=D at j c;rw[An (AZ.2 ⟨by omega,by omega⟩),An e,xG];cases hd:D7 D
 ·rw[xF,An e,BG j,xG];exact H _ _ _ _ h.skip
 ·rw[xT,BG (by rw[gR,qU k];rfl),An (by rw[EL];omega),BG (vn h.bm j),BG j,xG,yH (by omega) (by omega) (by omega),vu,gS];have l:(ds++[D]).length=ds.length+1:=by rw[BA];rfl
  have n:=yC h.bm hd;have hst:=h.st;refine H _ _ _ _ (h.add k a (ACS ..) (λy f=> ?_) (by omega) n (by rw[l,vq,<-hst]) (λt x g=>g.more D) ⟨by omega,Hh _,λ_=>⟨by omega,?_⟩,λg=> ?_⟩ (by omega) (λ_=>by omega))
  ·rcases CH.1 f with f|f
   ·exact h.fp.d y f
   ·rw[Cn.1 f];exact hd
  ·have o:((ds++[D]).length:AA).toNat-1=ds.length:=by omega
   have p:P1 (ds++[D]) ds.length=D:=Ox _ _ _;rw[o,p,YS _ _ (Ak _),<-hst];unfold HG;rw[show E0 _=AD from i,xT,show Q1 _ D=AD from c];exact UA _
  ·rw[show E0 A=AK from g]at i;cases i
theorem AIB{m:AB}{ds:AE Ai}{ts:AE Bl}{a:AE AA}{st:Bc}{A:BH}{nx:AE Ai->AE Bl->AE AA->Bc->BO}{R:BO}(h:FrI m ds ts a st)(i:m<=14)(e:Gh A=AD)(b:HW A=AD)(c:E0 A=AK)(f:Q3 A st=aY A st)(H:∀ds ts a st,FrI (m+1) ds ts a st->nx ds ts a st=R):frT ts a A (m:AA) (ds.length:AA) (Q3 A st) (λts a=>nx ds ts a st)=R:=by
 have j:=h.fp.dl;have k:=h.fp.tl;have l:=h.wl;have hst:=h.st;rw[yH (by omega) (by omega) (by omega)];refine H _ _ _ _ (h.add e b (qZ (uq ..)) h.fp.d (by omega) h.bm hst (λt x g=>g) ⟨by omega,Hh _,λg=> ?_,λ_=> ?_⟩ (Hh _) (λg=> ?_))
 ·rw[show E0 A=AD from g]at c;cases c
 ·show HG _ (C5 (Nl ds) ds.length) HX=AD;rw[<-hst];unfold HG;rw[show E0 _=AK from c,xF,f];exact UA _
 ·rw[g]at c;cases c
end Nice
namespace Go.Proofs.YtkgejlchafionaaGreatDoor
open Tryz
open Nice
theorem AIC{n:AB}{p d:AE AA}{ts:AE Bl}(u:n<=100)(h:GrI n d n p [])(v:d.length=n)(w:ts.length=n):∀(r i N:AB) (f:AA),n=i+r->(∀j,i<=j->j<n->f<=p.getD j 0)->vo (N+r+1) p ts d f (i:AA)=bO true:=by
 have lb:=h.ol;intro r
 induction r with
 |zero=>
  intro i N f l g;rw[Nat.add_zero,yD];unfold fr1;rw[Bm (by omega)]
 |succ r m=>
  intro i N f l g;have key:=m (i+1) N (p.getD i 0) (by omega) λj o k=>h.mono i j (by omega) k
  simp only[Dz,Fb]at key;have q:p.getD (i:AA).toNat (IT).dflt=p.getD i 0:=rfl;have s:d.getD (i:AA).toNat (IT).dflt=d.getD i 0:=rfl;have e:A4 .i64 ((i:AA)+1):=AZ.2 ⟨by omega,by omega⟩;have a:i<p.length:=by omega
  have b:i<d.length:=by omega
  have c:i<ts.length:=by omega
  have g1:=(h.le i (by omega)).2;have t:=g i (Ak _) (by omega);rw[show N+(r+1)+1=N+r+1+1 by omega,yD];unfold fr1;rw[q,s];generalize p.getD i 0=x at key g1 t;generalize d.getD i 0=y at g1;have c1:AG (x>y)=false:=BP (by omega);have c2:AG (x<f)=false:=BP (by omega)
  rw[Bn (by omega),c1,xF,c2,xF];cases(B5 ts (i:AA).toNat).1.1==2
  ·cases(B5 ts (i:AA).toNat).1.1==3
   ·rw[xF,xF,An e,GR a,GR c,GR c,GR a,GR b,Ki a];exact key
   ·rw[xF,xT,xF,An e,GR a,GR b,GR a,GR c,GR c,GR a,GR b,Ki a];exact key
  ·rw[xT,xF,An e,GR a,GR b,GR a,GR c,GR a,GR b,Ki a];exact key
theorem AID{m N:AB}{ds:AE Ai}{ts:AE Bl}{b:AE AA}{st:Bc}(h:FrI m ds ts b st)(k:m<=15)(hN:100<=N):frE N ds ts b=bO true:=by
 obtain⟨e, -⟩:=ADw h.fp (by omega);have g1:kV.pre (ts,ds,())=true:= @BK _ (PI _) e;obtain⟨f,a⟩:=eb h;have l:=h.fp.tl;have c:=h.wl;have g:=a.ol;have d:=AIC (ts:=ts) (by omega) a c rfl ts.length 0 (N-ts.length-1) 0 (by omega) λj _ i=>(a.le j i).1
 rw[show N-ts.length-1+ts.length+1=N by omega]at d;unfold frE;rw[f,xT,BG g1,xG,g,c,bne_self_eq_false,xF];exact d
theorem AIE{l:AE BH}(t:∀x,x∈l->C4 x.2.2.1=AD/\C4 x.2.2.2.2.2.2.2.2.1=AD):∀(r i N:AB) (ds:AE Ai) (ts:AE Bl) (a:AE AA) (st:Bc),i+r=15->FrI i ds ts a st->300+r<=N->Ni N l ds ts a st (i:AA)=bO true:=by
 intro r
 induction r with
 |zero=>
  intro i N ds ts a st u h hN;obtain⟨N,rfl⟩:∃q,N=q+1:=⟨N-1,by omega⟩
  rw[yE];unfold fr0;rw[AID h (by omega) (by omega),Bm (p:=(i:AA)<15) (by omega)];cases AG ((i:AA)<(l.length:AA))<;>rfl
 |succ r v=>
  intro i N ds ts a st u h hN;obtain⟨N,rfl⟩:∃q,N=q+1:=⟨N-1,by omega⟩
  rw[yE];unfold fr0;rw[AID h (by omega) (by omega),Bn (p:=(i:AA)<15) (by omega)];by_cases g:i<l.length
  ·have key:=λds ts a st h=>v (i+1) N ds ts a st (by omega) h (by omega)
   simp only[Dz,Fb]at key;have j:A4 .i64 ((i:AA)+1):=AZ.2 ⟨by omega,by omega⟩;have w:a8 l i∈l:=by
    unfold a8;rw[Bg,B4 g];exact EK _
   obtain⟨y,z⟩:=t _ w;have f:=kg (a8 l i) y z;rw[Bn (by omega),show(i:AA).toNat=i from rfl,Ki g];generalize VL (a8 l i)=A at f;cases b:HW A
   ·rw[xF,An j,BG f,xG];exact key ds ts a st h.skip
   ·have hst:=eY h.bm;have d:=Zy (A:=A) (s:=st) f b (by rw[hst];exact nW h.bm);rw[hst]at d;have c:A4 .i64 (2*(i:AA)):=AZ.2 ⟨by omega,by omega⟩;have e:E0 A=(A.1==2||A.1==3):=rfl;have n:E0 A=AD->frW ds ts a st A (i:AA) (YQ A (4294967296+((i:AA)+1))) (λds ts a st=>Ni N l ds ts a st ((i:AA)+1))=bO true:=λk=>AIA h (by omega) f b k key
    have B:E0 A=AK->frT ts a A (i:AA) (ds.length:AA) (Q3 A st) (λts a=>Ni N l ds ts a st ((i:AA)+1))=bO true:=λk=>AIB (nx:=λds ts a st=>Ni N l ds ts a st ((i:AA)+1)) h (by omega) f b k d.2.2 key
    rw[xT,BG d.2.1,An (AZ.2 ⟨by omega,by omega⟩),An c,An c,BG f,xG];cases m:A.1==2
    ·cases o:A.1==3
     ·rw[xF,xF];exact B (by rw[e,m,o];rfl)
     ·rw[xF,xT];exact n (by rw[e,m,o];rfl)
    ·rw[xT];exact n (by rw[e,m];rfl)
  ·rw[Bm (by omega)]
theorem ALu{l:AE BH}(b:∀x,x∈l->C4 x.2.2.1=AD/\C4 x.2.2.2.2.2.2.2.2.1=AD):ofr (l,())=some (AD,()):=by
 rw[AH8,AH9];exact AIE b 15 0 AU [] [] [] KL (by omega) ⟨⟨(λx h=>by cases h),(λx h=>by cases h),Ak _,Ak _⟩,YP,rfl,rfl,(λk a=>by cases a),(λj k _ a=>by cases a)⟩ (by unfold AU;omega)
theorem ALv:PC 5 (ofO [.slice BF] [.bool] ofr):=Ap (sh:=AV lE) (vm (l:=[(6,p4),(7,lq),(11,Qz),(12,Tk),(13,oQ),(14,p0),(15,Z8),(16,ADc),(19,kV)]) (o:=[]) (v:=[]) ⟨eZ,AAm,ANs,AE2,ACU,ADk,AGh,AHt,AF9,trivial⟩ trivial trivial) Al func5 (by kernel_rfl) (by decide)
theorem lG{w:World}(b:NP IP w){args:Array Value}{x:AM [.slice BF]}(d:CN (Yg w) [.slice BF] x args.toList)(a:BdL [.slice BF] x):Calls prog 5 args w λe w'=>e=.returned (.bool AD)/\DU w w':=
 lQ ALv (λx a=>by
  obtain⟨l,⟨⟩⟩:=x;have:=ALu (l:=l) λy c=>⟨oY (a.1.2 y c).2.2.1,oY (a.1.2 y c).2.2.2.2.2.2.2.2.1⟩
  exact⟨by show(ofr (l,())).isSome=AD;rw[this];rfl,by show(ofr (l,())).getD _=_;rw[this];rfl⟩) b d a
