/-
  Part of the proof. No condition.
-/
import Derived.Shelf.SlicesQ.IndexFunc
import Derived.Test.YtkgejlchafionaaGreatDoorG2
import Derived.Shelf.GgClosure.StringsIndexFunc
import Derived.Shelf.Strings.Cut
import Derived.Shelf.Strings.Split
import Derived.Shelf.Slices.Clone
import Derived.Shelf.LaysM
import Derived.Shelf.Strconv.Itoa3
import Derived.Shelf.Strconv.Itoa4
import Derived.Shelf.Strings.OnBuilder
open Array renaming toList_inj->I1
open Bool renaming and_eq_true->A0,and_false->Gl,and_true->Gt,false->AK,false_and->Ic,false_or->Iz,not_false->FU,not_true->GG,or_false->Mu,or_true->Jv,true->AD,true_and->Cz,true_or->I3
open ByteArray renaming empty->RI
open Decidable renaming decide->AG
open Eq renaming trans->FL
open Go renaming Calls->BU,Value->AJ,World->AN
open Go.IntKind renaming i64->E7,u64->GH,u8->FJ
open Go.Lib renaming TabIs->bU,countB->PE,cut->I4,itoa->Cr,join->FM,parseIntB->PF,pow10Tab->We,split->MA
open Go.Proofs.Lays renaming n145->AI4,n146->AI5,n156->AI6
open Go.Proofs.Lays2 renaming n16->AI7
open Go.Proofs.LaysC renaming n174->AI8
open Go.Proofs.LaysGw renaming n15->AI9
open Go.Proofs.LaysM renaming n171->AJA,n173->AJB
open Go.Proofs.SlLaysH0 renaming n6->yg
open Go.Shelf renaming Ren->I5
open Go.Value renaming int->Ht,string->E9
open Int renaming natCast_add->Dz,toNat_natCast->Hu
open List renaming all_cons->L7,all_nil->yh,drop->Kr,length_append->BA,length_cons->B7,length_drop->CC,length_singleton->EL,take->Ko
open Nat renaming le_refl->Ak,lt_of_lt_of_le->Wf,zero_le->Cx
open Option renaming none->AF,some->AC
open PUnit renaming unit->DE
open UInt8 renaming ofNat->Cj
open UInt8.toNat renaming inj->rP
open _root_ renaming Bool->AH,ByteArray->Cg,Int->AA,List->AE,Nat->AB,Option->AP,UInt8->Bo,beq_iff_eq->Be,beq_self_eq_true->GD,cond_false->BZ,cond_true->Ag,congrArg->BQ,decide_eq_false->BP,decide_eq_true->BK,decide_eq_true_eq->A6,decide_eq_true_iff->RJ,of_decide_eq_true->BL,reduceCtorEq->yi,rfl->AL,trivial->A3
set_option maxRecDepth 1000000
open Go Go.Eng
noncomputable section
namespace Go.Proofs
open Go.Shelf
def Tryz.idxV_ren:I5:=⟨λ|6=>201|n=>n,λ|22=>66|23=>72|25=>206|n=>n,λ|n=>n⟩
theorem Tryz.laysIdxV:yg Tryz.prog Tryz.idxV_ren:={
 mixed:=by kernel_rfl
 f6:=⟨Tryz.f201.name,by kernel_rfl,Tryz.func201.trans (BQ AC (by kernel_rfl))⟩
 t0:=Tryz.underlying0
 a0:=Tryz.isAgg0
 z0:=Tryz.sizeOf0
 v0:=Tryz.zeroValue0
 t3:=Tryz.underlying3
 a3:=Tryz.isAgg3
 z3:=Tryz.sizeOf3
 v3:=Tryz.zeroValue3
 t4:=Tryz.underlying4
 a4:=Tryz.isAgg4
 z4:=Tryz.sizeOf4
 v4:=Tryz.zeroValue4
 t22:=Tryz.underlying66
 a22:=Tryz.isAgg66
 z22:=Tryz.sizeOf66
 v22:=Tryz.zeroValue66
 t25:=Tryz.underlying206
 a25:=Tryz.isAgg206
 z25:=Tryz.sizeOf206
 v25:=Tryz.zeroValue206}
def Tryz.idxE_ren:I5:=⟨λ|6=>115|n=>n,λ|22=>24|23=>68|25=>70|n=>n,λ|n=>n⟩
theorem Tryz.laysIdxE:yg Tryz.prog Tryz.idxE_ren:={
 mixed:=by kernel_rfl
 f6:=⟨Tryz.f115.name,by kernel_rfl,Tryz.func115.trans (BQ AC (by kernel_rfl))⟩
 t0:=Tryz.underlying0
 a0:=Tryz.isAgg0
 z0:=Tryz.sizeOf0
 v0:=Tryz.zeroValue0
 t3:=Tryz.underlying3
 a3:=Tryz.isAgg3
 z3:=Tryz.sizeOf3
 v3:=Tryz.zeroValue3
 t4:=Tryz.underlying4
 a4:=Tryz.isAgg4
 z4:=Tryz.sizeOf4
 v4:=Tryz.zeroValue4
 t22:=Tryz.underlying24
 a22:=Tryz.isAgg24
 z22:=Tryz.sizeOf24
 v22:=Tryz.zeroValue24
 t25:=Tryz.underlying70
 a25:=Tryz.isAgg70
 z25:=Tryz.sizeOf70
 v25:=Tryz.zeroValue70}
def AA7(x:AA×AH×Cg):AE AJ:=[.int .i64 x.1,.bool x.2.1,.string x.2.2]
def AA8(x:Cg×AJ):AE AJ:=[.string x.1,x.2]
open Go.RowKit Go.Lib in
theorem Tryz.isVer(a:AA)(B o:AB)(w:AN)(d:B<w.heap.size)(b:w.cell? ⟨B,o,AF⟩=AC (.int .i64 a)):
  PredBelow Tryz.prog 202 #[.pointer (AC ⟨B,o,AF⟩)] (λx=>.agg (AA7 x).toArray) (λx=>x.1==a) w:=λW x c=>by
 have g:W.cell? ⟨B,o,AF⟩=AC (.int .i64 a):=(c.cell (p:=⟨B,o,AF⟩) d).trans b;have e:B<W.heap.size:=Wf d c.size;have f:B≠W.heap.size:=by omega
 show BU Tryz.prog 202 #[.agg #[.int .i64 x.1,.bool x.2.1,.string x.2.2],.pointer (AC ⟨B,o,AF⟩)] W _
 go_enter Tryz.func202,Tryz.ntmps202
 go_wp2
 all_goals (go_ret;exact⟨by simp_all,c.alloc c.size _⟩)
open Go.RowKit Go.Lib in
theorem Tryz.isKey(key:Cg)(B o:AB)(w:AN)(c:B<w.heap.size)(a:w.cell? ⟨B,o,AF⟩=AC (.string key)):
  PredBelow Tryz.prog 116 #[.pointer (AC ⟨B,o,AF⟩)] (λx=>.agg (AA8 x).toArray) (λx=>x.1.toList==key.toList) w:=λW x b=>by
 have f:W.cell? ⟨B,o,AF⟩=AC (.string key):=(b.cell (p:=⟨B,o,AF⟩) c).trans a;have d:B<W.heap.size:=Wf c b.size;have e:B≠W.heap.size:=by omega
 show BU Tryz.prog 116 #[.agg #[.string x.1,x.2],.pointer (AC ⟨B,o,AF⟩)] W _
 go_enter Tryz.func116,Tryz.ntmps116
 go_wp2
 all_goals (go_ret;exact⟨by simp_all,b.alloc b.size _⟩)
end Go.Proofs
namespace Go.Proofs.YtkgejlchafionaaGreatDoor
open Tryz
open Nice
abbrev fa:AE (AB×AE (AB×Sh)):=[]
def mK(x:AM [.byte]):AP (AM [.bool]):=fO prog (Aj []) (AV fa) f148 [.byte] [.bool] x
theorem mL(N:AB)(a:Bo){Qb}[Qb':QA (↑a.toNat:AA) Qb]{Qc}[Qc':QA (AC (AD,DE)) Qc]{Qa}[Qa':QA (bif Qb==46 then Qc else(bif Qb==45 then Qc else(bif Qb==95 then Qc else(bif Qb==47 then Qc else(AC (AK,DE)))))) Qa]{Qd}[Qd':QA (bif AG (Qb>=48)then(bif AG (Qb<=57)then Qc else Qa)else Qa) Qd]:Cy prog (Aj []) (AV fa) f148 [.byte] [.bool] N (a,())= (bif AG (Qb>=97)then(bif AG (Qb<=122)then Qc else Qd)else Qd):=by obtain⟨rfl⟩:=Qd';obtain⟨rfl⟩:=Qa';obtain⟨rfl⟩:=Qc';obtain⟨rfl⟩:=Qb';kernel_rfl
theorem AA9(a:Bo):mK (a,())=
 (bif AG ((↑a.toNat:AA)>=(97:AA))then
  (bif AG ((↑a.toNat:AA)<=(122:AA))then
   (AC (AD,DE))
  else
   (bif AG ((↑a.toNat:AA)>=(48:AA))then
    (bif AG ((↑a.toNat:AA)<=(57:AA))then
     (AC (AD,DE))
    else
     (bif (↑a.toNat:AA)==(46:AA)then
      (AC (AD,DE))
     else
      (bif (↑a.toNat:AA)==(45:AA)then
       (AC (AD,DE))
      else
       (bif (↑a.toNat:AA)==(95:AA)then
        (AC (AD,DE))
       else
        (bif (↑a.toNat:AA)==(47:AA)then
         (AC (AD,DE))
        else
         (AC (AK,DE)))))))
   else
    (bif (↑a.toNat:AA)==(46:AA)then
     (AC (AD,DE))
    else
     (bif (↑a.toNat:AA)==(45:AA)then
      (AC (AD,DE))
     else
      (bif (↑a.toNat:AA)==(95:AA)then
       (AC (AD,DE))
      else
       (bif (↑a.toNat:AA)==(47:AA)then
        (AC (AD,DE))
       else
        (AC (AK,DE))))))))
 else
  (bif AG ((↑a.toNat:AA)>=(48:AA))then
   (bif AG ((↑a.toNat:AA)<=(57:AA))then
    (AC (AD,DE))
   else
    (bif (↑a.toNat:AA)==(46:AA)then
     (AC (AD,DE))
    else
     (bif (↑a.toNat:AA)==(45:AA)then
      (AC (AD,DE))
     else
      (bif (↑a.toNat:AA)==(95:AA)then
       (AC (AD,DE))
      else
       (bif (↑a.toNat:AA)==(47:AA)then
        (AC (AD,DE))
       else
        (AC (AK,DE)))))))
  else
   (bif (↑a.toNat:AA)==(46:AA)then
    (AC (AD,DE))
   else
    (bif (↑a.toNat:AA)==(45:AA)then
     (AC (AD,DE))
    else
     (bif (↑a.toNat:AA)==(95:AA)then
      (AC (AD,DE))
     else
      (bif (↑a.toNat:AA)==(47:AA)then
       (AC (AD,DE))
      else
       (AC (AK,DE)))))))):=mL AU a
abbrev ca:AE (AB×AE (AB×Sh)):=[(2,[(0,(.one .sym)),(2,(.one .sym)),(5,(.one .sym)),(6,(.one .sym))])]
def N0(n:AB)(t0:L8)(t2:AH)(t5 t6:AA):AP (AM [.bool]):=rH prog (Aj [(148,UH)]) (AV ca) f100 [.bool] n 0 [(0,sy (.string (bs t0))),(2,.bool t2),(5,sy (.int .i64 t5)),(6,sy (.int .i64 t6))] []
def wy(x:AM [.str]):AP (AM [.bool]):=fO prog (Aj [(148,UH)]) (AV ca) f100 [.str] [.bool] x
theorem tM(N:AB)(a:L8):Cy prog (Aj [(148,UH)]) (AV ca) f100 [.str] [.bool] N (a,())=
 (N0 N (a) (AK) ((↑a.length:AA)) ((0:AA))):=by kernel_rfl
theorem AFZ(a:L8):wy (a,())=
 (N0 AU (a) (AK) ((↑a.length:AA)) ((0:AA))):=tM AU a
theorem fb(n:AB)(t0:L8)(t2:AH)(t5 t6:AA){Qa}[Qa':QA (↑(t0.getD t6.toNat 0).toNat:AA) Qa]{Qb}[Qb':QA (AC (AK,DE)) Qb]:N0 (n+1) t0 t2 t5 t6= (bif AG (t6<t5)then(bif El (Cj Qa.toNat)then(gd [AG (A4 E7 (t6+1)),AG (A4 FJ Qa),AG (0<=t6),AG (t6<t0.length)] (N0 n t0 t2 t5 (t6+1)))else(gd [AG (A4 FJ Qa),AG (0<=t6),AG (t6<t0.length)] Qb))else(bif AG ((↑t0.length:AA)>=1)then(bif AG ((↑t0.length:AA)<=40)then(AC (AD,DE))else Qb)else Qb)):=by obtain⟨rfl⟩:=Qb';obtain⟨rfl⟩:=Qa';kernel_rfl
abbrev cb:AE (AB×AE (AB×Sh)):=[(2,[(0,(.one .sym)),(2,(.one .sym)),(3,(.one .sym))])]
def N1(n:AB)(t0:L8)(t2:AH)(t3:AA):AP (AM [.bool]):=rH prog (Aj []) (AV cb) f26 [.bool] n 0 [(0,sy (.string (bs t0))),(2,.bool t2),(3,sy (.int .i64 t3))] []
def wz(x:AM [.str]):AP (AM [.bool]):=fO prog (Aj []) (AV cb) f26 [.str] [.bool] x
theorem tN(N:AB)(a:L8):Cy prog (Aj []) (AV cb) f26 [.str] [.bool] N (a,())=
 (N1 N (a) (AK) ((0:AA))):=by kernel_rfl
theorem AFa(a:L8):wz (a,())=
 (N1 AU (a) (AK) ((0:AA))):=tN AU a
theorem ANp(n:AB)(t0:L8)(t2:AH)(t3:AA){Qb}[Qb':QA (gd [AG (A4 E7 (t3+1))] (N1 n t0 t2 (t3+1))) Qb]{Qc}[Qc':QA (↑(t0.getD t3.toNat 0).toNat:AA) Qc]{Qe}[Qe':QA (AC (AK,DE)) Qe]{Qa}[Qa':QA (bif Qc !=46 then(bif Qc !=45 then(bif Qc !=95 then(bif Qc !=47 then Qe else Qb)else Qb)else Qb)else Qb) Qa]{Qd}[Qd':QA (bif AG (Qc<48)then Qa else(bif AG (Qc>57)then Qa else Qb)) Qd]:N1 (n+1) t0 t2 t3= (bif AG (t3<t0.length)then(gd [AG (0<=t3),AG (t3<t0.length)] (bif AG (Qc<97)then Qd else(bif AG (Qc>122)then Qd else Qb)))else(bif AG ((↑t0.length:AA)>=1)then(bif AG ((↑t0.length:AA)<=40)then(AC (AD,DE))else Qe)else Qe)):=by obtain⟨rfl⟩:=Qd';obtain⟨rfl⟩:=Qa';obtain⟨rfl⟩:=Qe';obtain⟨rfl⟩:=Qc';obtain⟨rfl⟩:=Qb';kernel_rfl
abbrev mM:AE (AB×AE (AB×Sh)):=[]
def w3(x:AM [.str,.int .i64,.int .i64,.int .i64]):AP (AM [.int .i64,.bool]):=fO prog (Aj [(188,hY 189),(190,NY)]) (AV mM) f142 [.str,.int .i64,.int .i64,.int .i64] [.int .i64,.bool] x
theorem tO(N:AB)(a:L8)(b c d:AA){Qa}[Qa':QA (AC ((Es a).fst,AK,DE)) Qa]{Qb}[Qb':QA (AG ((10:AA)=10)&&AG ((64:AA)=64)) Qb]:Cy prog (Aj [(188,hY 189),(190,NY)]) (AV mM) f142 [.str,.int .i64,.int .i64,.int .i64] [.int .i64,.bool] N (a,b,c,d,())= (bif AG (p5 a>=0)then(gd [Aw a&&Qb] Qa)else(gd [Aw a&&Qb] (bif (Es a).snd then(bif AG ((↑a.length:AA)<=b)then(bif AG ((Es a).fst>=c)then(bif AG ((Es a).fst<=d)then(AC ((Es a).fst,AD,DE))else Qa)else Qa)else Qa)else Qa))):=by obtain⟨rfl⟩:=Qb';obtain⟨rfl⟩:=Qa';kernel_rfl
theorem AFb(a:L8)(b c d:AA):w3 (a,b,c,d,())=
 (bif AG (p5 a>=(0:AA))then
  (gd [Aw a&&(AG ((10:AA)=(10:AA))&&AG ((64:AA)=(64:AA)))] (AC ((Es a).fst,AK,DE)))
 else
  (gd [Aw a&&(AG ((10:AA)=(10:AA))&&AG ((64:AA)=(64:AA)))] (bif (Es a).snd then
   (bif AG ((↑a.length:AA)<=b)then
    (bif AG ((Es a).fst>=c)then
     (bif AG ((Es a).fst<=d)then
      (AC ((Es a).fst,AD,DE))
     else
      (AC ((Es a).fst,AK,DE)))
    else
     (AC ((Es a).fst,AK,DE)))
   else
    (AC ((Es a).fst,AK,DE)))
  else
   (AC ((Es a).fst,AK,DE))))):=tO AU a b c d
abbrev AFc:AE (AB×AE (AB×Sh)):=[]
def ohp(x:AM [.str,.str]):AP (AM [.bool]):=fO prog (Aj []) (AV AFc) f138 [.str,.str] [.bool] x
theorem AFd(N:AB)(b a:L8):Cy prog (Aj []) (AV AFc) f138 [.str,.str] [.bool] N (b,a,())=
 (bif AG ((↑b.length:AA)>=(↑a.length:AA))then
  (bif Ko (↑a.length:AA).toNat b==a then
   (gd [AG ((↑a.length:AA)<=(↑b.length:AA))] (AC (AD,DE)))
  else
   (gd [AG ((↑a.length:AA)<=(↑b.length:AA))] (AC (AK,DE))))
 else
  (AC (AK,DE))):=by kernel_rfl
theorem ehp(b a:L8):ohp (b,a,())=
 (bif AG ((↑b.length:AA)>=(↑a.length:AA))then
  (bif Ko (↑a.length:AA).toNat b==a then
   (gd [AG ((↑a.length:AA)<=(↑b.length:AA))] (AC (AD,DE)))
  else
   (gd [AG ((↑a.length:AA)<=(↑b.length:AA))] (AC (AK,DE))))
 else
  (AC (AK,DE))):=AFd AU b a
abbrev AFe:AE (AB×AE (AB×Sh)):=[]
def ocp(x:AM [.str,.str]):AP (AM [.str,.bool]):=fO prog (Aj [(138,Bz)]) (AV AFe) f193 [.str,.str] [.str,.bool] x
theorem AFf(N:AB)(a b:L8):Cy prog (Aj [(138,Bz)]) (AV AFe) f193 [.str,.str] [.str,.bool] N (a,b,())=
 (bif Bt a b then
  (gd [AG ((↑b.length:AA)<=(↑a.length:AA))] (AC (Kr (↑b.length:AA).toNat a,AD,DE)))
 else
  (AC (a,AK,DE))):=by kernel_rfl
theorem ecp(a b:L8):ocp (a,b,())=
 (bif Bt a b then
  (gd [AG ((↑b.length:AA)<=(↑a.length:AA))] (AC (Kr (↑b.length:AA).toNat a,AD,DE)))
 else
  (AC (a,AK,DE))):=AFf AU a b
abbrev Pe:AE (AB×AE (AB×Sh)):=[(2,[(0,(.one .sym)),(2,(.one .sym)),(3,(.one .sym))])]
def IB(n:AB)(t0:AA)(t2 t3:L8):AP (AM [.str]):=rH prog (Aj []) (AV Pe) f57 [.str] n 0 [(0,sy (.int .u64 t0)),(2,sy (.string (bs t2))),(3,sy (.string (bs t3)))] []
def Y8(x:AM [.int .u64]):AP (AM [.str]):=fO prog (Aj []) (AV Pe) f57 [.int .u64] [.str] x
theorem cd(N:AB)(a:AA):Cy prog (Aj []) (AV Pe) f57 [.int .u64] [.str] N (a,())=
 (IB N (a) ([]) ([])):=by kernel_rfl
theorem mN(a:AA):Y8 (a,())=
 (IB AU (a) ([]) ([])):=cd AU a
theorem cg(n:AB)(t0:AA)(t2 t3:L8){Qa}[Qa':QA (FJ.wrap (GH.wrap ((48:AA)+t0.tmod ((10:AA))))) Qa]:IB (n+1) t0 t2 t3= (gd [AG ([Cj Qa.toNat].length+t3.length<=1099511627776)] (bif GH.wrap (t0.tdiv ((10:AA)))==0 then(AC ([Cj Qa.toNat]++t3,DE))else(IB n (GH.wrap (t0.tdiv ((10:AA)))) t2 ([Cj Qa.toNat]++t3)))):=by obtain⟨rfl⟩:=Qa';kernel_rfl
abbrev Va:AE (AB×AE (AB×Sh)):=[]
def Y9(x:AM [.int .i64]):AP (AM [.str]):=fO prog (Aj [(57,hZ)]) (AV Va) f31 [.int .i64] [.str] x
theorem ANb(N:AB)(a:AA){Qa}[Qa':QA (GH.wrap ((0:AA)-(a+1))+1) Qa]:Cy prog (Aj [(57,hZ)]) (AV Va) f31 [.int .i64] [.str] N (a,())= (bif AG (a<0)then(gd [AG (1+(Oq (GH.wrap Qa)).length<=1099511627776),AG (0<=GH.wrap Qa)&&AG (GH.wrap Qa<18446744073709551616),AG (A4 E7 ((0:AA)-(a+1))),AG (A4 E7 (a+1))] (AC ([45]++Oq (GH.wrap Qa),DE)))else(gd [AG (0<=GH.wrap a)&&AG (GH.wrap a<18446744073709551616)] (AC (Oq (GH.wrap a),DE)))):=by obtain⟨rfl⟩:=Qa';kernel_rfl
theorem mO(a:AA):Y9 (a,())=
 (bif AG (a<(0:AA))then
  (gd [AG (1+(Oq (GH.wrap (GH.wrap ((0:AA)-(a+(1:AA)))+(1:AA)))).length<=1099511627776),AG ((0:AA)<=GH.wrap (GH.wrap ((0:AA)-(a+(1:AA)))+(1:AA)))&&AG (GH.wrap (GH.wrap ((0:AA)-(a+(1:AA)))+(1:AA))<(18446744073709551616:AA)),AG (A4 E7 ((0:AA)-(a+(1:AA)))),AG (A4 E7 (a+(1:AA)))] (AC ([45]++Oq (GH.wrap (GH.wrap ((0:AA)-(a+(1:AA)))+(1:AA))),DE)))
 else
  (gd [AG ((0:AA)<=GH.wrap a)&&AG (GH.wrap a<(18446744073709551616:AA))] (AC (Oq (GH.wrap a),DE)))):=ANb AU a
open Nice
theorem jP{c:Bo}:El c=AD↔(97<=c.toNat/\c.toNat<=122\/48<=c.toNat/\c.toNat<=57\/c.toNat=46\/c.toNat=45\/c.toNat=95\/c.toNat=47):=by
 unfold El;rw[RJ]
theorem jQ{c:Bo}:El c=AK↔¬(97<=c.toNat/\c.toNat<=122\/48<=c.toNat/\c.toNat<=57\/c.toNat=46\/c.toNat=45\/c.toNat=95\/c.toNat=47):=by
 unfold El;rw[decide_eq_false_iff_not]
theorem beT{α:Type}{n m:AA}{a b:α}(h:n=m):(bif n==m then a else b)=a:=by subst h;rw[show(n==n)=AD from GD n];rfl
theorem beF{α:Type}{n m:AA}{a b:α}(h:n≠m):(bif n==m then a else b)=b:=by rw[show(n==m)=AK from beq_eq_false_iff_ne.2 h];rfl
theorem bnT{α:Type}{n m:AA}{a b:α}(h:n≠m):(bif n !=m then a else b)=a:=by rw[show(n !=m)=AD from bne_iff_ne.2 h];rfl
theorem bnF{α:Type}{n m:AA}{a b:α}(h:n=m):(bif n !=m then a else b)=b:=by rw[show(n !=m)=AK from by subst h;exact bne_self_eq_false n];rfl
theorem Vb(c:Bo):(c.toNat=45/\El c=AD)\/(c.toNat=46/\El c=AD)\/(c.toNat=47/\El c=AD)\/((48<=c.toNat/\c.toNat<=57)/\El c=AD)\/(c.toNat=95/\El c=AD)\/((97<=c.toNat/\c.toNat<=122)/\El c=AD)\/
  (c.toNat<45/\El c=AK)\/((57<c.toNat/\c.toNat<97/\c.toNat≠95)/\El c=AK)\/(122<c.toNat/\El c=AK):=by
 by_cases h:El c=AD
 ·have:=jP.1 h;rw[h];simp only[and_true,yi,and_false,or_false];omega
 ·have h:El c=false:=by simpa using h
  have:=jQ.1 h;rw[h];simp only[and_true,yi,and_false,false_or];omega
theorem tP(c:Bo):mK (c,())=AC (El c,()):=by
 rw[AA9];rcases Vb c with⟨h,e⟩|⟨h,e⟩|⟨h,e⟩|⟨h,e⟩|⟨h,e⟩|⟨h,e⟩|⟨h,e⟩|⟨h,e⟩|⟨h,e⟩<;>rw[e]<;>simp(disch:=omega) only[Bn,Bm,beT,beF]
theorem mP(t2:AH)(s:L8)(i:s.length<=140737488355328):∀(a done:L8) (n:AB),s=done++a->a.length<n->N0 n s t2 (s.length:AA) (done.length:AA)=AC (a.all El&&(AG (1<=s.length)&&AG (s.length<=40)),())
 |[],done,n,b,e=>by
  obtain⟨m,rfl⟩:∃m,n=m+1:=⟨n-1,by omega⟩
  have:s.length=done.length:=by rw[b];simp
  rw[fb,Bm (by omega)];simp only[yh,Cz];by_cases d:1<=s.length
  ·rw[Bn (by omega)];by_cases f:s.length<=40
   ·rw[Bn (by omega)];simp[d,f]
   ·rw[Bm (by omega)];simp[d,f]
  ·rw[Bm (by omega)];simp[d]
 |c::a,done,n,b,e=>by
  obtain⟨m,rfl⟩:∃m,n=m+1:=⟨n-1,by omega⟩
  have j:s.length=done.length+(a.length+1):=by rw[b];simp
  simp only[B7]at e;have g:=mP t2 s i a (done++[c]) m (by simp[b]) (by omega);simp only[BA,EL,Dz]at g;have k:s.getD done.length 0=c:=by rw[b,Hc]
  have l:=c.toNat_lt;rw[fb];simp only[Hu,k,UInt8.ofNat_toNat];rw[Bn (by omega)];cases h:El c
  ·rw[BZ];simp(disch:=omega) only[An,Cm,NX];simp[h]
  ·rw[Ag];simp(disch:=omega) only[An,Cm,NX,AZ];simp only[L7,h,Cz];exact g
theorem ABA(s:L8)(h:Aw s=AD):wy (s,())=AC (isKey s,()):=by
 have h:s.length<=140737488355328:=BL h;rw[AFZ];exact mP AK s h s [] AU rfl (by unfold AU;omega)
theorem mQ(t2:AH)(s:L8)(j:s.length<=140737488355328):∀(a done:L8) (n:AB),s=done++a->a.length<n->N1 n s t2 (done.length:AA)=AC (a.all El&&(AG (1<=s.length)&&AG (s.length<=40)),())
 |[],done,n,b,f=>by
  obtain⟨m,rfl⟩:∃m,n=m+1:=⟨n-1,by omega⟩
  have:s.length=done.length:=by rw[b];simp
  rw[ANp,Bm (by omega)];simp only[yh,Cz];by_cases d:1<=s.length
  ·rw[Bn (by omega)];by_cases g:s.length<=40
   ·rw[Bn (by omega)];simp[d,g]
   ·rw[Bm (by omega)];simp[d,g]
  ·rw[Bm (by omega)];simp[d]
 |c::a,done,n,b,f=>by
  obtain⟨m,rfl⟩:∃m,n=m+1:=⟨n-1,by omega⟩
  have k:s.length=done.length+(a.length+1):=by rw[b];simp
  simp only[B7]at f;have i:=mQ t2 s j a (done++[c]) m (by simp[b]) (by omega);simp only[BA,EL,Dz]at i;have l:s.getD done.length 0=c:=by rw[b,Hc]
  have o:=c.toNat_lt;rw[ANp];simp only[Hu,l];rcases Vb c with⟨h,e⟩|⟨h,e⟩|⟨h,e⟩|⟨h,e⟩|⟨h,e⟩|⟨h,e⟩|⟨h,e⟩|⟨h,e⟩|⟨h,e⟩<;>simp(disch:=omega) only[Bn,Bm,bnT,bnF,An,Cm,AZ]<;>simp only[L7,e,Cz,Ic]<;>first|rfl|exact i
theorem ABB(s:L8)(h:Aw s=AD):wz (s,())=AC (isKey s,()):=by
 have h:s.length<=140737488355328:=BL h;rw[AFa];exact mQ AK s h s [] AU rfl (by unfold AU;omega)
theorem ABC(s:L8)(a lo b:AA)(h:Aw s=AD):w3 (s,a,lo,b,())=AC ((Ho s a lo b).1,(Ho s a lo b).2,()):=by
 rw[AFb];have f:(Aw s&&(AG True&&AG True))=true:=by rw[h];rfl
 simp only[BG f,Cm,vX,Ho];cases E3 s
 ·simp only[FU,Ag,Ic]
 ·simp only[GG,BZ,Cz];cases(Es s).2
  ·simp only[BZ,Ic]
  ·simp only[Ag,Cz];by_cases c:(s.length:AA)<=a
   ·rw[Bn c,BK c,Cz];by_cases d:(Es s).1>=lo
    ·rw[Bn d,BK d,Cz];by_cases e:(Es s).1<=b
     ·rw[Bn e,BK e]
     ·rw[Bm e,BP e]
    ·rw[Bm d,BP d,Ic]
   ·rw[Bm c,BP c,Ic]
theorem AKn(s p:L8):ohp (s,p,())=AC (Bt s p,()):=by
 rw[ehp];unfold Bt;by_cases h:p.length<=s.length
 ·rw[Bn (by omega),BK h,Cz,An (by omega),An (by omega),Cm,Cm,Hu];cases(s.take p.length==p)<;>rfl
 ·rw[Bm (by omega),BP h,Ic]
theorem Gx{s p:L8}(h:Bt s p=AD):p.length<=s.length:=by
 unfold Bt at h;rw[A0,A6]at h;exact h.1
theorem AKo(s p:L8):ocp (s,p,())=AC ((CK s p).1,(CK s p).2,()):=by
 rw[ecp];unfold CK;cases a:Bt s p
 ·rfl
 ·have:=Gx a;rw[Ag,Ag,An (by omega),Cm,Hu]
end Go.Proofs.YtkgejlchafionaaGreatDoor
namespace Go.Proofs
open Go.Shelf
def Tryz.laysC174_ren:I5:=⟨λ|174=>190|247=>233|245=>234|287=>264|279=>265|280=>266|281=>267|282=>268|321=>287|322=>288|316=>289|171=>50|205=>290|243=>92|246=>90|283=>131|284=>132|285=>133|286=>134|129=>179|317=>178|318=>180|319=>181|320=>182|337=>224|338=>225|n=>n,λ|9=>9|3=>3|2=>2|75=>192|85=>247|4=>4|167=>298|5=>5|53=>119|175=>299|46=>211|168=>301|37=>156|0=>0|210=>316|21=>21|127=>242|145=>340|143=>338|171=>182|173=>185|212=>238|51=>239|20=>20|213=>240|232=>292|233=>293|80=>148|n=>n,λ|15=>5|16=>6|17=>0|18=>1|19=>2|n=>n⟩
theorem Tryz.laysC174:AI8 Tryz.prog Tryz.laysC174_ren:={
 mixed:=by kernel_rfl
 f129:=Tryz.func179.trans (BQ AC (by kernel_rfl))
 f171:=Tryz.func50.trans (BQ AC (by kernel_rfl))
 f174:=Tryz.func190.trans (BQ AC (by kernel_rfl))
 f205:=Tryz.func290.trans (BQ AC (by kernel_rfl))
 f243:=Tryz.func92.trans (BQ AC (by kernel_rfl))
 f245:=Tryz.func234.trans (BQ AC (by kernel_rfl))
 f246:=Tryz.func90.trans (BQ AC (by kernel_rfl))
 f247:=Tryz.func233.trans (BQ AC (by kernel_rfl))
 f279:=Tryz.func265.trans (BQ AC (by kernel_rfl))
 f280:=Tryz.func266.trans (BQ AC (by kernel_rfl))
 f281:=Tryz.func267.trans (BQ AC (by kernel_rfl))
 f282:=Tryz.func268.trans (BQ AC (by kernel_rfl))
 f283:=Tryz.func131.trans (BQ AC (by kernel_rfl))
 f284:=Tryz.func132.trans (BQ AC (by kernel_rfl))
 f285:=Tryz.func133.trans (BQ AC (by kernel_rfl))
 f286:=Tryz.func134.trans (BQ AC (by kernel_rfl))
 f287:=Tryz.func264.trans (BQ AC (by kernel_rfl))
 f316:=Tryz.func289.trans (BQ AC (by kernel_rfl))
 f317:=Tryz.func178.trans (BQ AC (by kernel_rfl))
 f318:=Tryz.func180.trans (BQ AC (by kernel_rfl))
 f319:=Tryz.func181.trans (BQ AC (by kernel_rfl))
 f320:=Tryz.func182.trans (BQ AC (by kernel_rfl))
 f321:=Tryz.func287.trans (BQ AC (by kernel_rfl))
 f322:=Tryz.func288.trans (BQ AC (by kernel_rfl))
 f337:=Tryz.func224.trans (BQ AC (by kernel_rfl))
 f338:=Tryz.func225.trans (BQ AC (by kernel_rfl))
 t0:=Tryz.underlying0
 a0:=Tryz.isAgg0
 z0:=Tryz.sizeOf0
 v0:=Tryz.zeroValue0
 t2:=Tryz.underlying2
 a2:=Tryz.isAgg2
 z2:=Tryz.sizeOf2
 v2:=Tryz.zeroValue2
 t3:=Tryz.underlying3
 a3:=Tryz.isAgg3
 z3:=Tryz.sizeOf3
 v3:=Tryz.zeroValue3
 t4:=Tryz.underlying4
 a4:=Tryz.isAgg4
 z4:=Tryz.sizeOf4
 v4:=Tryz.zeroValue4
 t5:=Tryz.underlying5
 a5:=Tryz.isAgg5
 z5:=Tryz.sizeOf5
 v5:=Tryz.zeroValue5
 t9:=Tryz.underlying9
 a9:=Tryz.isAgg9
 z9:=Tryz.sizeOf9
 v9:=Tryz.zeroValue9
 t20:=Tryz.underlying20
 a20:=Tryz.isAgg20
 z20:=Tryz.sizeOf20
 v20:=Tryz.zeroValue20
 t21:=Tryz.underlying21
 a21:=Tryz.isAgg21
 z21:=Tryz.sizeOf21
 v21:=Tryz.zeroValue21
 t37:=Tryz.underlying156
 a37:=Tryz.isAgg156
 z37:=Tryz.sizeOf156
 v37:=Tryz.zeroValue156
 t46:=Tryz.underlying211
 a46:=Tryz.isAgg211
 z46:=Tryz.sizeOf211
 v46:=Tryz.zeroValue211
 t51:=Tryz.underlying239
 a51:=Tryz.isAgg239
 z51:=Tryz.sizeOf239
 v51:=Tryz.zeroValue239
 t53:=Tryz.underlying119
 a53:=Tryz.isAgg119
 z53:=Tryz.sizeOf119
 v53:=Tryz.zeroValue119
 t75:=Tryz.underlying192
 a75:=Tryz.isAgg192
 z75:=Tryz.sizeOf192
 v75:=Tryz.zeroValue192
 t85:=Tryz.underlying247
 a85:=Tryz.isAgg247
 z85:=Tryz.sizeOf247
 v85:=Tryz.zeroValue247
 t127:=Tryz.underlying242
 a127:=Tryz.isAgg242
 z127:=Tryz.sizeOf242
 v127:=Tryz.zeroValue242
 t143:=Tryz.underlying338
 a143:=Tryz.isAgg338
 z143:=Tryz.sizeOf338
 v143:=Tryz.zeroValue338
 t145:=Tryz.underlying340
 a145:=Tryz.isAgg340
 z145:=Tryz.sizeOf340
 v145:=Tryz.zeroValue340
 t167:=Tryz.underlying298
 a167:=Tryz.isAgg298
 z167:=Tryz.sizeOf298
 v167:=Tryz.zeroValue298
 t168:=Tryz.underlying301
 a168:=Tryz.isAgg301
 z168:=Tryz.sizeOf301
 v168:=Tryz.zeroValue301
 t171:=Tryz.underlying182
 a171:=Tryz.isAgg182
 z171:=Tryz.sizeOf182
 v171:=Tryz.zeroValue182
 t173:=Tryz.underlying185
 a173:=Tryz.isAgg185
 z173:=Tryz.sizeOf185
 v173:=Tryz.zeroValue185
 t175:=Tryz.underlying299
 a175:=Tryz.isAgg299
 z175:=Tryz.sizeOf299
 v175:=Tryz.zeroValue299
 t210:=Tryz.underlying316
 a210:=Tryz.isAgg316
 z210:=Tryz.sizeOf316
 v210:=Tryz.zeroValue316
 t212:=Tryz.underlying238
 a212:=Tryz.isAgg238
 z212:=Tryz.sizeOf238
 v212:=Tryz.zeroValue238
 t213:=Tryz.underlying240
 a213:=Tryz.isAgg240
 z213:=Tryz.sizeOf240
 t232:=Tryz.underlying292
 a232:=Tryz.isAgg292
 z232:=Tryz.sizeOf292
 v232:=Tryz.zeroValue292
 t233:=Tryz.underlying293
 a233:=Tryz.isAgg293
 z233:=Tryz.sizeOf293
 v233:=Tryz.zeroValue293
 g15:=by kernel_rfl
 g16:=by kernel_rfl
 g17:=by kernel_rfl
 g18:=by kernel_rfl
 g19:=by kernel_rfl
 t80:=Tryz.underlying148
 a80:=Tryz.isAgg148
 z80:=Tryz.sizeOf148
 v80:=Tryz.zeroValue148
 i0:=by kernel_rfl
 i2:=by kernel_rfl
 i3:=by kernel_rfl
 i4:=by kernel_rfl
 i5:=by kernel_rfl
 i9:=by kernel_rfl
 i20:=by kernel_rfl
 i21:=by kernel_rfl
 i37:=by kernel_rfl
 i46:=by kernel_rfl
 i51:=by kernel_rfl
 i53:=by kernel_rfl
 i75:=by kernel_rfl
 i80:=by kernel_rfl
 i85:=by kernel_rfl
 i127:=by kernel_rfl
 i143:=by kernel_rfl
 i145:=by kernel_rfl
 i167:=by kernel_rfl
 i168:=by kernel_rfl
 i171:=by kernel_rfl
 i173:=by kernel_rfl
 i175:=by kernel_rfl
 i210:=by kernel_rfl
 i212:=by kernel_rfl
 i232:=by kernel_rfl
 i233:=by kernel_rfl
 m15:=by kernel_rfl
 m16:=by kernel_rfl
 m17:=by kernel_rfl
 m18:=by kernel_rfl
 m19:=by kernel_rfl
 c0:=by kernel_rfl
 c2:=by kernel_rfl
 c3:=by kernel_rfl
 c4:=by kernel_rfl
 c5:=by kernel_rfl
 c9:=by kernel_rfl
 c20:=by kernel_rfl
 c21:=by kernel_rfl
 c37:=by kernel_rfl
 c46:=by kernel_rfl
 c51:=by kernel_rfl
 c53:=by kernel_rfl
 c75:=by kernel_rfl
 c80:=by kernel_rfl
 c85:=by kernel_rfl
 c127:=by kernel_rfl
 c143:=by kernel_rfl
 c145:=by kernel_rfl
 c167:=by kernel_rfl
 c168:=by kernel_rfl
 c171:=by kernel_rfl
 c173:=by kernel_rfl
 c175:=by kernel_rfl
 c210:=by kernel_rfl
 c212:=by kernel_rfl
 c213:=by kernel_rfl
 c232:=by kernel_rfl
 c233:=by kernel_rfl}
open Go.RowKit in
theorem Tryz.strconv_ParseInt_10_at64_ok(s:Cg)(a:s.size<=9223372036854775806)(v:AA)(h:PF 64 s.data.toList=.ok v)(w:AN):
 BU Tryz.prog 190 #[.string s,.int .i64 10,.int .i64 64] w λe w'=>e=.returned (.tuple #[.int .i64 v,.nilIface])/\(w'=w\/∃t,w'=Lib.bytesWorld w 5 t):=Any.strconv_ParseInt_10_at64_ok Tryz.laysC174 s a v h w
open Go.RowKit in
theorem Tryz.strconv_ParseInt_10_at64_syntax(s:Cg)(a:s.size<=281474976710656)(h:PF 64 s.data.toList=Lib.NumEnd.syntax)(ev:AJ)(w:AN)(c:w.cell? ⟨5,0,AF⟩=AC ev)(b:ev=.nilIface\/∃d f,ev=.iface d f):
 BU Tryz.prog 190 #[.string s,.int .i64 10,.int .i64 64] w λe w'=>∃N,e=.returned (.tuple #[.int .i64 (0),.iface 301 (.pointer (AC ⟨N,0,AF⟩))])/\w.heap.size<=N/\w'.heap[N]?=AC (.cells #[.string ⟨#[80,97,114,115,101,73,110,116]⟩,.string s,ev] 316 (0,0))/\Below w.heap.size w w':=Any.strconv_ParseInt_10_at64_syntax Tryz.laysC174 s a h ev w c b
open Go.RowKit in
theorem Tryz.strconv_ParseInt_10_at64_range(s:Cg)(a:s.size<=281474976710656)(h:PF 64 s.data.toList=.range)(ev:AJ)(w:AN)(c:w.cell? ⟨6,0,AF⟩=AC ev)(b:ev=.nilIface\/∃d f,ev=.iface d f):
 BU Tryz.prog 190 #[.string s,.int .i64 10,.int .i64 64] w λe w'=>∃N,e=.returned (.tuple #[.int .i64 (Lib.intSat 64 s.data.toList),.iface 301 (.pointer (AC ⟨N,0,AF⟩))])/\w.heap.size<=N/\w'.heap[N]?=AC (.cells #[.string ⟨#[80,97,114,115,101,73,110,116]⟩,.string s,ev] 316 (0,0))/\Below w.heap.size w w':=Any.strconv_ParseInt_10_at64_range Tryz.laysC174 s a h ev w c b
def Tryz.laysGw15_ren:I5:=⟨λ|15=>188|20=>232|n=>n,λ|9=>9|23=>246|3=>3|4=>4|0=>0|21=>21|n=>n,λ|n=>n⟩
theorem Tryz.laysGw15:AI9 Tryz.prog Tryz.laysGw15_ren:={
 mixed:=by kernel_rfl
 f15:=Tryz.func188.trans (BQ AC (by kernel_rfl))
 f20:=Tryz.func232.trans (BQ AC (by kernel_rfl))
 t0:=Tryz.underlying0
 a0:=Tryz.isAgg0
 z0:=Tryz.sizeOf0
 v0:=Tryz.zeroValue0
 i0:=by kernel_rfl
 t3:=Tryz.underlying3
 a3:=Tryz.isAgg3
 z3:=Tryz.sizeOf3
 v3:=Tryz.zeroValue3
 i3:=by kernel_rfl
 t4:=Tryz.underlying4
 a4:=Tryz.isAgg4
 z4:=Tryz.sizeOf4
 v4:=Tryz.zeroValue4
 i4:=by kernel_rfl
 t9:=Tryz.underlying9
 a9:=Tryz.isAgg9
 z9:=Tryz.sizeOf9
 v9:=Tryz.zeroValue9
 i9:=by kernel_rfl
 t21:=Tryz.underlying21
 a21:=Tryz.isAgg21
 z21:=Tryz.sizeOf21
 v21:=Tryz.zeroValue21
 i21:=by kernel_rfl
 t23:=Tryz.underlying246
 a23:=Tryz.isAgg246
 z23:=Tryz.sizeOf246
 v23:=Tryz.zeroValue246
 i23:=by kernel_rfl}
open Go.RowKit Go.Lib in
theorem Tryz.strings_IndexFunc(g:AB)(a:Array AJ)(b:∀args w,(callFunc g args).run Tryz.prog w=.ok (.enter g args) w)(p:AB->AH)(s:Cg)(w:AN)(c:PredAt Tryz.prog g a encR p w):
 BU Tryz.prog 188 #[.string s,.func (.func g) #[] a] w λe w'=>e=.returned (.int .i64 (Lib.idxFunc p AD s))/\Below w.heap.size w w':=Any.strings_IndexFunc Tryz.laysGw15 g a b p s w c
open Go.Shelf
open Go.RowKit Go.Lib in
theorem Tryz.notDig(w:AN):PredAt Tryz.prog 189 #[] encR Nice.notDig w:=λW r _=>by
 unfold FnGives;by_cases a:r<48<;>by_cases b:57<r
 all_goals
  have c:(r:AA)<(48:AA)↔r<48:=by omega
  have z2:(57:AA)<(r:AA)↔57<r:=by omega
  go_enter Tryz.func189,Tryz.ntmps215
  go_wp2
  all_goals first|(exfalso;omega)|(go_ret;exact⟨by simp[Nice.notDig,a,b],0,rfl⟩)
end Go.Proofs
namespace Go.Proofs.YtkgejlchafionaaGreatDoor
open Tryz
open Nice Go.RowKit
theorem tQ:PC 190 NY:=Ta λfz w args x f y m=>by
 obtain⟨s,b,c,⟨⟩⟩:=x;simp only[NY,A0,A6]at m;obtain⟨o,rfl,rfl⟩:=m;have o:s.length<=140737488355328:=BL o;obtain⟨_,_,z,A,i⟩:=OH rfl y;obtain⟨_,_,rfl,B,j⟩:=OH rfl i;obtain⟨_,C,rfl,D,k⟩:=OH rfl j;obtain rfl:C=[]:=k;cases A;cases B;cases D
 have E:args=#[.string (bs s),.int .i64 10,.int .i64 64]:=I1.1 z;subst E;have fin:∀(n:AA) (ev:AJ) (b:AH) (w':AN),pT b ev=AD->DU w w'->Es s=(n,b)->∃vs,Ending.returned (.tuple #[.int .i64 n,ev])=.returned (Er vs)/\CN fz NY.rs (NY.g (s,10,64,())) vs/\DU w w':=by
  intro n ev b w' F G q;refine⟨[.int .i64 n,ev],rfl,⟨_,_,rfl,.inr ⟨rfl,?_⟩,_,_,rfl,.inr ⟨rfl,?_⟩,rfl⟩,G⟩
  ·show [Ht .i64 n]=[Ht .i64 (Es s).1];rw[q]
  ·exact⟨ev,rfl,by show pT (Es s).2 ev=AD;rw[q];exact F⟩
 have r:∀(p:AB),(p,[er AK])∈IP->∃u,w.cell? ⟨p,0,AF⟩=AC u/\(u=.nilIface\/∃H I,u=.iface H I):=λp J=>by
  obtain⟨u,d,K⟩:=f.1 _ J 0 (er AK) rfl;exact⟨u,d,glE K⟩
 rcases h:PF 64 s with v|_|_
 ·refine(Tryz.strconv_ParseInt_10_at64_ok (bs s) (by rw[TZ];omega) v (by rw[Hy];exact h) w).mono ?_;rintro e w' ⟨rfl,L⟩;refine fin v .nilIface AD w' rfl ?_ (by unfold Es;rw[h]);rcases L with rfl|⟨t,rfl⟩
  ·exact Iq (Below.refl _ _)
  ·exact Iq (Lib.bytesWorld_below _ _ _)
 ·obtain⟨u,d,l⟩:=r 5 (by simp[IP]);refine(Tryz.strconv_ParseInt_10_at64_syntax (bs s) (by rw[TZ];omega) (by rw[Hy];exact h) u w d l).mono ?_;rintro e w' ⟨N,rfl,_,_,a⟩;exact fin 0 _ AK w' rfl (Iq a) (by unfold Es;rw[h])
 ·obtain⟨u,d,l⟩:=r 6 (by simp[IP]);refine(Tryz.strconv_ParseInt_10_at64_range (bs s) (by rw[TZ];omega) (by rw[Hy];exact h) u w d l).mono ?_;rintro e w' ⟨N,rfl,_,_,a⟩;rw[Hy];exact fin _ _ AK w' rfl (Iq a) (by unfold Es;rw[h])
theorem ABD:PC 188 (hY 189):=Ta λfz w args x c d l=>by
 obtain⟨s,u,⟨⟩⟩:=x;obtain⟨_,_,f,g,a⟩:=OH rfl d;obtain⟨_,h,rfl,i,b⟩:=OH rfl a;obtain rfl:h=[]:=b;cases g;cases i;have j:args=#[.string (bs s),.func (.func 189) #[] #[]]:=I1.1 f;subst j;refine(Tryz.strings_IndexFunc 189 #[] (enters_of func189 (by kernel_rfl) rfl) notDig (bs s) w (Tryz.notDig w)).mono ?_
 rintro e w' ⟨rfl,k⟩;exact⟨[_],rfl,⟨_,_,rfl,.inr ⟨rfl,rfl⟩,rfl⟩,Iq k⟩
open Nice
theorem mR{s:L8}{a lo b:AA}(h:(Ho s a lo b).2=AD):0<s.length:=by
 cases s with
 |nil=>simp[Ho,Es,PF]at h
 |cons c r=>simp
theorem cj{q p:L8}(h:Aw q=AD):Aw (CK q p).1=true:=by
 have h:q.length<=140737488355328:=BL h;refine BK ?_;unfold CK;cases Bt q p
 ·exact h
 ·simp only[Ag,CC];omega
theorem Vc:∀(f n:AB) (a:L8),(Oo f n a).length<=f+a.length
 |0,n,a=>by simp[Oo]
 |f+1,n,a=>by
  simp only[Oo]
  split
  ·simp;omega
  ·have:=Vc f (n/10) (Cj (48+n%10)::a);simp only[B7]at this;omega
theorem mS{n:AA}(a:0<=n)(b:n<18446744073709551616):GH.wrap n=n:=by
 show n%18446744073709551616=n;exact Int.emod_eq_of_lt a b
theorem Vd(t2:L8):∀(f n:AB) (u:AB) (a:L8),u<18446744073709551616->u<10^f->a.length<=100-f->f<=20->0<f->f<n->IB n (u:AA) t2 a=AC (Oo f u a,())
 |0,n,u,a,_,_,_,_,e,_=>absurd e (Nat.lt_irrefl 0)
 |f+1,n,u,a,k,b,l,o,_,p=>by
  obtain⟨m,rfl⟩:∃m,n=m+1:=⟨n-1,by omega⟩
  have g:(u:AA).tmod 10=((u%10:AB):AA):=AL;have i:(u:AA).tdiv 10=((u/10:AB):AA):=AL;have j:Cj (FJ.wrap (GH.wrap ((48:AA)+((u%10:AB):AA)))).toNat=Cj (48+u%10):=by
   rw[mS (by omega) (by omega),SG];congr 1;omega
  rw[cg];simp only[g,i,j,EL];rw[An (by omega),Cm,mS (by omega) (by omega)];simp only[Oo];by_cases h:u/10=0
  ·rw[if_pos h,beT (by omega)];rfl
  ·rw[if_neg h,beF (by omega)];have c:0<f:=by
    rcases Nat.eq_zero_or_pos f with d|d
    ·subst d;simp at b;omega
    ·exact d
   exact Vd t2 f m (u/10) (Cj (48+u%10)::a) (by omega) (by rw[Nat.pow_succ]at b;omega) (by simp;omega) (by omega) c (by omega)
theorem jR(u:AA)(h:(AG (0<=u)&&AG (u<18446744073709551616))=AD):Y8 (u,())=AC (Oq u,()):=by
 rw[A0,A6,A6]at h;obtain⟨n,rfl⟩:∃n:AB,u=(n:AA):=⟨u.toNat,by omega⟩
 rw[mN];have:=Vd [] 20 AU n [] (by omega) (by omega) (by simp) (by omega) (by omega) (by unfold AU;omega);simpa[Oq]using this
theorem ZA(u:AA):(Oq u).length<=20:=by
 have:=Vc 20 u.toNat [];simpa[Oq]using this
theorem jS(n:AA)(h:(AG (-9223372036854775808<=n)&&AG (n<=9223372036854775807))=AD):Y9 (n,())=AC (D9 n,()):=by
 rw[A0,A6,A6]at h;rw[mO];unfold D9;by_cases a:n<0
 ·rw[Bn a,if_pos a];have b:GH.wrap ((0:AA)-(n+1))=0-(n+1):=mS (by omega) (by omega);have e:GH.wrap (GH.wrap ((0:AA)-(n+1))+1)= -n:=by
   rw[b,mS (by omega) (by omega)];omega
  rw[e];have c:=ZA (-n);rw[An (by omega),BG (by rw[BK (by omega),BK (by omega)];rfl),An (by rw[AZ];omega),An (by rw[AZ];omega),Cm];rfl
 ·rw[Bm a,if_neg a,mS (by omega) (by omega),BG (by rw[BK (by omega),BK (by omega)];rfl),Cm]
open Nice
theorem AFg(f:FuncId)(ts rs:AE Ty):PC f (vY ts rs):=λfz w args x _ _ _ h=>by cases h
theorem tR:PC 148 UH:=(Ap (Ac (l:=[]) trivial) Al func148 (by kernel_rfl) (by decide)).nice λ⟨c,()⟩ _=>tP c
theorem Sy:PC 100 Bx:=(Ap (Ac (l:=[(148,UH)]) ⟨tR,A3⟩) Al func100 (by kernel_rfl) (by decide)).nice λ⟨s,()⟩ h=>ABA s h
theorem ck:PC 26 Bx:=(Ap (Ac (l:=[]) trivial) Al func26 (by kernel_rfl) (by decide)).nice λ⟨s,()⟩ h=>ABB s h
theorem mT:PC 142 VB:=(Ap (Ac (l:=[(188,hY 189),(190,NY)]) ⟨ABD,tQ,A3⟩) Al func142 (by kernel_rfl) (by decide)).nice λ⟨s,a,b,c,()⟩ h=>ABC s a b c h
theorem ANc:PC 138 Bz:=(Ap (Ac (l:=[]) trivial) Al func138 (by kernel_rfl) (by decide)).nice λ⟨s,p,()⟩ _=>AKn s p
theorem AFh:PC 193 H2:=(Ap (Ac (l:=[(138,Bz)]) ⟨ANc,A3⟩) Al func193 (by kernel_rfl) (by decide)).nice λ⟨s,p,()⟩ _=>AKo s p
theorem ABE:PC 57 hZ:=(Ap (Ac (l:=[]) trivial) Al func57 (by kernel_rfl) (by decide)).nice λ⟨u,()⟩ h=>jR u h
theorem Sz:PC 31 HN:=(Ap (Ac (l:=[(57,hZ)]) ⟨ABE,A3⟩) Al func31 (by kernel_rfl) (by decide)).nice λ⟨n,()⟩ h=>jS n h
end Go.Proofs.YtkgejlchafionaaGreatDoor
namespace Go.Proofs
open Go.Shelf
def Tryz.lays145_ren:I5:=⟨λ|145=>140|220=>186|219=>231|217=>260|225=>261|224=>262|267=>263|266=>285|314=>286|n=>n,λ|9=>9|4=>4|59=>196|3=>3|5=>5|46=>211|146=>312|51=>239|n=>n,λ|1=>3|n=>n⟩
theorem Tryz.lays145:AI4 Tryz.prog Tryz.lays145_ren:={
 mixed:=by kernel_rfl
 f145:=Tryz.func140.trans (BQ AC (by kernel_rfl))
 f217:=Tryz.func260.trans (BQ AC (by kernel_rfl))
 f219:=Tryz.func231.trans (BQ AC (by kernel_rfl))
 f220:=Tryz.func186.trans (BQ AC (by kernel_rfl))
 f224:=Tryz.func262.trans (BQ AC (by kernel_rfl))
 f225:=Tryz.func261.trans (BQ AC (by kernel_rfl))
 f266:=Tryz.func285.trans (BQ AC (by kernel_rfl))
 f267:=Tryz.func263.trans (BQ AC (by kernel_rfl))
 f314:=Tryz.func286.trans (BQ AC (by kernel_rfl))
 t3:=Tryz.underlying3
 a3:=Tryz.isAgg3
 z3:=Tryz.sizeOf3
 v3:=Tryz.zeroValue3
 t4:=Tryz.underlying4
 a4:=Tryz.isAgg4
 z4:=Tryz.sizeOf4
 v4:=Tryz.zeroValue4
 t5:=Tryz.underlying5
 a5:=Tryz.isAgg5
 z5:=Tryz.sizeOf5
 v5:=Tryz.zeroValue5
 t9:=Tryz.underlying9
 a9:=Tryz.isAgg9
 z9:=Tryz.sizeOf9
 v9:=Tryz.zeroValue9
 t46:=Tryz.underlying211
 a46:=Tryz.isAgg211
 z46:=Tryz.sizeOf211
 v46:=Tryz.zeroValue211
 t51:=Tryz.underlying239
 a51:=Tryz.isAgg239
 z51:=Tryz.sizeOf239
 v51:=Tryz.zeroValue239
 t59:=Tryz.underlying196
 a59:=Tryz.isAgg196
 z59:=Tryz.sizeOf196
 v59:=Tryz.zeroValue196
 t146:=Tryz.underlying312
 a146:=Tryz.isAgg312
 z146:=Tryz.sizeOf312
 v146:=Tryz.zeroValue312
 g1:=by kernel_rfl}
open Go.RowKit Go.Lib in
theorem Tryz.strings_Cut(s a:Cg)(m:AA)(w:AN)(b:s.size<4294967281)(c:w.cell? ⟨3,0,AF⟩=AC (.int .i64 m)):
 BU Tryz.prog 140 #[.string s,.string a] w λe w'=>e=.returned (.tuple #[.string ⟨(I4 s.data.toList a.data.toList).1.toArray⟩,.string ⟨(I4 s.data.toList a.data.toList).2.1.toArray⟩,.bool (I4 s.data.toList a.data.toList).2.2])/\∃n,w'=w.drewN n:=Any.strings_Cut Tryz.lays145 s a m w b c
def Tryz.lays146_ren:I5:=⟨λ|146=>139|221=>185|268=>228|138=>229|143=>230|195=>257|197=>258|218=>259|219=>231|260=>284|217=>260|225=>261|224=>262|267=>263|266=>285|314=>286|n=>n,λ|9=>9|31=>92|3=>3|4=>4|0=>0|105=>295|21=>21|5=>5|46=>211|119=>334|139=>337|138=>336|146=>312|51=>239|n=>n,λ|1=>3|3=>7|4=>8|n=>n⟩
theorem Tryz.lays146:AI5 Tryz.prog Tryz.lays146_ren:={
 mixed:=by kernel_rfl
 f138:=Tryz.func229.trans (BQ AC (by kernel_rfl))
 f143:=Tryz.func230.trans (BQ AC (by kernel_rfl))
 f146:=Tryz.func139.trans (BQ AC (by kernel_rfl))
 f195:=Tryz.func257.trans (BQ AC (by kernel_rfl))
 f197:=Tryz.func258.trans (BQ AC (by kernel_rfl))
 f217:=Tryz.func260.trans (BQ AC (by kernel_rfl))
 f218:=Tryz.func259.trans (BQ AC (by kernel_rfl))
 f219:=Tryz.func231.trans (BQ AC (by kernel_rfl))
 f221:=Tryz.func185.trans (BQ AC (by kernel_rfl))
 f224:=Tryz.func262.trans (BQ AC (by kernel_rfl))
 f225:=Tryz.func261.trans (BQ AC (by kernel_rfl))
 f260:=Tryz.func284.trans (BQ AC (by kernel_rfl))
 f266:=Tryz.func285.trans (BQ AC (by kernel_rfl))
 f267:=Tryz.func263.trans (BQ AC (by kernel_rfl))
 f268:=Tryz.func228.trans (BQ AC (by kernel_rfl))
 f314:=Tryz.func286.trans (BQ AC (by kernel_rfl))
 t0:=Tryz.underlying0
 a0:=Tryz.isAgg0
 z0:=Tryz.sizeOf0
 v0:=Tryz.zeroValue0
 t3:=Tryz.underlying3
 a3:=Tryz.isAgg3
 z3:=Tryz.sizeOf3
 v3:=Tryz.zeroValue3
 t4:=Tryz.underlying4
 a4:=Tryz.isAgg4
 z4:=Tryz.sizeOf4
 v4:=Tryz.zeroValue4
 t5:=Tryz.underlying5
 a5:=Tryz.isAgg5
 z5:=Tryz.sizeOf5
 v5:=Tryz.zeroValue5
 t9:=Tryz.underlying9
 a9:=Tryz.isAgg9
 z9:=Tryz.sizeOf9
 v9:=Tryz.zeroValue9
 t21:=Tryz.underlying21
 a21:=Tryz.isAgg21
 z21:=Tryz.sizeOf21
 v21:=Tryz.zeroValue21
 t31:=Tryz.underlying92
 a31:=Tryz.isAgg92
 z31:=Tryz.sizeOf92
 v31:=Tryz.zeroValue92
 t46:=Tryz.underlying211
 a46:=Tryz.isAgg211
 z46:=Tryz.sizeOf211
 v46:=Tryz.zeroValue211
 t51:=Tryz.underlying239
 a51:=Tryz.isAgg239
 z51:=Tryz.sizeOf239
 v51:=Tryz.zeroValue239
 t105:=Tryz.underlying295
 a105:=Tryz.isAgg295
 z105:=Tryz.sizeOf295
 v105:=Tryz.zeroValue295
 t119:=Tryz.underlying334
 a119:=Tryz.isAgg334
 z119:=Tryz.sizeOf334
 t138:=Tryz.underlying336
 a138:=Tryz.isAgg336
 z138:=Tryz.sizeOf336
 v138:=Tryz.zeroValue336
 t139:=Tryz.underlying337
 a139:=Tryz.isAgg337
 z139:=Tryz.sizeOf337
 v139:=Tryz.zeroValue337
 t146:=Tryz.underlying312
 a146:=Tryz.isAgg312
 z146:=Tryz.sizeOf312
 v146:=Tryz.zeroValue312
 g1:=by kernel_rfl
 g3:=by kernel_rfl
 g4:=by kernel_rfl}
open Go.RowKit Go.Lib in
theorem Tryz.strings_Split(s a:Cg)(m:AA)(w:AN)(b:s.size<4294967281)(c:w.cell? ⟨3,0,AF⟩=AC (.int .i64 m))(d:1<=a.size):
 BU Tryz.prog 139 #[.string s,.string a] w λe w'=>
  e=.returned (.slice (AC ⟨w.heap.size,0,AF⟩) (PE s a+1) (PE s a+1))/\w'=w.alloc (.cells ((Lib.splitB a 0 (PE s a) s).map E9).toArray 9):=Any.strings_Split Tryz.lays146 (by kernel_rfl) s a m w b c d
end Go.Proofs
namespace Go.Proofs.YtkgejlchafionaaGreatDoor
open Tryz
open Nice
theorem kT{α:Type}(a b:α):(bif AD then a else b)=a:=FL (Ag a b) rfl
theorem kF{α:Type}(a b:α):(bif AK then a else b)=b:=FL (BZ a b) rfl
theorem kG{α:Type}(r:AP α):gd [] r=r:=FL Cm rfl
open Nice
theorem ABF(s p:L8)(h:Aw s=AD):xC (s,p,())=AC (KU s p,()):=by
 have h:s.length<=140737488355328:=BL h;rw[tp,tn];unfold KU;by_cases a:p.length<=s.length
 ·have e:((s.length:AA)-(p.length:AA)).toNat=s.length-p.length:=by omega
  rw[Bn (by omega),BK a,Cz,e];cases s.drop (s.length-p.length)==p
  ·rw[kF];simp(disch:=omega) only[An,kG,AZ]
  ·rw[kT];simp(disch:=omega) only[An,kG,AZ]
 ·rw[Bm (by omega),BP a,Ic]
theorem ABG(s p:L8)(h:Aw s=AD):xD (s,p,())=AC ((HJ s p).1,(HJ s p).2,()):=by
 have b:s.length<=140737488355328:=BL h;rw[tr,tq];unfold HJ;cases a:KU s p
 ·simp only[kF]
  try rw[BG h,kG]
 ·have c:p.length<=s.length:=by
   unfold KU at a;rw[A0,A6]at a;exact a.1
  have e:((s.length:AA)-(p.length:AA)).toNat=s.length-p.length:=by omega
  simp only[kT,e];simp(disch:=first|omega|exact h) only[An,BG,kG,AZ]
theorem mU(x:L8)(t4:AA)(len:AB):∀(a done:AE (L8)) (n:AB),len=done.length+a.length->len<=1000->a.length<n->
  Rz n (done++a) x t4 (len:AA) (done.length:AA)=AC (k5 x a (done.length:AA),())
 |[],done,n,b,d,e=>by
  obtain⟨m,rfl⟩:∃m,n=m+1:=⟨n-1,by omega⟩
  simp only[List.length_nil]at b;rw[gE,Bm (by omega)];rfl
 |c::a,done,n,b,d,e=>by
  obtain⟨m,rfl⟩:∃m,n=m+1:=⟨n-1,by omega⟩
  simp only[B7]at b e;have f:=mU x t4 len a (done++[c]) m (by simp;omega) d (by omega);simp only[List.append_assoc,List.singleton_append,BA,EL,Dz]at f;rw[gE,Bn (by omega)];simp only[Hu,Hc,BA,B7,k5]
  cases x==c
  ·simp only[kF];simp(disch:=omega) only[An,kG,AZ];exact f
  ·simp only[kT];simp(disch:=omega) only[An,kG]
theorem ABH(l:AE (L8))(x:L8)(h:AG (l.length<=1000)=AD):xE (l,x,())=AC (vb l x,()):=by
 have h:=BL h;rw[tu,tt];exact mU x 0 l.length l [] AU (by simp) h (by unfold AU;omega)
theorem fe(x:L8):∀(l:AE (L8)) (k:AA),0<=k->AG (k5 x l k>=0)=EZ l x
 |[],k,h=>by rfl
 |c::r,k,h=>by
  have a:=fe x r (k+1) (by omega);unfold k5 EZ;simp only[List.any_cons];cases x==c
  ·simp only[kF,Iz];exact a
  ·simp only[kT,I3];exact BK h
theorem ABI(l:AE (L8))(x:L8)(h:AG (l.length<=1000)=AD):xH (l,x,())=AC (EZ l x,()):=by
 rw[tw,tv];have e:AG (vb l x>=0)=EZ l x:=fe x l 0 (Int.le_refl 0);rw[e];cases EZ l x<;>simp only[kT,kF]<;>rw[BG h,kG]
theorem mV(m p q:L8)(a:Em)(b:L8)(h:DY a=AD):gC ((m,p,q,a,b,()),())=AC ((C7 a).1,(C7 a).2.1,(C7 a).2.2,()):=by
 unfold DY at h;rw[A0,A0]at h;obtain⟨⟨e,c⟩,d⟩:=h;rw[j0,jz];unfold C7;cases(Ba a JK).2
 ·simp only[kF];rw[BG e,kG];cases(Ba a JL).2
  ·simp only[kF];rw[BG c,kG]
  ·simp only[kT];have f:Aw (CK (Ba a JL).1 [34]).1=true:=by
    have d:(Ba a JL).1.length<=140737488355328:=BL d;unfold CK;cases Bt (Ba a JL).1 [34]
    ·exact BK d
    ·exact BK (by show((Ba a JL).1.drop _).length<=_;rw[CC];omega)
   rw[BG f,BG c,kG];unfold aj;cases(F9 (HJ (CK (Ba a JL).1 [34]).1 [34]).1).2<;>cases(CK (Ba a JL).1 [34]).2<;>cases(HJ (CK (Ba a JL).1 [34]).1 [34]).2<;>simp only[kT,kF,Gt,Gl]
 ·simp only[kT];rw[BG e,kG];cases(Ba a JL).2
  ·simp only[kF];rw[BG c,kG];cases(Ba a JK).1==[42]<;>simp only[kT,kF]
  ·simp only[kT];rw[BG c,kG]
theorem mW(a:BH)(m p q:L8)(d:Em)(b:L8)(h:(DY d&&(Aw q&&Aw a.2.1))=AD):
  gD (a,(m,p,q,d,b,()),())=AC ((EA a m q d b).1,(EA a m q d b).2,()):=by
 rw[A0,A0]at h;obtain⟨l,o,g⟩:=h;obtain⟨a0,k,a2,a3,a4,a5,v,w,z,a9,⟨⟩⟩:=a;dsimp only at g;rw[kB,kA];have i:=cj (p:=KV) o;unfold EA;dsimp only;rw[BG g,BG g,kG,kG];cases isKey k
 ·simp only[kF]
 ·simp only[kT];cases m==DP
  ·simp only[kF];simp only[BG i,kG];unfold UM;generalize r:Ho (CK q KV).fst ((CK q KV).fst.length:AA) 1 1099511627776=n;have f:n.2=AD->0<(CK q KV).1.length:=λh=>mR (by rw[r];exact h)
   generalize s:CK q KV=c at *;have j:∀{α:Type} (x y:α),(bif ((c.1.getD 0 0).toNat:AA) !=48 then x else y)=bif c.1.getD 0 0==48 then y else x:=by
    intro α x y;by_cases h:c.1.getD 0 0=48
    ·rw[h];rfl
    ·rw[bnT (by intro e;exact h (rP (show _=(48:Bo).toNat by have:(48:Bo).toNat=48:=AL;omega))),show(c.1.getD 0 0==48)=AK from by simpa using h];rfl
   simp only[j];cases hd:(m==DG)<;>cases t:(q==[])<;>simp only[kT,kF]<;>
   ·cases u:n.2<;>cases A:c.2<;>try simp only[kT,kF,Cz,Ic]
    all_goals first
     |rfl
     |(have:=f u
       cases B:(c.1.getD 0 0==48)<;>simp(disch:=omega) only[kT,kF,An,kG,GG,FU]<;>rfl)
  ·simp only[kT];rw[BG l,BG l,kG,kG];cases(C7 d).2.2<;>cases q==[]<;>simp only[kT,kF,Cz,Ic]<;>rfl
end Go.Proofs.YtkgejlchafionaaGreatDoor
namespace Nice
def cm(s:AE (L8)):AB:=(EZ s KW).toNat+((EZ s KX).toNat+((EZ s LB).toNat+(EZ s KY).toNat))
theorem tT(s:AE (L8)):cm s<=4:=by
 unfold cm;cases EZ s KW<;>cases EZ s KX<;>cases EZ s LB<;>cases EZ s KY<;>decide
theorem ZB(s:AE (L8))(x y:L8):EZ (s++[x]) y=(EZ s y||y==x):=by
 unfold EZ;simp
theorem mX{s:AE (L8)}{x:L8}(a:x=KW\/x=KX\/x=LB\/x=KY)(h:EZ s x=AK):cm s+1<=cm (s++[x]):=by
 have key:∀y,(EZ s y).toNat<=(EZ (s++[x]) y).toNat:=λy=>by
  rw[ZB];cases EZ s y<;>cases y==x<;>decide
 have b:(EZ (s++[x]) x).toNat=1:=by
  rw[ZB,GD,Jv];rfl
 have c:(EZ s x).toNat=0:=by rw[h];rfl
 have d:=key KW;have e:=key KX;have f:=key LB;have g:=key KY;unfold cm;rcases a with rfl|rfl|rfl|rfl<;>omega
theorem Ve(c:Bo):∀(n:AB) (s:L8),s.length<=n->(MA s [c]).length<=s.length+1/\∀p,p∈MA s [c]->p.length<=s.length
 |n,s,h=>by
  cases b:FT c s
  ·rw[QF c s b];refine⟨by simp,λp a=> ?_⟩;rw[List.mem_singleton]at a;subst a;exact Ak _
  ·have e:=iA c s b;rw[UJ c s b];cases n with
   |zero=>omega
   |succ n=>
    obtain⟨d,i2⟩:=Ve c n (s.drop ((He c s).length+1)) (by rw[CC];omega);rw[CC]at d i2;refine⟨by simp only[B7];omega,λp a=> ?_⟩;rcases List.mem_cons.1 a with rfl|a
    ·omega
    ·have:=i2 p a;omega
theorem tU(c:Bo)(s:L8):(I4 s [c]).1.length<=s.length/\(I4 s [c]).2.1.length<=s.length:=by
 have:=ah c s;rw[AH2];cases FT c s
 ·exact⟨Ak _,Cx _⟩
 ·exact⟨this,by show(s.drop _).length<=_;rw[CC];omega⟩
end Nice
namespace Go.Proofs.YtkgejlchafionaaGreatDoor
open Tryz
open Nice
def L0(n:AB)(a z:BH)(t5:AH)(seen b:AE (L8))(len k:AA):AP (AM [BF,.bool]):=
 JU n a.1 a.2.1 a.2.2.1 a.2.2.2.1 a.2.2.2.2.1 a.2.2.2.2.2.1 a.2.2.2.2.2.2.1 a.2.2.2.2.2.2.2.1 a.2.2.2.2.2.2.2.2.1 a.2.2.2.2.2.2.2.2.2.1 z.1 z.2.1 z.2.2.1 z.2.2.2.1 z.2.2.2.2.1 z.2.2.2.2.2.1 z.2.2.2.2.2.2.1 z.2.2.2.2.2.2.2.1 z.2.2.2.2.2.2.2.2.1 z.2.2.2.2.2.2.2.2.2.1 t5 seen b len k
theorem mY(z:BH)(t5:AH)(b:AE (L8))(w:b.length<=4294967296)(r:∀p,p∈b->E6 p=AD/\Aw (IY p).2.1=AD)(d:AE (L8)):
  ∀(done:AE (L8)) (n:AB) (a:BH) (seen:AE (L8)),b=done++d->seen.length<=cm seen->d.length<n->
  L0 n a z t5 seen b (b.length:AA) (done.length:AA)=AC ((Cc d seen a).1,(Cc d seen a).2,()):=by
 induction d with
 |nil=>
  intro done n a seen f C y;obtain⟨m,rfl⟩:∃m,n=m+1:=⟨n-1,by omega⟩
  have D:b.length=done.length:=by rw[f];simp
  unfold L0;rw[Vs,Bm (by omega)];rfl
 |cons p d t=>
  intro done n a seen f C y;obtain⟨m,rfl⟩:∃m,n=m+1:=⟨n-1,by omega⟩
  simp only[B7]at y;have D:b.length=done.length+(d.length+1):=by rw[f];simp
  have h:=λE F u=>t (done++[p]) m E F (by rw[f];simp) u (by omega)
  simp only[BA,EL,Dz]at h;have G:b.getD done.length Ty.str.dflt=p:=by rw[f];exact Hc _ _ _ _
  obtain⟨H,v⟩:=r p (by rw[f];simp);have A:=tT seen;obtain⟨a0,k,a2,a3,a4,a5,l,o,q,a9,⟨⟩⟩:=a;unfold L0;rw[Vs,Bn (by omega)];have B:(E6 p&&[61]==[61])=true:=by rw[H];rfl
  simp only[Hu,G];simp(disch:=omega) only[An,kG];rw[BG B,BG B,kG,kG];unfold Cc;have i:AG (seen.length<=1000)=true:=by rw[RJ];omega
  have j:AG ((2*(seen.length+[(IY p).1].length)+400)*16<=281474976710656)=true:=by
   rw[RJ];simp only[EL];omega
  try simp only[BG i,kG]
  try simp only[BG j]
  try simp only[BG i,kG]
  clear j;generalize IY p=c at v⊢
  try simp only[BG v,kG]
  have I:AG (A4 .i64 ((done.length:AA)+1))=true:=by
   rw[RJ,AZ];omega
  try simp only[BG I,BG v,kG]
  have nx:∀{x:L8},c.1=x->(x=KW\/x=KX\/x=LB\/x=KY)->EZ seen c.1=AK->(seen++[c.1]).length<=cm (seen++[c.1]):=by
   intro x J K g;have:=mX (s:=seen) (x:=c.1) (by rw[J];exact K) g;simp only[BA,EL];omega
  cases c.2.2
  ·simp only[kF]
  ·simp only[kT];cases g:EZ seen c.1
   ·simp only[kF];unfold LC Nd;cases L:c.1==KW
    ·simp only[kF];cases M:c.1==KX
     ·simp only[kF];cases N:c.1==LB
      ·simp only[kF];cases A:c.1==KY
       ·cases c.2.1==[]<;>cases isKey c.2.1<;>simp only[kT,kF]
       ·have e:=nx (Be.1 A) (.inr (.inr (.inr rfl))) g;cases O:c.2.1==[49]<;>cases c.2.1==[]<;>cases isKey c.2.1<;>simp only[kT,kF]
        all_goals first
         |rfl
         |exact h (GV (a0,k,a2,a3,a4,a5,l,o,q,a9,()) 5) _ e
      ·have e:=nx (Be.1 N) (.inr (.inr (.inl rfl))) g;simp only[kT];cases O:(Ho c.2.1 2 1 20).2<;>cases c.2.1==[]<;>cases isKey c.2.1<;>simp only[kT,kF]
       all_goals first
        |rfl
        |exact h (JJ (a0,k,a2,a3,a4,a5,l,o,q,a9,()) (Ho c.2.1 2 1 20).1) _ e
     ·have e:=nx (Be.1 M) (.inr (.inl rfl)) g;simp only[kT];cases c.2.1==[]<;>cases isKey c.2.1<;>simp only[kT,kF,I3,Iz]
      all_goals first
       |rfl
       |exact h (UL (a0,k,a2,a3,a4,a5,l,o,q,a9,()) c.2.1) _ e
    ·have e:=nx (Be.1 L) (.inl rfl) g;simp only[kT];cases c.2.1==[]<;>cases isKey c.2.1<;>simp only[kT,kF,I3,Iz]
     all_goals first
      |rfl
      |exact h (UK (a0,k,a2,a3,a4,a5,l,o,q,a9,()) c.2.1) _ e
   ·simp only[kT]
theorem mZ(a:BH)(q:L8)(h:E6 q=AD):gF (a,q,())=AC ((DF a q).1,(DF a q).2,()):=by
 have e:q.length<4294967281:=BL h;rw[kD,kC];unfold DF;cases q==[]
 ·simp only[kF];have b:(E6 q&&[38]==[38])=true:=by rw[h];rfl
  rw[BG b,kG];obtain⟨f,c⟩:=Ve 38 q.length q (Ak _);have:=mY Gj AK (E5 q) (by show(MA q [38]).length<=_;omega) (λp d=>by
   have:=c p d;have:=(tU 61 p).2;exact⟨BK (by omega),BK (by show(I4 p [61]).2.1.length<=_;omega)⟩) (E5 q) [] AU (JJ (GV a 4) 20) [] rfl (Cx _) (by show(MA q [38]).length<_;unfold AU;omega)
  exact this
 ·rfl
end Go.Proofs.YtkgejlchafionaaGreatDoor
namespace Nice
theorem m00:(EB==EB)=true:=by decide
theorem m01:(EB==Bh)=false:=by decide
theorem m02:(EB==DP)=false:=by decide
theorem m03:(EB==DG)=false:=by decide
theorem m10:(Bh==EB)=false:=by decide
theorem m11:(Bh==Bh)=true:=by decide
theorem m12:(Bh==DP)=false:=by decide
theorem m13:(Bh==DG)=false:=by decide
theorem m20:(DP==EB)=false:=by decide
theorem m21:(DP==Bh)=false:=by decide
theorem m22:(DP==DP)=true:=by decide
theorem m23:(DP==DG)=false:=by decide
theorem m30:(DG==EB)=false:=by decide
theorem m31:(DG==Bh)=false:=by decide
theorem m32:(DG==DP)=false:=by decide
theorem m33:(DG==DG)=true:=by decide
theorem Gx{p w:L8}(h:Bt p w=AD):w.length<=p.length:=by
 unfold Bt at h;rw[A0,A6]at h;exact h.1
theorem Ro{m p q:L8}{c:Em}{b:L8}(h:Qr (m,p,q,c,b,())=AD):DY c=AD/\E6 q=AD/\Aw q=AD/\Aw (p.drop 3)=AD/\p.length<=140737488355328:=by
 unfold Qr at h;rw[A0,A0]at h;obtain⟨e,d,a⟩:=h;have a:p.length<=140737488355328:=BL a;have f:q.length<4294967281:=BL d;exact⟨e,d,BK (by omega),BK (by rw[CC];omega),a⟩
end Nice
namespace Go.Proofs.YtkgejlchafionaaGreatDoor
open Tryz
open Nice
theorem ma(p q:L8)(a:Em)(b:L8)(h:Qr (EB,p,q,a,b,())=AD):fy ((EB,p,q,a,b,()),())=AC ((Jy (EB,p,q,a,b,())).1,(Jy (EB,p,q,a,b,())).2,()):=by
 obtain⟨e,d,c,f,l⟩:=Ro h;have hall:(DY a&&(Aw q&&Aw (p.drop 3)))=true:=by rw[e,c,f];rfl
 rw[ju,jt];unfold Jy KC KD;simp only[m00,m01,m02,m03,Mu,Iz,kT];have g:RZ AK=((0:AA),[],(0:AA),[],(0:AA),[],[],[],(0:AA),AK,()):=AL;have i:JV (p.drop 3) AK=((0:AA),p.drop 3,(0:AA),[],(0:AA),[],[],[],(0:AA),AK,()):=AL
 have j:Gj=((0:AA),[],(0:AA),[],(0:AA),[],[],[],(0:AA),AK,()):=AL;simp only[g,i,j];cases p==oW
 ·cases p==KZ
  ·simp only[kF,Mu];cases k:Bt p KZ
   ·simp only[FU,kT,kF]
   ·have m:3<=p.length:=Gx k;simp only[GG,kT,kF];rw[An (by omega),kG];cases(EA ((0:AA),p.drop 3,(0:AA),[],(0:AA),[],[],[],(0:AA),AK,()) EB q a b).2<;>cases b==[]<;>simp only[kT,kF,GG,FU,Gt,Gl]<;>rw[BG hall,kG]
  ·simp only[kT,kF,Jv];cases(DF ((0:AA),[],(0:AA),[],(0:AA),[],[],[],(0:AA),AK,()) q).2<;>cases b==[]<;>simp only[kT,kF,GG,FU,Gt,Gl]<;>rw[BG d,kG]
 ·simp only[kT,I3];cases(DF ((0:AA),[],(0:AA),[],(0:AA),[],[],[],(0:AA),AK,()) q).2<;>cases b==[]<;>simp only[kT,kF,GG,FU,Gt,Gl]<;>rw[BG d,kG]
theorem jT(p q:L8)(a:Em)(b:L8)(h:Qr (Bh,p,q,a,b,())=AD):Zi ((Bh,p,q,a,b,()),())=AC ((Jy (Bh,p,q,a,b,())).1,(Jy (Bh,p,q,a,b,())).2,()):=by
 obtain⟨e,d,c,f,l⟩:=Ro h;have hall:(DY a&&(Aw q&&Aw (p.drop 3)))=true:=by rw[e,c,f];rfl
 rw[dQ,dP];unfold Jy KC KD;simp only[m10,m11,m12,m13,Jv,Mu,Iz,kT];have g:RZ AD=((0:AA),[],(0:AA),[],(0:AA),[],[],[],(0:AA),AD,()):=AL;have i:JV (p.drop 3) AD=((0:AA),p.drop 3,(0:AA),[],(0:AA),[],[],[],(0:AA),AD,()):=AL
 have j:Gj=((0:AA),[],(0:AA),[],(0:AA),[],[],[],(0:AA),AK,()):=AL;simp only[g,i,j];cases p==oW
 ·cases p==KZ
  ·simp only[kF,Mu];cases k:Bt p KZ
   ·simp only[FU,kT,kF]
   ·have m:3<=p.length:=Gx k;simp only[GG,kT,kF];rw[An (by omega),kG];cases(EA ((0:AA),p.drop 3,(0:AA),[],(0:AA),[],[],[],(0:AA),AD,()) Bh q a b).2<;>cases b==[]<;>simp only[kT,kF,GG,FU,Gt,Gl]<;>rw[BG hall,kG]
  ·simp only[kT,kF,Jv];cases(DF ((0:AA),[],(0:AA),[],(0:AA),[],[],[],(0:AA),AD,()) q).2<;>cases b==[]<;>simp only[kT,kF,GG,FU,Gt,Gl]<;>rw[BG d,kG]
 ·simp only[kT,I3];cases(DF ((0:AA),[],(0:AA),[],(0:AA),[],[],[],(0:AA),AD,()) q).2<;>cases b==[]<;>simp only[kT,kF,GG,FU,Gt,Gl]<;>rw[BG d,kG]
theorem mb(p q:L8)(a:Em)(b:L8)(h:Qr (DP,p,q,a,b,())=AD):ANq ((DP,p,q,a,b,()),())=AC ((Jy (DP,p,q,a,b,())).1,(Jy (DP,p,q,a,b,())).2,()):=by
 obtain⟨d,k,c,e,l⟩:=Ro h;have hall:(DY a&&(Aw q&&Aw (p.drop 3)))=true:=by rw[d,c,e];rfl
 rw[jw,jv];unfold Jy KC KD;simp only[m20,m21,m22,m23,Jv,I3,Mu,kT,kF];have f:RZ AK=((0:AA),[],(0:AA),[],(0:AA),[],[],[],(0:AA),AK,()):=AL;have g:JV (p.drop 3) AK=((0:AA),p.drop 3,(0:AA),[],(0:AA),[],[],[],(0:AA),AK,()):=AL
 have i:Gj=((0:AA),[],(0:AA),[],(0:AA),[],[],[],(0:AA),AK,()):=AL;simp only[g,i];cases p==oW
 ·cases p==KZ
  ·simp only[kF,Mu];cases j:Bt p KZ
   ·simp only[FU,kT,kF]
   ·have m:3<=p.length:=Gx j;simp only[GG,kT,kF];rw[An (by omega),kG];cases(EA ((0:AA),p.drop 3,(0:AA),[],(0:AA),[],[],[],(0:AA),AK,()) DP q a b).2<;>cases b==[]<;>simp only[kT,kF,GG,FU,Gt]<;>rw[BG hall,kG]
  ·simp only[kT,kF,Jv]
   skip
 ·simp only[kT,I3]
  skip
theorem mc(p q:L8)(a:Em)(b:L8)(h:Qr (DG,p,q,a,b,())=AD):gB ((DG,p,q,a,b,()),())=AC ((Jy (DG,p,q,a,b,())).1,(Jy (DG,p,q,a,b,())).2,()):=by
 obtain⟨d,k,c,e,l⟩:=Ro h;have hall:(DY a&&(Aw q&&Aw (p.drop 3)))=true:=by rw[d,c,e];rfl
 rw[jy,jx];unfold Jy KC KD;simp only[m30,m31,m32,m33,Jv,Mu,Iz,kT,kF];have f:RZ AK=((0:AA),[],(0:AA),[],(0:AA),[],[],[],(0:AA),AK,()):=AL;have g:JV (p.drop 3) AK=((0:AA),p.drop 3,(0:AA),[],(0:AA),[],[],[],(0:AA),AK,()):=AL
 have i:Gj=((0:AA),[],(0:AA),[],(0:AA),[],[],[],(0:AA),AK,()):=AL;simp only[g,i];cases p==oW
 ·cases p==KZ
  ·simp only[kF,Mu];cases j:Bt p KZ
   ·simp only[FU,kT,kF]
   ·have m:3<=p.length:=Gx j;simp only[GG,kT,kF];rw[An (by omega),kG];cases(EA ((0:AA),p.drop 3,(0:AA),[],(0:AA),[],[],[],(0:AA),AK,()) DG q a b).2<;>cases b==[]<;>simp only[kT,kF,GG,FU,Gt,Gl]<;>rw[BG hall,kG]
  ·simp only[kT,kF,Jv]
   skip
 ·simp only[kT,I3]
  skip
theorem ABJ(m p q:L8)(a:Em)(b:L8)(_:Qr (m,p,q,a,b,())=AD)(c:(m==EB)=AK)(d:(m==Bh)=AK)(e:(m==DP)=AK)(f:(m==DG)=AK):AOc ((m,p,q,a,b,()),())=AC ((Jy (m,p,q,a,b,())).1,(Jy (m,p,q,a,b,())).2,()):=by
 rw[tj,th];unfold Jy;simp only[c,d,e,f,Mu,kT,kF,FU];cases p==oW<;>cases p==KZ<;>simp only[kT,kF,Jv,Mu];cases Bt p KZ<;>simp only[kT,kF,FU,GG]
end Go.Proofs.YtkgejlchafionaaGreatDoor
namespace Go.Proofs
open Go.Shelf
def Tryz.laysNm216_ren:I5:=⟨λ|16=>203|n=>n,λ|24=>92|9=>9|4=>4|n=>n,λ|n=>n⟩
theorem Tryz.laysNm216:AI7 Tryz.prog Tryz.laysNm216_ren:={
 mixed:=by kernel_rfl
 f16:=Tryz.func203.trans (BQ AC (by kernel_rfl))
 t4:=Tryz.underlying4
 a4:=Tryz.isAgg4
 z4:=Tryz.sizeOf4
 v4:=Tryz.zeroValue4
 t9:=Tryz.underlying9
 a9:=Tryz.isAgg9
 z9:=Tryz.sizeOf9
 v9:=Tryz.zeroValue9
 t24:=Tryz.underlying92
 a24:=Tryz.isAgg92
 z24:=Tryz.sizeOf92
 v24:=Tryz.zeroValue92
 i9:=by kernel_rfl}
open Go.RowKit Go.Lib in
theorem Tryz.slices_Clone_string(b off n c:AB)(a:AE Cg)(w:AN)(f:n<=a.length)(d:n*16<=140737488355328)(g:∀j,j<a.length->w.cell? ⟨b,off+j,AF⟩=AC (.string (a.getD j RI))):
 BU Tryz.prog 203 #[.slice (AC ⟨b,off,AF⟩) n c] w λe w'=>∃v',e=.returned v'/\w'.ownsRow w.heap.size 9 1 v' n ((a.take n).map (E9))/\v'≠ .slice AF 0 0/\Below w.heap.size w w':=Any.slices_Clone_string Tryz.laysNm216 b off n c a w f d g
open Go.RowKit Go.Lib in
theorem Tryz.slices_Clone_string_nil(n c:AB)(w:AN):
 BU Tryz.prog 203 #[.slice AF n c] w λe w'=>e=.returned (.slice AF 0 0)/\w'=w:=Any.slices_Clone_string_nil Tryz.laysNm216 n c w
open Go.RowKit Go.Lib in
theorem Tryz.slices_Clone_string_zero(a:Addr)(c:AB)(w:AN):
 BU Tryz.prog 203 #[.slice (AC a) 0 c] w λe w'=>∃v',e=.returned v'/\w'.ownsRow w.heap.size 9 1 v' 0 []/\v'≠ .slice AF 0 0/\Below w.heap.size w w':=Any.slices_Clone_string_zero Tryz.laysNm216 a c w
open Go.Shelf
def Tryz.lays156_ren:I5:=⟨λ|156=>91|165=>135|166=>136|169=>137|240=>183|241=>184|276=>226|277=>227|n=>n,λ|31=>92|9=>9|3=>3|4=>4|0=>0|20=>20|72=>189|76=>193|70=>187|37=>156|75=>192|127=>242|164=>271|5=>5|80=>148|n=>n,λ|n=>n⟩
theorem Tryz.lays156:AI6 Tryz.prog Tryz.lays156_ren:={
 mixed:=by kernel_rfl
 f156:=Tryz.func91.trans (BQ AC (by kernel_rfl))
 f165:=Tryz.func135.trans (BQ AC (by kernel_rfl))
 f166:=Tryz.func136.trans (BQ AC (by kernel_rfl))
 f169:=Tryz.func137.trans (BQ AC (by kernel_rfl))
 f240:=Tryz.func183.trans (BQ AC (by kernel_rfl))
 f241:=Tryz.func184.trans (BQ AC (by kernel_rfl))
 f276:=Tryz.func226.trans (BQ AC (by kernel_rfl))
 f277:=Tryz.func227.trans (BQ AC (by kernel_rfl))
 t0:=Tryz.underlying0
 a0:=Tryz.isAgg0
 z0:=Tryz.sizeOf0
 v0:=Tryz.zeroValue0
 t3:=Tryz.underlying3
 a3:=Tryz.isAgg3
 z3:=Tryz.sizeOf3
 v3:=Tryz.zeroValue3
 t4:=Tryz.underlying4
 a4:=Tryz.isAgg4
 z4:=Tryz.sizeOf4
 v4:=Tryz.zeroValue4
 t9:=Tryz.underlying9
 a9:=Tryz.isAgg9
 z9:=Tryz.sizeOf9
 v9:=Tryz.zeroValue9
 t20:=Tryz.underlying20
 a20:=Tryz.isAgg20
 z20:=Tryz.sizeOf20
 v20:=Tryz.zeroValue20
 t31:=Tryz.underlying92
 a31:=Tryz.isAgg92
 z31:=Tryz.sizeOf92
 v31:=Tryz.zeroValue92
 t37:=Tryz.underlying156
 a37:=Tryz.isAgg156
 z37:=Tryz.sizeOf156
 v37:=Tryz.zeroValue156
 t70:=Tryz.underlying187
 a70:=Tryz.isAgg187
 z70:=Tryz.sizeOf187
 v70:=Tryz.zeroValue187
 t72:=Tryz.underlying189
 a72:=Tryz.isAgg189
 z72:=Tryz.sizeOf189
 v72:=Tryz.zeroValue189
 t75:=Tryz.underlying192
 a75:=Tryz.isAgg192
 z75:=Tryz.sizeOf192
 v75:=Tryz.zeroValue192
 t76:=Tryz.underlying193
 a76:=Tryz.isAgg193
 z76:=Tryz.sizeOf193
 v76:=Tryz.zeroValue193
 t127:=Tryz.underlying242
 a127:=Tryz.isAgg242
 z127:=Tryz.sizeOf242
 v127:=Tryz.zeroValue242
 t164:=Tryz.underlying271
 a164:=Tryz.isAgg271
 z164:=Tryz.sizeOf271
 v164:=Tryz.zeroValue271}
theorem Tryz.Builder_Extra_156:Builder.Extra Tryz.prog Tryz.lays156_ren:={
 sizeBuilder:=by kernel_rfl
 liesBuilder:=by kernel_rfl
 t5:=Tryz.underlying5
 a5:=Tryz.isAgg5
 z5:=Tryz.sizeOf5
 v5:=Tryz.zeroValue5
 infoByte:=by kernel_rfl
 cellsByte:=by kernel_rfl
 sizeByte:=by kernel_rfl
 neB5:=by decide}
open Go.RowKit in
theorem Tryz.strings_Join_none(a:AP Addr)(c:AB)(b:Cg)(w:AN):
 BU Tryz.prog 91 #[.slice a 0 c,.string b] w λe w'=>e=.returned (.string ⟨#[]⟩)/\w'=w:=Any.strings_Join_none Tryz.lays156 Tryz.Builder_Extra_156 a c b w
open Go.RowKit in
theorem Tryz.strings_Join(bk o c:AB)(d:AE Cg)(a:Cg)(w:AN)(b:∀(j:AB) x,d[j]?=AC x->w.cell? ⟨bk,o+j,AF⟩=AC (.string x))(h:bk<w.heap.size)(hN:d.length<=140737488355328)(f:d.length<=c)(g:(FM (d.map (·.data.toList)) a.data.toList).length<=140737488355328):
 BU Tryz.prog 91 #[.slice (AC ⟨bk,o,AF⟩) d.length c,.string a] w λe w'=>e=.returned (.string ⟨(FM (d.map (·.data.toList)) a.data.toList).toArray⟩)/\Below w.heap.size w w':=Any.strings_Join Tryz.lays156 Tryz.Builder_Extra_156 bk o c d a w b h hN f g
def Tryz.laysM171_ren:I5:=⟨λ|171=>50|243=>92|246=>90|283=>131|284=>132|285=>133|286=>134|129=>179|317=>178|318=>180|319=>181|320=>182|337=>224|338=>225|n=>n,λ|3=>3|9=>9|2=>2|4=>4|171=>182|0=>0|53=>119|37=>156|5=>5|173=>185|212=>238|51=>239|20=>20|213=>240|46=>211|232=>292|233=>293|n=>n,λ|17=>0|18=>1|19=>2|n=>n⟩
theorem Tryz.laysM171:AJA Tryz.prog Tryz.laysM171_ren:={
 mixed:=by kernel_rfl
 f129:=Tryz.func179.trans (BQ AC (by kernel_rfl))
 f171:=Tryz.func50.trans (BQ AC (by kernel_rfl))
 f243:=Tryz.func92.trans (BQ AC (by kernel_rfl))
 f246:=Tryz.func90.trans (BQ AC (by kernel_rfl))
 f283:=Tryz.func131.trans (BQ AC (by kernel_rfl))
 f284:=Tryz.func132.trans (BQ AC (by kernel_rfl))
 f285:=Tryz.func133.trans (BQ AC (by kernel_rfl))
 f286:=Tryz.func134.trans (BQ AC (by kernel_rfl))
 f317:=Tryz.func178.trans (BQ AC (by kernel_rfl))
 f318:=Tryz.func180.trans (BQ AC (by kernel_rfl))
 f319:=Tryz.func181.trans (BQ AC (by kernel_rfl))
 f320:=Tryz.func182.trans (BQ AC (by kernel_rfl))
 f337:=Tryz.func224.trans (BQ AC (by kernel_rfl))
 f338:=Tryz.func225.trans (BQ AC (by kernel_rfl))
 t0:=Tryz.underlying0
 a0:=Tryz.isAgg0
 z0:=Tryz.sizeOf0
 v0:=Tryz.zeroValue0
 t2:=Tryz.underlying2
 a2:=Tryz.isAgg2
 z2:=Tryz.sizeOf2
 v2:=Tryz.zeroValue2
 t3:=Tryz.underlying3
 a3:=Tryz.isAgg3
 z3:=Tryz.sizeOf3
 v3:=Tryz.zeroValue3
 t4:=Tryz.underlying4
 a4:=Tryz.isAgg4
 z4:=Tryz.sizeOf4
 v4:=Tryz.zeroValue4
 t5:=Tryz.underlying5
 a5:=Tryz.isAgg5
 z5:=Tryz.sizeOf5
 v5:=Tryz.zeroValue5
 t9:=Tryz.underlying9
 a9:=Tryz.isAgg9
 z9:=Tryz.sizeOf9
 v9:=Tryz.zeroValue9
 t20:=Tryz.underlying20
 a20:=Tryz.isAgg20
 z20:=Tryz.sizeOf20
 v20:=Tryz.zeroValue20
 t37:=Tryz.underlying156
 a37:=Tryz.isAgg156
 z37:=Tryz.sizeOf156
 v37:=Tryz.zeroValue156
 t46:=Tryz.underlying211
 a46:=Tryz.isAgg211
 z46:=Tryz.sizeOf211
 v46:=Tryz.zeroValue211
 t51:=Tryz.underlying239
 a51:=Tryz.isAgg239
 z51:=Tryz.sizeOf239
 v51:=Tryz.zeroValue239
 t53:=Tryz.underlying119
 a53:=Tryz.isAgg119
 z53:=Tryz.sizeOf119
 v53:=Tryz.zeroValue119
 t171:=Tryz.underlying182
 a171:=Tryz.isAgg182
 z171:=Tryz.sizeOf182
 v171:=Tryz.zeroValue182
 t173:=Tryz.underlying185
 a173:=Tryz.isAgg185
 z173:=Tryz.sizeOf185
 v173:=Tryz.zeroValue185
 t212:=Tryz.underlying238
 a212:=Tryz.isAgg238
 z212:=Tryz.sizeOf238
 v212:=Tryz.zeroValue238
 t213:=Tryz.underlying240
 a213:=Tryz.isAgg240
 z213:=Tryz.sizeOf240
 t232:=Tryz.underlying292
 a232:=Tryz.isAgg292
 z232:=Tryz.sizeOf292
 v232:=Tryz.zeroValue292
 t233:=Tryz.underlying293
 a233:=Tryz.isAgg293
 z233:=Tryz.sizeOf293
 v233:=Tryz.zeroValue293
 g17:=by kernel_rfl
 g18:=by kernel_rfl
 g19:=by kernel_rfl
 i0:=by kernel_rfl
 i2:=by kernel_rfl
 i3:=by kernel_rfl
 i4:=by kernel_rfl
 i5:=by kernel_rfl
 i9:=by kernel_rfl
 i20:=by kernel_rfl
 i37:=by kernel_rfl
 i46:=by kernel_rfl
 i51:=by kernel_rfl
 i53:=by kernel_rfl
 i171:=by kernel_rfl
 i173:=by kernel_rfl
 i212:=by kernel_rfl
 i232:=by kernel_rfl
 i233:=by kernel_rfl
 m17:=by kernel_rfl
 m18:=by kernel_rfl
 m19:=by kernel_rfl}
open Go.RowKit Go.Sort Go.Lib in
theorem Tryz.strconv_Itoa(n:AA)(b: -9223372036854775808<=n)(c:n<=9223372036854775807)(w:AN)(a:bU Tryz.prog w "internal/strconv.uint64pow10" .u64 We):
 BU Tryz.prog 50 #[.int .i64 n] w λe w'=>e=.returned (.string ⟨(Cr n).toArray⟩)/\∃k os,w'=grow (w.drewN k) os:=Any.strconv_Itoa Tryz.laysM171 n b c w a
def Tryz.laysM173_ren:I5:=⟨λ|173=>48|246=>90|283=>131|284=>132|285=>133|286=>134|129=>179|317=>178|318=>180|319=>181|320=>182|337=>224|338=>225|n=>n,λ|2=>2|3=>3|9=>9|4=>4|171=>182|0=>0|53=>119|37=>156|5=>5|173=>185|212=>238|51=>239|20=>20|213=>240|46=>211|232=>292|233=>293|n=>n,λ|17=>0|18=>1|19=>2|n=>n⟩
theorem Tryz.laysM173:AJB Tryz.prog Tryz.laysM173_ren:={
 mixed:=by kernel_rfl
 f129:=Tryz.func179.trans (BQ AC (by kernel_rfl))
 f173:=Tryz.func48.trans (BQ AC (by kernel_rfl))
 f246:=Tryz.func90.trans (BQ AC (by kernel_rfl))
 f283:=Tryz.func131.trans (BQ AC (by kernel_rfl))
 f284:=Tryz.func132.trans (BQ AC (by kernel_rfl))
 f285:=Tryz.func133.trans (BQ AC (by kernel_rfl))
 f286:=Tryz.func134.trans (BQ AC (by kernel_rfl))
 f317:=Tryz.func178.trans (BQ AC (by kernel_rfl))
 f318:=Tryz.func180.trans (BQ AC (by kernel_rfl))
 f319:=Tryz.func181.trans (BQ AC (by kernel_rfl))
 f320:=Tryz.func182.trans (BQ AC (by kernel_rfl))
 f337:=Tryz.func224.trans (BQ AC (by kernel_rfl))
 f338:=Tryz.func225.trans (BQ AC (by kernel_rfl))
 t0:=Tryz.underlying0
 a0:=Tryz.isAgg0
 z0:=Tryz.sizeOf0
 v0:=Tryz.zeroValue0
 t2:=Tryz.underlying2
 a2:=Tryz.isAgg2
 z2:=Tryz.sizeOf2
 v2:=Tryz.zeroValue2
 t3:=Tryz.underlying3
 a3:=Tryz.isAgg3
 z3:=Tryz.sizeOf3
 v3:=Tryz.zeroValue3
 t4:=Tryz.underlying4
 a4:=Tryz.isAgg4
 z4:=Tryz.sizeOf4
 v4:=Tryz.zeroValue4
 t5:=Tryz.underlying5
 a5:=Tryz.isAgg5
 z5:=Tryz.sizeOf5
 v5:=Tryz.zeroValue5
 t9:=Tryz.underlying9
 a9:=Tryz.isAgg9
 z9:=Tryz.sizeOf9
 v9:=Tryz.zeroValue9
 t20:=Tryz.underlying20
 a20:=Tryz.isAgg20
 z20:=Tryz.sizeOf20
 v20:=Tryz.zeroValue20
 t37:=Tryz.underlying156
 a37:=Tryz.isAgg156
 z37:=Tryz.sizeOf156
 v37:=Tryz.zeroValue156
 t46:=Tryz.underlying211
 a46:=Tryz.isAgg211
 z46:=Tryz.sizeOf211
 v46:=Tryz.zeroValue211
 t51:=Tryz.underlying239
 a51:=Tryz.isAgg239
 z51:=Tryz.sizeOf239
 v51:=Tryz.zeroValue239
 t53:=Tryz.underlying119
 a53:=Tryz.isAgg119
 z53:=Tryz.sizeOf119
 v53:=Tryz.zeroValue119
 t171:=Tryz.underlying182
 a171:=Tryz.isAgg182
 z171:=Tryz.sizeOf182
 v171:=Tryz.zeroValue182
 t173:=Tryz.underlying185
 a173:=Tryz.isAgg185
 z173:=Tryz.sizeOf185
 v173:=Tryz.zeroValue185
 t212:=Tryz.underlying238
 a212:=Tryz.isAgg238
 z212:=Tryz.sizeOf238
 v212:=Tryz.zeroValue238
 t213:=Tryz.underlying240
 a213:=Tryz.isAgg240
 z213:=Tryz.sizeOf240
 t232:=Tryz.underlying292
 a232:=Tryz.isAgg292
 z232:=Tryz.sizeOf292
 v232:=Tryz.zeroValue292
 t233:=Tryz.underlying293
 a233:=Tryz.isAgg293
 z233:=Tryz.sizeOf293
 v233:=Tryz.zeroValue293
 g17:=by kernel_rfl
 g18:=by kernel_rfl
 g19:=by kernel_rfl
 i0:=by kernel_rfl
 i2:=by kernel_rfl
 i3:=by kernel_rfl
 i4:=by kernel_rfl
 i5:=by kernel_rfl
 i9:=by kernel_rfl
 i20:=by kernel_rfl
 i37:=by kernel_rfl
 i46:=by kernel_rfl
 i51:=by kernel_rfl
 i53:=by kernel_rfl
 i171:=by kernel_rfl
 i173:=by kernel_rfl
 i212:=by kernel_rfl
 i232:=by kernel_rfl
 i233:=by kernel_rfl
 m17:=by kernel_rfl
 m18:=by kernel_rfl
 m19:=by kernel_rfl}
open Go.RowKit Go.Sort Go.Lib in
theorem Tryz.strconv_FormatInt_10(n:AA)(b: -9223372036854775808<=n)(c:n<=9223372036854775807)(w:AN)(a:bU Tryz.prog w "internal/strconv.uint64pow10" .u64 We):
 BU Tryz.prog 48 #[.int .i64 n,.int .i64 10] w λe w'=>e=.returned (.string ⟨(Cr n).toArray⟩)/\∃k os,w'=grow (w.drewN k) os:=Any.strconv_FormatInt_10 Tryz.laysM173 n b c w a
