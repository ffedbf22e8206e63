/-
  Part of the proof. No condition.
-/
import Derived.Shelf.LaysC
import Derived.Ground.GgwProg
import Derived.Test.YtkgejlchafionaaGreatDoorG1
import Derived.Lib.AtoiErrMem
import Derived.Tactics2
import Derived.Lib.ItoaNum
import Derived.Lib.Join
open Bool renaming and_eq_true->A0,false->AK,or_eq_false_iff->zJ,or_eq_true->ED,true->AD,true_and->Cz
open ByteArray renaming size->AJM
open Decidable renaming decide->AG
open Eq renaming trans->FL
open Go renaming Value->AJ
open Go.FloatKind renaming f64->BV
open Go.IntKind renaming i64->E7
open Go.Lib renaming decDigits->MG,decDigits_one->zK,itoa->Cr,join->FM,join_cons->zL,nDigits_small->zM
open Ieee renaming double->Fx,signed->RO
open Ieee.Datum renaming integral->r5,order->ANP,product->AJN,sum->r6,toInt->AJO
open Ieee.Format renaming nearest->Uo,read->ia,word->AJP
open Ieee.Toward renaming cut->bl,even->bn,zero->AJQ
open Int renaming add_mul->zN,compare_eq_eq->Wq,compare_eq_gt->RP,compare_eq_lt->bo,le_of_lt->r7,lt_trichotomy->bp,mul_lt_mul_of_pos_right->zO,mul_ne_zero->zP,mul_neg_of_neg_of_pos->zQ,mul_nonneg->ib,natAbs_mul->ic,natAbs_natCast->Up,natAbs_neg->ie,natAbs_pow->r8,pow_pos->ig,zero_mul->zR
open List renaming all_eq_true->C8,any_append->zS,any_eq_false->zT,append_nil->Ce,cons_append->Gk,drop->Kr,drop_left->RN,length->bQ,length_append->BA,mem_append->CH,mem_singleton->Cn,take_left->zU
open Nat renaming add_sub_cancel->bq,eq_zero_or_pos->br,le_refl->Ak,log2_lt->Uq,lt_succ_self->bt,min_eq_left->MH,mul_assoc->r9,mul_div_cancel->zV,mul_lt_mul_of_pos_right->Ur,mul_one->Gd,mul_pos->bu,one_mul->ANa,pow_add->Kw,pow_zero->ANv,shiftLeft_eq->MI,two_pow_pos->I8,zero_mul->I6
open Option renaming map_some->Ib,none->AF,some->AC
open UInt8 renaming ofNat->Cj
open _root_ renaming Bool->AH,Int->AA,List->AE,Nat->AB,Option->AP,UInt8->Bo,Unit->ET,beq_eq_false_iff_ne->CE,beq_iff_eq->Be,beq_self_eq_true->GD,cond_false->BZ,cond_true->Ag,congrArg->BQ,decide_eq_decide->bw,decide_eq_false->BP,decide_eq_true->BK,decide_eq_true_eq->A6,if_neg->AY,if_pos->Ae,rfl->AL
set_option maxRecDepth 1000000
open Go Go.Eng
noncomputable section
namespace Go.Proofs.YtkgejlchafionaaGreatDoor
open Tryz
open Nice Go.RowKit
theorem glE{v:AJ}(h:lU (er AK) v):v=.nilIface\/∃c d,v=.iface c d:=by
 rcases h with⟨e,_⟩|⟨b,_,a⟩|⟨k,m,a,_⟩
 ·cases e
 ·unfold pT at a
  split at a
  ·exact .inl rfl
  ·exact .inr ⟨_,_,rfl⟩
  ·cases a
 ·cases a
theorem Iq{w w':World}(h:Below w.heap.size w w'):DU w w':=⟨h.size,h.os,h.output,λb a=>h.block b a⟩
theorem Hy(s:L8):(bs s).data.toList=s:=by simp[bs]
theorem TZ(s:L8):(bs s).size=s.length:=by simp[bs,AJM]
theorem Ta{f:FuncId}{S:PSpec}(h:∀(fz:AB->AP (Array AJ)) (w:World) (args:Array AJ) (x:AM S.ts),NP IP w->CN fz S.ts x args.toList->S.pre x=AD->
  Calls prog f args w λe w'=>∃vs,e=.returned (Er vs)/\CN fz S.rs (S.g x) vs/\DU w w'):PC f S:=by
 intro fz w args x a d l m;refine(h fz w args x d l m).mono ?_;rintro e w' ⟨vs,rfl,n,k⟩;have i:∀b c,fz b=AC c->b<w.heap.size:=λb c j=>by
  obtain⟨e,fr,h⟩:=a b c j;exact(Array.getElem?_eq_some_iff.1 h).1
 exact⟨vs,fz,rfl,λ_ _ h=>h,a.keep λb c j=>k.2.2.2 b (i b c j),λ_ _ h=>.inl h,n,k⟩
theorem OH{fz:AB->AP (Array AJ)}{t:Ty}{ts:AE Ty}{x:AM (t::ts)}{l:AE AJ}(b:t.agg=AK)(h:CN fz (t::ts) x l):∃v r,l=v::r/\Cw fz t x.1 [v]/\CN fz ts x.2 r:=by
 obtain⟨v,r,e,a,c⟩:=h;rcases a with⟨h,_⟩|⟨_,a⟩
 ·rw[b]at h;cases h
 ·exact⟨v,r,e,a,c⟩
open Nice
theorem AFk:PC 207 ky:=(Ap (Ac (l:=[]) trivial) Al func207 (by kernel_rfl) (by decide)).nice λ⟨c,()⟩ _=>AHz c
theorem AOC:PC 235 QC:=(Ap (Ac (l:=[(207,ky)]) ⟨AFk,trivial⟩) Al func235 (by kernel_rfl) (by decide)).nice λ⟨s,()⟩ h=>p8 s h
theorem ABT:PC 191 UG:=(Ap (Ac (l:=[(235,QC)]) ⟨AOC,trivial⟩) Al func191 (by kernel_rfl) (by decide)).nice λ⟨r,s,()⟩ h=>ADr r s h
theorem AFl:PC 22 ADm:=(Ap (Ac (l:=[]) trivial) Al func22 (by kernel_rfl) (by decide)).nice λ⟨s,n,()⟩ h=>AH0 s n (of_decide_eq_true h)
open Nice
abbrev Tb:AE (AB×AE (AB×Sh)):=[]
def fy(x:AM [CS]):AP (AM [BF,.int .i64]):=fO prog (Aj [(138,Bz),(94,Dm),(95,Dl)]) (AV Tb) f51 [CS] [BF,.int .i64] x
theorem jt(N:AB)(a b:L8)(c:AE (L8×L8×ET))(d:L8){Qc}[Qc':QA (AC (Gj,(400:AA),())) Qc]{Qa}[Qa':QA (bif (DF Gj b).snd then(gd [E6 b] (bif !d==[]then Qc else(AC ((DF Gj b).fst,(0:AA),()))))else(gd [E6 b] Qc)) Qa]{Qb}[Qb':QA (EA ((0:AA),Kr 3 a,(0:AA),[],(0:AA),[],[],[],(0:AA),AK,()) EB b c d) Qb]{Qd}[Qd':QA (Aw b&&Aw (Kr 3 a)) Qd]:Cy prog (Aj [(138,Bz),(94,Dm),(95,Dl)]) (AV Tb) f51 [CS] [BF,.int .i64] N ((EB,a,b,c,d,()),())= (bif a==oW then Qa else(bif a==KZ then Qa else(bif !Bt a KZ then(AC (Gj,(404:AA),()))else(gd [AG ((3:AA)<=(↑a.length:AA))] (bif Qb.snd then(gd [DY c&&Qd] (bif !d==[]then Qc else(AC (Qb.fst,(0:AA),()))))else(gd [DY c&&Qd] Qc)))))):=by obtain⟨rfl⟩:=Qd';obtain⟨rfl⟩:=Qb';obtain⟨rfl⟩:=Qa';obtain⟨rfl⟩:=Qc';kernel_rfl
theorem ju(x:AM [CS]):fy x=Cy prog (Aj [(138,Bz),(94,Dm),(95,Dl)]) (AV Tb) f51 [CS] [BF,.int .i64] AU x:=AL
abbrev Pt:AE (AB×AE (AB×Sh)):=[]
def Zi(x:AM [CS]):AP (AM [BF,.int .i64]):=fO prog (Aj [(138,Bz),(94,Dm),(95,Dl)]) (AV Pt) f51 [CS] [BF,.int .i64] x
theorem dP(N:AB)(a b:L8)(c:AE (L8×L8×ET))(d:L8){Qc}[Qc':QA (AC (Gj,(400:AA),())) Qc]{Qd}[Qd':QA (DF ((0:AA),[],(0:AA),[],(0:AA),[],[],[],(0:AA),AD,()) b) Qd]{Qa}[Qa':QA (bif Qd.snd then(gd [E6 b] (bif !d==[]then Qc else(AC (Qd.fst,(0:AA),()))))else(gd [E6 b] Qc)) Qa]{Qb}[Qb':QA (EA ((0:AA),Kr 3 a,(0:AA),[],(0:AA),[],[],[],(0:AA),AD,()) Bh b c d) Qb]{Qe}[Qe':QA (Aw b&&Aw (Kr 3 a)) Qe]:Cy prog (Aj [(138,Bz),(94,Dm),(95,Dl)]) (AV Pt) f51 [CS] [BF,.int .i64] N ((Bh,a,b,c,d,()),())= (bif a==oW then Qa else(bif a==KZ then Qa else(bif !Bt a KZ then(AC (Gj,(404:AA),()))else(gd [AG ((3:AA)<=(↑a.length:AA))] (bif Qb.snd then(gd [DY c&&Qe] (bif !d==[]then Qc else(AC (Qb.fst,(0:AA),()))))else(gd [DY c&&Qe] Qc)))))):=by obtain⟨rfl⟩:=Qe';obtain⟨rfl⟩:=Qb';obtain⟨rfl⟩:=Qa';obtain⟨rfl⟩:=Qd';obtain⟨rfl⟩:=Qc';kernel_rfl
theorem dQ(x:AM [CS]):Zi x=Cy prog (Aj [(138,Bz),(94,Dm),(95,Dl)]) (AV Pt) f51 [CS] [BF,.int .i64] AU x:=AL
abbrev Tc:AE (AB×AE (AB×Sh)):=[]
def ANq(x:AM [CS]):AP (AM [BF,.int .i64]):=fO prog (Aj [(138,Bz),(94,Dm),(95,Dl)]) (AV Tc) f51 [CS] [BF,.int .i64] x
theorem jv(N:AB)(a c:L8)(b:AE (L8×L8×ET))(d:L8){Qa}[Qa':QA (EA ((0:AA),Kr 3 a,(0:AA),[],(0:AA),[],[],[],(0:AA),AK,()) DP c b d) Qa]{Qb}[Qb':QA (Aw c&&Aw (Kr 3 a)) Qb]:Cy prog (Aj [(138,Bz),(94,Dm),(95,Dl)]) (AV Tc) f51 [CS] [BF,.int .i64] N ((DP,a,c,b,d,()),())= (bif a==oW then(AC (Gj,(405:AA),()))else(bif a==KZ then(AC (Gj,(405:AA),()))else(bif !Bt a KZ then(AC (Gj,(404:AA),()))else(gd [AG ((3:AA)<=(↑a.length:AA))] (bif Qa.snd then(gd [DY b&&Qb] (bif !d==[]then(AC (Qa.fst,(0:AA),()))else(AC (Qa.fst,(0:AA),()))))else(gd [DY b&&Qb] (AC (Gj,(400:AA),())))))))):=by obtain⟨rfl⟩:=Qb';obtain⟨rfl⟩:=Qa';kernel_rfl
theorem jw(x:AM [CS]):ANq x=Cy prog (Aj [(138,Bz),(94,Dm),(95,Dl)]) (AV Tc) f51 [CS] [BF,.int .i64] AU x:=AL
abbrev Td:AE (AB×AE (AB×Sh)):=[]
def gB(x:AM [CS]):AP (AM [BF,.int .i64]):=fO prog (Aj [(138,Bz),(94,Dm),(95,Dl)]) (AV Td) f51 [CS] [BF,.int .i64] x
theorem jx(N:AB)(a c:L8)(b:AE (L8×L8×ET))(d:L8){Qa}[Qa':QA (EA ((0:AA),Kr 3 a,(0:AA),[],(0:AA),[],[],[],(0:AA),AK,()) DG c b d) Qa]{Qb}[Qb':QA (Aw c&&Aw (Kr 3 a)) Qb]:Cy prog (Aj [(138,Bz),(94,Dm),(95,Dl)]) (AV Td) f51 [CS] [BF,.int .i64] N ((DG,a,c,b,d,()),())= (bif a==oW then(AC (Gj,(405:AA),()))else(bif a==KZ then(AC (Gj,(405:AA),()))else(bif !Bt a KZ then(AC (Gj,(404:AA),()))else(gd [AG ((3:AA)<=(↑a.length:AA))] (bif Qa.snd then(gd [DY b&&Qb] (bif !d==[]then(AC (Gj,(400:AA),()))else(AC (Qa.fst,(0:AA),()))))else(gd [DY b&&Qb] (AC (Gj,(400:AA),())))))))):=by obtain⟨rfl⟩:=Qb';obtain⟨rfl⟩:=Qa';kernel_rfl
theorem jy(x:AM [CS]):gB x=Cy prog (Aj [(138,Bz),(94,Dm),(95,Dl)]) (AV Td) f51 [CS] [BF,.int .i64] AU x:=AL
abbrev dR:AE (AB×AE (AB×Sh)):=[]
def AOc(x:AM [CS]):AP (AM [BF,.int .i64]):=fO prog (Aj [(138,Bz),(94,vY [BF,.str] [BF,.bool]),(95,vY [BF,CS] [BF,.bool])]) (AV dR) f51 [CS] [BF,.int .i64] x
theorem th(N:AB)(a b c:L8)(d:AE (L8×L8×ET))(e:L8){Qa}[Qa':QA (gd [AG ((3:AA)<=(↑b.length:AA))] (AF)) Qa]{Qe}[Qe':QA (AC (Gj,(405:AA),())) Qe]{Qb}[Qb':QA (bif a==EB then(gd [a==Bh] (AF))else(bif a==Bh then(gd [a==Bh] (AF))else(bif a==Bh then Qe else Qe))) Qb]{Qc}[Qc':QA (bif !Bt b KZ then(AC (Gj,(404:AA),()))else Qa) Qc]{Qd}[Qd':QA (bif !Bt b KZ then(AC (Gj,(404:AA),()))else(bif !a==DP then(bif !a==DG then Qe else Qa)else Qa)) Qd]{Qf}[Qf':QA (bif a==Bh then Qc else Qc) Qf]:Cy prog (Aj [(138,Bz),(94,vY [BF,.str] [BF,.bool]),(95,vY [BF,CS] [BF,.bool])]) (AV dR) f51 [CS] [BF,.int .i64] N ((a,b,c,d,e,()),())= (bif b==oW then Qb else(bif b==KZ then Qb else(bif a==EB then Qf else(bif a==Bh then Qf else(bif a==Bh then Qd else Qd))))):=by obtain⟨rfl⟩:=Qf';obtain⟨rfl⟩:=Qd';obtain⟨rfl⟩:=Qc';obtain⟨rfl⟩:=Qb';obtain⟨rfl⟩:=Qe';obtain⟨rfl⟩:=Qa';kernel_rfl
theorem tj(x:AM [CS]):AOc x=Cy prog (Aj [(138,Bz),(94,vY [BF,.str] [BF,.bool]),(95,vY [BF,CS] [BF,.bool])]) (AV dR) f51 [CS] [BF,.int .i64] AU x:=AL
open Nice
abbrev Te:AE (AB×AE (AB×Sh)):=[]
def gC(x:AM [CS]):AP (AM [.int .i64,.str,.bool]):=fO prog (Aj [(191,UG),(193,H2),(236,Ov),(101,Nc)]) (AV Te) f143 [CS] [.int .i64,.str,.bool] x
theorem jz(N:AB)(b c d:L8)(a:AE (L8×L8×ET))(e:L8){Qc}[Qc':QA (CK (Ba a JL).fst [34]) Qc]{Qa}[Qa':QA (HJ Qc.fst [34]) Qa]{Qb}[Qb':QA (AC ((2:AA),Qa.fst,AK,())) Qb]{Qd}[Qd':QA (bif Qa.snd then AF else Qb) Qd]{Qe}[Qe':QA (bif Qc.snd then AF else Qb) Qe]:Cy prog (Aj [(191,UG),(193,H2),(236,Ov),(101,Nc)]) (AV Te) f143 [CS] [.int .i64,.str,.bool] N ((b,c,d,a,e,()),())= (bif (Ba a JK).snd then(gd [HI a JK] (bif (Ba a JL).snd then(gd [HI a JL] (AC ((0:AA),[],AK,())))else(gd [HI a JL] (bif (Ba a JK).fst==[42]then(AC ((1:AA),[],AD,()))else(AC ((1:AA),[],AK,()))))))else(gd [HI a JK] (bif (Ba a JL).snd then(gd [Aw Qc.fst,HI a JL] (bif (F9 Qa.fst).snd then(bif Qc.snd then(bif Qc.snd then(bif Qa.snd then(bif Qa.snd then(AC ((2:AA),Qa.fst,AD,()))else Qb)else Qd)else Qb)else Qe)else(bif Qc.snd then(bif Qc.snd then(bif Qa.snd then(bif Qa.snd then Qb else Qb)else Qd)else Qb)else Qe)))else(gd [HI a JL] (AC ((0:AA),[],AD,())))))):=by obtain⟨rfl⟩:=Qe';obtain⟨rfl⟩:=Qd';obtain⟨rfl⟩:=Qb';obtain⟨rfl⟩:=Qa';obtain⟨rfl⟩:=Qc';kernel_rfl
theorem j0(x:AM [CS]):gC x=Cy prog (Aj [(191,UG),(193,H2),(236,Ov),(101,Nc)]) (AV Te) f143 [CS] [.int .i64,.str,.bool] AU x:=AL
abbrev Tf:AE (AB×AE (AB×Sh)):=[]
def gD(x:AM [BF,CS]):AP (AM [BF,.bool]):=fO prog (Aj [(100,Bx),(142,VB),(143,UO),(193,H2)]) (AV Tf) f95 [BF,CS] [BF,.bool] x
theorem kA(N:AB)(a:Ty.Den BF)(d f c:L8)(b:AE (L8×L8×ET))(e:L8){Qb}[Qb':QA (CK c KV) Qb]{Qf}[Qf':QA (↑Qb.fst.length:AA) Qf]{Qa}[Qa':QA (Ho Qb.fst Qf ((1:AA)) ((1099511627776:AA))) Qa]{Qg}[Qg':QA ((3:AA),a.snd.fst,Qa.fst,a.snd.snd.snd) Qg]{Qc}[Qc':QA (AC (Qg,AK,())) Qc]{Qh}[Qh':QA ((1:AA),a.snd.fst,Qa.fst,a.snd.snd.snd) Qh]{Qd}[Qd':QA (AC (Qh,AK,())) Qd]{Qe}[Qe':QA ((2:AA),a.snd.fst,a.snd.snd.fst,e,(C7 b).fst,(C7 b).snd.fst,a.snd.snd.snd.snd.snd.snd) Qe]{Qi}[Qi':QA (↑(Qb.fst.getD 0 0).toNat:AA) Qi]{Qj}[Qj':QA (bif Qb.snd then AF else Qc) Qj]{Qk}[Qk':QA (bif Qb.snd then AF else Qd) Qk]:Cy prog (Aj [(100,Bx),(142,VB),(143,UO),(193,H2)]) (AV Tf) f95 [BF,CS] [BF,.bool] N (a,(d,f,c,b,e,()),())= (bif isKey a.snd.fst then(gd [Aw a.snd.fst] (bif d==DP then(bif (C7 b).snd.snd then(gd [DY b] (bif c==[]then(AC (Qe,AD,()))else(AC (Qe,AK,()))))else(gd [DY b] (AC (Qe,AK,()))))else(bif d==DG then(bif c==[]then(AC (((3:AA),a.snd),AD,()))else(bif Qa.snd then(gd [Aw Qb.fst] (bif Qb.snd then(bif Qb.snd then(bif Qi !=48 then(gd [AG ((0:AA)<Qf)] (AC (Qg,AD,())))else(gd [AG ((0:AA)<Qf)] Qc))else Qc)else Qj))else(gd [Aw Qb.fst] (bif Qb.snd then(bif Qb.snd then Qc else Qc)else Qj))))else(bif c==[]then(AC (((1:AA),a.snd),AD,()))else(bif Qa.snd then(gd [Aw Qb.fst] (bif Qb.snd then(bif Qb.snd then(bif Qi !=48 then(gd [AG ((0:AA)<Qf)] (AC (Qh,AD,())))else(gd [AG ((0:AA)<Qf)] Qd))else Qd)else Qk))else(gd [Aw Qb.fst] (bif Qb.snd then(bif Qb.snd then Qd else Qd)else Qk)))))))else(gd [Aw a.snd.fst] (AC (a,AK,())))):=by obtain⟨rfl⟩:=Qk';obtain⟨rfl⟩:=Qj';obtain⟨rfl⟩:=Qi';obtain⟨rfl⟩:=Qe';obtain⟨rfl⟩:=Qd';obtain⟨rfl⟩:=Qh';obtain⟨rfl⟩:=Qc';obtain⟨rfl⟩:=Qg';obtain⟨rfl⟩:=Qa';obtain⟨rfl⟩:=Qf';obtain⟨rfl⟩:=Qb';kernel_rfl
theorem kB(x:AM [BF,CS]):gD x=Cy prog (Aj [(100,Bx),(142,VB),(143,UO),(193,H2)]) (AV Tf) f95 [BF,CS] [BF,.bool] AU x:=AL
abbrev dS:AE (AB×AE (AB×Sh)):=[]
def xC(x:AM [.str,.str]):AP (AM [.bool]):=fO prog (Aj []) (AV dS) f269 [.str,.str] [.bool] x
theorem tn(N:AB)(a b:L8){Qa}[Qa':QA (↑a.length:AA) Qa]{Qb}[Qb':QA (↑b.length:AA) Qb]:Cy prog (Aj []) (AV dS) f269 [.str,.str] [.bool] N (a,b,())= (bif AG (Qa>=Qb)then(bif Kr (Qa-Qb).toNat a==b then(gd [AG ((0:AA)<=Qa-Qb),AG (Qa-Qb<=Qa),AG (A4 .i64 (Qa-Qb))] (AC (AD,())))else(gd [AG ((0:AA)<=Qa-Qb),AG (Qa-Qb<=Qa),AG (A4 .i64 (Qa-Qb))] (AC (AK,()))))else(AC (AK,()))):=by obtain⟨rfl⟩:=Qb';obtain⟨rfl⟩:=Qa';kernel_rfl
theorem tp(x:AM [.str,.str]):xC x=Cy prog (Aj []) (AV dS) f269 [.str,.str] [.bool] AU x:=AL
abbrev dT:AE (AB×AE (AB×Sh)):=[]
def xD(x:AM [.str,.str]):AP (AM [.str,.bool]):=fO prog (Aj [(269,Ou)]) (AV dT) f236 [.str,.str] [.str,.bool] x
theorem tq(N:AB)(a b:L8){Qa}[Qa':QA (↑a.length:AA) Qa]{Qb}[Qb':QA (↑b.length:AA) Qb]:Cy prog (Aj [(269,Ou)]) (AV dT) f236 [.str,.str] [.str,.bool] N (a,b,())= (bif KU a b then(gd [AG ((0:AA)<=Qa-Qb),AG (Qa-Qb<=Qa),AG (A4 .i64 (Qa-Qb)),Aw a] (AC (List.take (Qa-Qb).toNat a,AD,())))else(gd [Aw a] (AC (a,AK,())))):=by obtain⟨rfl⟩:=Qb';obtain⟨rfl⟩:=Qa';kernel_rfl
theorem tr(x:AM [.str,.str]):xD x=Cy prog (Aj [(269,Ou)]) (AV dT) f236 [.str,.str] [.str,.bool] AU x:=AL
abbrev Xn:AE (AB×AE (AB×Sh)):=[(2,[(0,(.one (.dat .str))),(1,(.one .sym)),(4,(.one .sym)),(7,(.one .sym)),(8,(.one .sym))])]
def Rz(n:AB)(t0:AE (Ty.Den .str))(t1:L8)(t4 t7 t8:AA):AP (AM [.int .i64]):=rH prog (Aj []) (AV Xn) f187 [.int .i64] n 0 [(0,dt 10),(1,sy (.string (bs t1))),(4,sy (.int .i64 t4)),(7,sy (.int .i64 t7)),(8,sy (.int .i64 t8))] [.dat .str t0]
def xE(x:AM [.slice .str,.str]):AP (AM [.int .i64]):=fO prog (Aj []) (AV Xn) f187 [.slice .str,.str] [.int .i64] x
theorem tt(N:AB)(a:AE (L8))(b:L8):Cy prog (Aj []) (AV Xn) f187 [.slice .str,.str] [.int .i64] N (a,b,())=
 (Rz N (a) (b) ((0:AA)) ((↑a.length:AA)) ((0:AA))):=by kernel_rfl
theorem tu(x:AM [.slice .str,.str]):xE x=Cy prog (Aj []) (AV Xn) f187 [.slice .str,.str] [.int .i64] AU x:=AL
theorem gE(n:AB)(t0:AE (Ty.Den .str))(t1:L8)(t4 t7 t8:AA):Rz (n+1) t0 t1 t4 t7 t8=
 (bif AG (t8<t7)then
  (bif t1==t0.getD t8.toNat Ty.str.dflt then
   (gd [AG (t8.toNat<t0.length),AG ((0:AA)<=t8),AG (t8<(↑t0.length:AA))] (AC (t8,())))
  else
   (gd [AG (A4 .i64 (t8+(1:AA))),AG (t8.toNat<t0.length),AG ((0:AA)<=t8),AG (t8<(↑t0.length:AA))] (Rz n (t0) (t1) (t4) (t7) (t8+(1:AA)))))
 else
  (AC (Int.negSucc 0,()))):=by kernel_rfl
abbrev dU:AE (AB×AE (AB×Sh)):=[]
def xH(x:AM [.slice .str,.str]):AP (AM [.bool]):=fO prog (Aj [(187,ak)]) (AV dU) f141 [.slice .str,.str] [.bool] x
theorem tv(N:AB)(a:AE (L8))(b:L8):Cy prog (Aj [(187,ak)]) (AV dU) f141 [.slice .str,.str] [.bool] N (a,b,())=
 (bif AG (vb a b>=(0:AA))then
  (gd [AG (a.length<=1000)] (AC (AD,())))
 else
  (gd [AG (a.length<=1000)] (AC (AK,())))):=by kernel_rfl
theorem tw(x:AM [.slice .str,.str]):xH x=Cy prog (Aj [(187,ak)]) (AV dU) f141 [.slice .str,.str] [.bool] AU x:=AL
abbrev OI:AE (AB×AE (AB×Sh)):=[(6,[(2,(.obj [.sym,.sym,.sym,.sym,.sym,.sym,.sym,.sym,.sym,.sym])),(4,(.obj [.sym,.sym,.sym,.sym,.sym,.sym,.sym,.sym,.sym,.sym])),(5,(.one .sym)),(6,(.one (.vec .str 9))),(21,(.one (.dat .str))),(22,(.one .sym)),(23,(.one .sym))])]
def JU(n:AB)(t2_0:AA)(t2_1:L8)(t2_2:AA)(t2_3:L8)(t2_4:AA)(t2_5 t2_6 t2_7:L8)(t2_8:AA)(t2_9:AH)(t4_0:AA)(t4_1:L8)(t4_2:AA)(t4_3:L8)(t4_4:AA)(t4_5 t4_6 t4_7:L8)(t4_8:AA)(t4_9 t5:AH)(t6:AE (Ty.Den .str))(t21:AE (Ty.Den .str))(t22 t23:AA):AP (AM [BF,.bool]):=rH prog (Aj [(100,Bx),(139,Ng),(140,UN),(141,WS),(142,VB)]) (AV OI) f94 [BF,.bool] n 0 [(2,.pointer (AC ⟨10,0,AF⟩)),(4,.pointer (AC ⟨11,0,AF⟩)),(5,.bool t5),(6,dt 12),(21,dt 13),(22,sy (.int .i64 t22)),(23,sy (.int .i64 t23))] [.row [sy (.int .i64 t2_0),sy (.string (bs t2_1)),sy (.int .i64 t2_2),sy (.string (bs t2_3)),sy (.int .i64 t2_4),sy (.string (bs t2_5)),sy (.string (bs t2_6)),sy (.string (bs t2_7)),sy (.int .i64 t2_8),.bool t2_9] 23 AK,.row [sy (.int .i64 t4_0),sy (.string (bs t4_1)),sy (.int .i64 t4_2),sy (.string (bs t4_3)),sy (.int .i64 t4_4),sy (.string (bs t4_5)),sy (.string (bs t4_6)),sy (.string (bs t4_7)),sy (.int .i64 t4_8),.bool t4_9] 23 AK,.vec .str t6 9,.dat .str t21]
def gF(x:AM [BF,.str]):AP (AM [BF,.bool]):=fO prog (Aj [(100,Bx),(139,Ng),(140,UN),(141,WS),(142,VB)]) (AV OI) f94 [BF,.str] [BF,.bool] x
theorem kC(N:AB)(a:Ty.Den BF)(b:L8):Cy prog (Aj [(100,Bx),(139,Ng),(140,UN),(141,WS),(142,VB)]) (AV OI) f94 [BF,.str] [BF,.bool] N (a,b,())=
 (bif b==[]then
  (AC (((4:AA),a.snd.fst,a.snd.snd.fst,a.snd.snd.snd.fst,a.snd.snd.snd.snd.fst,a.snd.snd.snd.snd.snd.fst,a.snd.snd.snd.snd.snd.snd.fst,a.snd.snd.snd.snd.snd.snd.snd.fst,(20:AA),a.snd.snd.snd.snd.snd.snd.snd.snd.snd.fst,()),AD,()))
 else
  (gd [E6 b&&[38]==[38]] (JU N ((4:AA)) (a.snd.fst) (a.snd.snd.fst) (a.snd.snd.snd.fst) (a.snd.snd.snd.snd.fst) (a.snd.snd.snd.snd.snd.fst) (a.snd.snd.snd.snd.snd.snd.fst) (a.snd.snd.snd.snd.snd.snd.snd.fst) ((20:AA)) (a.snd.snd.snd.snd.snd.snd.snd.snd.snd.fst) ((0:AA)) ([]) ((0:AA)) ([]) ((0:AA)) ([]) ([]) ([]) ((0:AA)) (AK) (AK) ([]) (E5 b) ((↑(E5 b).length:AA)) ((0:AA))))):=by kernel_rfl
theorem kD(x:AM [BF,.str]):gF x=Cy prog (Aj [(100,Bx),(139,Ng),(140,UN),(141,WS),(142,VB)]) (AV OI) f94 [BF,.str] [BF,.bool] AU x:=AL
theorem Vs(n:AB)(t2_0:AA)(t2_1:L8)(t2_2:AA)(t2_3:L8)(t2_4:AA)(t2_5 t2_6 t2_7:L8)(t2_8:AA)(t2_9:AH)(t4_0:AA)(t4_1:L8)(t4_2:AA)(t4_3:L8)(t4_4:AA)(t4_5 t4_6 t4_7:L8)(t4_8:AA)(t4_9 t5:AH)(t6:AE (Ty.Den .str))(t21:AE (Ty.Den .str))(t22 t23:AA){Qg}[Qg':QA (t21.getD t23.toNat Ty.str.dflt) Qg]{Qb}[Qb':QA (IY Qg) Qb]{Qe}[Qe':QA (Ho Qb.snd.fst ((2:AA)) ((1:AA)) ((20:AA))) Qe]{Qf}[Qf':QA (JU n t2_0 t2_1 t2_2 t2_3 t2_4 t2_5) Qf]{Qd}[Qd':QA (t2_0,t2_1,t2_2,t2_3,t2_4,t2_5,t2_6,t2_7,t2_8,t2_9,()) Qd]{Qh}[Qh':QA (AC (Qd,AK,())) Qh]{Qi}[Qi':QA (t6++[Qb.fst]) Qi]{Qa}[Qa':QA (bif Qb.fst==LB then(bif Qe.snd then(gd [AG (A4 .i64 (t23+1)),Aw Qb.snd.fst] (Qf t2_6 t2_7 (Qe.fst) t2_9 t4_0 t4_1 t4_2 t4_3 t4_4 t4_5 t4_6 t4_7 t4_8 t4_9 t5 Qi t21 t22 (t23+1)))else(gd [Aw Qb.snd.fst] (AC ((t2_0,t2_1,t2_2,t2_3,t2_4,t2_5,t2_6,t2_7,Qe.fst,t2_9,()),AK,()))))else(bif Qb.fst==KY then(bif Qb.snd.fst==[49]then(gd [AG (A4 .i64 (t23+1))] (JU n ((5:AA)) t2_1 t2_2 t2_3 t2_4 t2_5 t2_6 t2_7 t2_8 t2_9 t4_0 t4_1 t4_2 t4_3 t4_4 t4_5 t4_6 t4_7 t4_8 t4_9 t5 Qi t21 t22 (t23+1)))else(AC (((5:AA),t2_1,t2_2,t2_3,t2_4,t2_5,t2_6,t2_7,t2_8,t2_9,()),AK,())))else Qh)) Qa]{Qc}[Qc':QA (bif Qb.fst==KW then(gd [AG (A4 .i64 (t23+1))] (Qf (Qb.snd.fst) t2_7 t2_8 t2_9 t4_0 t4_1 t4_2 t4_3 t4_4 t4_5 t4_6 t4_7 t4_8 t4_9 t5 Qi t21 t22 (t23+1)))else(bif Qb.fst==KX then(gd [AG (A4 .i64 (t23+1))] (Qf t2_6 (Qb.snd.fst) t2_8 t2_9 t4_0 t4_1 t4_2 t4_3 t4_4 t4_5 t4_6 t4_7 t4_8 t4_9 t5 Qi t21 t22 (t23+1)))else Qa)) Qc]:JU (n+1) t2_0 t2_1 t2_2 t2_3 t2_4 t2_5 t2_6 t2_7 t2_8 t2_9 t4_0 t4_1 t4_2 t4_3 t4_4 t4_5 t4_6 t4_7 t4_8 t4_9 t5 t6 t21 t22 t23= (bif AG (t23<t22)then(gd [AG (t23.toNat<t21.length),AG (0<=t23),AG (t23<t21.length)] (bif Qb.snd.snd then(gd [E6 Qg&&[61]==[61]] (bif EZ t6 Qb.fst then(gd [AG (t6.length<=1000)] Qh)else(gd [AG ((2*(t6.length+[Qb.fst].length)+400)*16<=281474976710656),AG (t6.length<=1000)] (bif Qb.snd.fst==[]then Qc else(bif isKey Qb.snd.fst then(gd [Aw Qb.snd.fst] Qc)else(gd [Aw Qb.snd.fst] (bif Qb.fst==KW then(AC ((t2_0,t2_1,t2_2,t2_3,t2_4,t2_5,Qb.snd.fst,t2_7,t2_8,t2_9,()),AK,()))else(bif Qb.fst==KX then(AC ((t2_0,t2_1,t2_2,t2_3,t2_4,t2_5,t2_6,Qb.snd.fst,t2_8,t2_9,()),AK,()))else Qa))))))))else(gd [E6 Qg&&[61]==[61]] Qh)))else(AC (Qd,AD,()))):=by obtain⟨rfl⟩:=Qc';obtain⟨rfl⟩:=Qa';obtain⟨rfl⟩:=Qi';obtain⟨rfl⟩:=Qh';obtain⟨rfl⟩:=Qd';obtain⟨rfl⟩:=Qf';obtain⟨rfl⟩:=Qe';obtain⟨rfl⟩:=Qb';obtain⟨rfl⟩:=Qg';kernel_rfl
end Go.Proofs.YtkgejlchafionaaGreatDoor
namespace Nice
theorem NN(w r:L8):Bt (w++r) w=true:=by
 unfold Bt;rw[A0,A6,zU];exact⟨by simp,GD w⟩
theorem Tg(c:Bo)(a b:L8):FT c (a++b)=(FT c a||FT c b):=by unfold FT;rw[zS]
theorem Th{c:Bo}:∀{w r:L8},FT c w=AK->He c (w++c::r)=w
 |[],r,_=>by simp[He]
 |b::w,r,h=>by
  simp only[FT,List.any_cons,zJ]at h;simp only[Gk,He,h.1,BZ];rw[Th h.2]
theorem tx(p:L8):IY p=bif FT 61 p then(He 61 p,p.drop ((He 61 p).length+1),AD)else(p,[],AK):=AH2 61 p
theorem d21:(KX==KW)=false:=by decide
theorem d31:(LB==KW)=false:=by decide
theorem d32:(LB==KX)=false:=by decide
theorem d41:(KY==KW)=false:=by decide
theorem d42:(KY==KX)=false:=by decide
theorem d43:(KY==LB)=false:=by decide
theorem Xo(s:L8):(F9 s).2=(Jl s).2:=by
 unfold F9 Jl;cases rdZ s<;>rfl
def JV(k:L8)(b:AH):BH:=(0,k,0,[],0,[],[],[],0,b,())
def RZ(b:AH):BH:=(0,[],0,[],0,[],[],[],0,b,())
def KC(h:AH)(q b:L8):BH×AA:=bif (DF (RZ h) q).2&&b==[]then((DF (RZ h) q).1,0)else(Gj,400)
def KD(h:AH)(m p q:L8)(a:Em)(b:L8):BH×AA:=
 bif (EA (JV (p.drop 3) h) m q a b).2&&(m==DP||b==[])then((EA (JV (p.drop 3) h) m q a b).1,0)else(Gj,400)
def Jy(r:Nf):BH×AA:=
 bif r.2.1==oW||r.2.1==KZ then(bif r.1==EB||r.1==Bh then KC (r.1==Bh) r.2.2.1 r.2.2.2.2.1 else(Gj,405))
 else bif Bt r.2.1 KZ then(bif (r.1==EB||r.1==Bh)||(r.1==DP||r.1==DG)then KD (r.1==Bh) r.1 r.2.1 r.2.2.1 r.2.2.2.1 r.2.2.2.2.1 else(Gj,405))
 else(Gj,404)
def Qr(r:Nf):AH:=DY r.2.2.2.1&&(E6 r.2.2.1&&Aw r.2.1)
def ofS:PSpec:=⟨[CS],[BF,.int .i64],λx=>Qr x.1,λx=>((Jy x.1).1,(Jy x.1).2,())⟩
def clW:L8:=[67,111,110,116,101,110,116,45,76,101,110,103,116,104]
def Zj:L8:=[118,101,114,115,105,111,110,115,61,49]
def ABU:Nf:=([],[],[],[],[],())
def AOD(p:L8):AE (L8):=bif p==[]then []else [ADs++p]
def dV(p:L8):AE (L8):=bif p==[]then []else [ADt++p]
def Xp(m:AA):AE (L8):=bif m==20 then []else [ADu++Cr m]
def Ir(k:AA):AE (L8):=bif k==5 then [Zj]else []
def Ds(p a:L8)(m k:AA):AE (L8):=AOD p++(dV a++(Xp m++Ir k))
def Pu(a:BH):L8:=FM (Ds a.2.2.2.2.2.2.1 a.2.2.2.2.2.2.2.1 a.2.2.2.2.2.2.2.2.1 a.1) [38]
def dW(k:AA):AH:=k==4||k==5
def Vt(k:AA)(b:AH):L8:=bif k==2 then DP else bif k==3 then DG else bif b then Bh else EB
def Qs(k:AA)(key:L8):L8:=bif dW k then oW else KZ++key
def Ti(a:BH):L8:=bif dW a.1 then Pu a else bif a.2.2.1==0 then []else KV++Cr a.2.2.1
def Zk(c:AA)(t:L8):Em:=bif c==1 then [(JK,[42],())]else bif c==2 then [(JL,[34]++t++[34],())]else []
def R0(b:L8):Em:=bif b==[]then []else [(clW,Cr (b.length:AA),())]
def Ra(a:BH):Nf:=(Vt a.1 a.2.2.2.2.2.2.2.2.2.1,Qs a.1 a.2.1,Ti a,Zk a.2.2.2.2.1 a.2.2.2.2.2.1++R0 a.2.2.2.1,a.2.2.2.1,())
def xI(a b:BH):AH:=a.1==b.1&&(a.2.1==b.2.1&&(a.2.2.1==b.2.2.1&&(a.2.2.2.1==b.2.2.2.1&&(a.2.2.2.2.1==b.2.2.2.2.1&&(a.2.2.2.2.2.1==b.2.2.2.2.2.1&&(a.2.2.2.2.2.2.1==b.2.2.2.2.2.2.1&&(a.2.2.2.2.2.2.2.1==b.2.2.2.2.2.2.2.1&&(a.2.2.2.2.2.2.2.2.1==b.2.2.2.2.2.2.2.2.1&&a.2.2.2.2.2.2.2.2.2.1==b.2.2.2.2.2.2.2.2.2.1))))))))
theorem gG{a b:BH}:xI a b=AD↔a=b:=by
 obtain⟨a0,c,a2,a3,a4,a5,d,e,f,a9,⟨⟩⟩:=a;obtain⟨g,h,i,j,k,l,m,n,o,p,⟨⟩⟩:=b;simp[xI]
def AOE(a:BH)(r:Nf):Nf×AH:=bif (Jy r).2==0&&(xI (Jy r).1 a&&AG ((a.2.2.2.1.length:AA)<=300))then(r,AD)else(ABU,AK)
def HV(a:BH):Nf×AH:=AOE a (Ra a)
def Zl(a:BH):AH:=a.2.1==[]&&(a.2.2.1==0&&(a.2.2.2.1==[]&&(a.2.2.2.2.1==0&&(a.2.2.2.2.2.1==[]&&(Nd a.2.2.2.2.2.2.1&&(Nd a.2.2.2.2.2.2.2.1&&(AG (1<=a.2.2.2.2.2.2.2.2.1)&&AG (a.2.2.2.2.2.2.2.2.1<=20))))))))
def kE(a:BH):AH:=a.2.2.2.2.2.2.1==[]&&(a.2.2.2.2.2.2.2.1==[]&&(a.2.2.2.2.2.2.2.2.1==0&&(isKey a.2.1&&(AG (0<=a.2.2.1)&&AG (a.2.2.1<=1099511627776)))))
def dX(a:BH):AH:=a.2.2.2.1==[]&&(a.2.2.2.2.1==0&&a.2.2.2.2.2.1==[])
def tz(a:BH):AH:=AG ((a.2.2.2.1.length:AA)<=300)&&(a.2.2.1==0&&(!a.2.2.2.2.2.2.2.2.2.1&&(AG (0<=a.2.2.2.2.1)&&(AG (a.2.2.2.2.1<=2)&&(bif a.2.2.2.2.1==2 then(Jl a.2.2.2.2.2.1).2 else a.2.2.2.2.2.1==[])))))
def HW(a:BH):AH:=bif dW a.1 then Zl a else kE a&&(bif a.1==1 then dX a else bif a.1==3 then dX a&& !a.2.2.2.2.2.2.2.2.2.1 else bif a.1==2 then tz a else AK)
def C4(n:AA):AH:=AG (-9223372036854775808<=n)&&AG (n<=9223372036854775807)
def GE(n:AA):L8:=Cr n
def AOF(l:AE (L8))(s:L8):L8:=FM l s
def Mo(l:AE (L8))(s:L8):AH:=AG (l.length<=140737488355328)&&AG ((FM l s).length<=140737488355328)
def sa(s:L8):AH:=AG (s.length<=1000)
def Rb(a:BH):AH:=sa a.2.2.2.2.2.2.1&&(sa a.2.2.2.2.2.2.2.1&&C4 a.2.2.2.2.2.2.2.2.1)
def Gh(a:BH):AH:=(sa a.2.1&&(sa a.2.2.2.1&&(sa a.2.2.2.2.2.1&&C4 a.2.2.1)))&&Rb a
def Zm:PSpec:=⟨[.int .i64],[.str],λx=>C4 x.1,λx=>(GE x.1,())⟩
def ABV:PSpec:=⟨[.int .i64,.int .i64],[.str],λx=>C4 x.1&&x.2.1==(10:AA),λx=>(GE x.1,())⟩
def Zn:PSpec:=⟨[.slice .str,.str],[.str],λx=>Mo x.1 x.2.1,λx=>(AOF x.1 x.2.1,())⟩
def dY:PSpec:=⟨[BF],[.str],λx=>Rb x.1,λx=>(Pu x.1,())⟩
def Tj:PSpec:=⟨[BF],[CS,.bool],λx=>Gh x.1,λx=>((HV x.1).1,(HV x.1).2,())⟩
def AOG:PSpec:=⟨[BF],[.bool],λx=>Gh x.1,λx=>((HV x.1).2,())⟩
def Tk:PSpec:=⟨[BF],[.bool],λx=>Gh x.1,λx=>(HW x.1,())⟩
theorem Vu(s:L8)(c:Bo):On (s++[c])=On s*10+(c.toNat-48):=by
 unfold On;rw[List.foldl_append];rfl
theorem Qt(s:L8)(c:Bo):E3 (s++[c])=(E3 s&&Ji c):=by
 unfold E3;rw[List.all_append];simp
theorem gH{k:AB}(h:k<10):(Cj (48+k)).toNat=48+k:=by
 rw[UInt8.toNat_ofNat'];omega
theorem Zo{k:AB}(h:k<10):Ji (Cj (48+k))=true:=by
 rw[H7,gH h];omega
theorem Xq(u:AB):E3 (MG u)=AD/\On (MG u)=u/\MG u≠[]/\(1<=u->(MG u).getD 0 0≠48):=by
 induction u using Nat.strongRecOn with
 |_ u a=>
  by_cases h:u<10
  ·rw[zK h];refine⟨?_,?_,by simp,λf e=> ?_⟩
   ·show(Ji (Cj (48+u))&&AD)=AD;rw[Zo h];rfl
   ·show 0*10+((Cj (48+u)).toNat-48)=u;rw[gH h];omega
   ·have:=BQ UInt8.toNat (show Cj (48+u)=48 from e);rw[gH h]at this;have g:(48:Bo).toNat=48:=AL;omega
  ·obtain⟨b,i2,i3,i4⟩:=a (u/10) (by omega);rw[MG,dif_neg h];refine⟨?_,?_,by simp,λ_=> ?_⟩
   ·rw[Qt,b,Zo (by omega)];rfl
   ·rw[Vu,i2,gH (by omega)];omega
   ·have:=i4 (by omega)
    revert this i3
    generalize MG (u/10)=d;intro i3 this;cases d with
    |nil=>exact absurd rfl i3
    |cons c r=>exact this
theorem IL(u:AB):Cr (u:AA)=MG u:=by
 unfold Cr;rw[AY (by omega)];rfl
theorem kH{u:AB}(h:u<9223372036854775808):Es (Cr (u:AA))=((u:AA),AD):=by
 obtain⟨b,a,c,_⟩:=Xq u;rw[IL,(qA b c).1 (by rw[a];exact h),a]
theorem Vv{u:AB}(a lo b:AA)(h:u<9223372036854775808):Ho (Cr (u:AA)) a lo b=((u:AA),AG (((Cr (u:AA)).length:AA)<=a)&&(AG ((u:AA)>=lo)&&AG ((u:AA)<=b))):=by
 unfold Ho;rw[kH h];have:E3 (Cr (u:AA))=true:=by rw[IL];exact(Xq u).1
 rw[this,Cz,Cz]
theorem kI{u:AB}(h:u<100):(Cr (u:AA)).length<=2:=by
 rw[IL];by_cases a:u<10
 ·rw[zK a];exact Nat.le_succ 1
 ·rw[Lib.decDigits_two a h];exact Ak 2
theorem nA{u:AB}(b:1<=u)(d:u<=1099511627776):UM (KV++Cr (u:AA))=((u:AA),AD):=by
 have c:CK (KV++Cr (u:AA)) KV=(Cr (u:AA),AD):=by
  unfold CK;rw[NN,Ag,RN]
 unfold UM;rw[c];dsimp only;rw[Vv _ _ _ (by omega)];have a:((Cr (u:AA)).getD 0 0==48)=false:=by
  rw[IL];exact CE.2 ((Xq u).2.2.2 b)
 rw[a,BK (Int.le_refl _),BK (show(u:AA)>=1 by omega),BK (show(u:AA)<=1099511627776 by omega)];rfl
theorem AOH{u:AB}(a:1<=u)(b:u<=20):Ho (Cr (u:AA)) 2 1 20=((u:AA),AD):=by
 have:=kI (u:=u) (by omega);rw[Vv _ _ _ (by omega),BK (show((Cr (u:AA)).length:AA)<=2 by omega),BK (show(u:AA)>=1 by omega),BK (show(u:AA)<=20 by omega)];rfl
theorem kJ{x t:L8}(h:FT 38 x=AK):E5 (x++38::t)=x::E5 t:=by
 have a:FT 38 (x++38::t)=true:=by rw[Tg];simp[FT]
 have b:He 38 (x++38::t)=x:=Th h;unfold E5;rw[UJ 38 _ a,b];congr 2;rw[show x++(38:Bo)::t=(x++[38])++t by simp,show x.length+1=(x++[38]).length by simp,RN]
theorem NO:∀(l:AE (L8)),l≠[]->(∀x,x∈l->FT 38 x=AK)->E5 (FM l [38])=l
 |[],h,_=>absurd rfl h
 |[x],_,h=>by
  rw[Lib.join_one];exact QF 38 x (h x (by simp))
 |x::y::r,_,h=>by
  have e:FM (x::y::r) [38]=x++38::FM (y::r) [38]:=by
   rw[zL,zL];simp[Lib.joinTail]
  rw[e,kJ (h x (by simp)),NO (y::r) (by simp) (λz a=>h z (by simp[a]))]
theorem ABW{k:L8}{c:Bo}(a:El c=AK)(h:isKey k=AD):FT c k=false:=by
 unfold isKey at h;rw[A0]at h;unfold FT;rw[zT];intro x b e;have:=C8.1 h.1 x b;rw[Be.1 e,a]at this;cases this
theorem gJ{k:L8}{c:Bo}(a:El c=AK)(h:Nd k=AD):FT c k=false:=by
 unfold Nd at h;rw[ED,Be]at h;rcases h with rfl|h
 ·rfl
 ·exact ABW a h
theorem ABX{s:L8}{c:Bo}(a:Ji c=AK)(h:E3 s=AD):FT c s=false:=by
 unfold FT;rw[zT];intro x b e;have:=C8.1 h x b;rw[Be.1 e,a]at this;cases this
theorem OJ{w p:L8}(a:FT 61 w=AK):IY ((w++[61])++p)=(w,p,AD):=by
 have e:(w++[61])++p=w++(61:Bo)::p:=by simp
 rw[tx];have b:FT 61 ((w++[61])++p)=true:=by rw[e,Tg];simp[FT]
 have c:He 61 ((w++[61])++p)=w:=by rw[e];exact Th a
 rw[b,c,Ag];congr 2;rw[show w.length+1=(w++[61]).length by simp,RN]
theorem R8{p n v:L8}{r seen:AE (L8)}{a b:BH}(c:IY p=(n,v,AD))(d:EZ seen n=AK)(e:LC n v a=(b,AD)):Cc (p::r) seen a=Cc r (seen++[n]) b:=by
 simp only[Cc,c,d,e,Ag,BZ]
theorem nC(v:L8)(a:BH):LC KW v a=(UK a v,Nd v):=by
 unfold LC;rw[show(KW==KW)=AD from GD _];rfl
theorem nD(v:L8)(a:BH):LC KX v a=(UL a v,Nd v):=by
 unfold LC;rw[d21,show(KX==KX)=AD from GD _];rfl
theorem nE(v:L8)(a:BH):LC LB v a=(JJ a (Ho v 2 1 20).1,(Ho v 2 1 20).2):=by
 unfold LC;rw[d31,d32,show(LB==LB)=AD from GD _];rfl
theorem nF(v:L8)(a:BH):LC KY v a=(GV a 5,v==[49]):=by
 unfold LC;rw[d41,d42,d43,show(KY==KY)=AD from GD _];rfl
def sIf(b:AH)(w:L8):AE (L8):=bif b then []else [w]
theorem JW(l r:AE (L8))(x:L8):EZ (l++r) x=(EZ l x||EZ r x):=by unfold EZ;rw[zS]
theorem MX(b:AH){w x:L8}(h:(x==w)=AK):EZ (sIf b w) x=false:=by
 cases b
 ·show((x==w)||false)=AK;rw[h];rfl
 ·rfl
theorem ABZ{p:L8}(c:Nd p=AD)(r seen:AE (L8))(a:BH)(b:a.2.2.2.2.2.2.1=[])(d:EZ seen KW=AK):
  Cc (AOD p++r) seen a=Cc r (seen++sIf (p==[]) KW) (UK a p):=by
 unfold AOD sIf;cases h:p==[]
 ·exact R8 (OJ (w:=KW) (p:=p) (by decide)) d (by rw[nC,c])
 ·rw[Ag,Ag,Be.1 h,Ce];obtain⟨a0,e,a2,a3,a4,a5,f,g,i,a9,⟨⟩⟩:=a;dsimp only at b;subst b;rfl
theorem ABa{p:L8}(c:Nd p=AD)(r seen:AE (L8))(a:BH)(b:a.2.2.2.2.2.2.2.1=[])(d:EZ seen KX=AK):
  Cc (dV p++r) seen a=Cc r (seen++sIf (p==[]) KX) (UL a p):=by
 unfold dV sIf;cases h:p==[]
 ·exact R8 (OJ (w:=KX) (p:=p) (by decide)) d (by rw[nD,c])
 ·rw[Ag,Ag,Be.1 h,Ce];obtain⟨a0,e,a2,a3,a4,a5,f,g,i,a9,⟨⟩⟩:=a;dsimp only at b;subst b;rfl
theorem ABb{m:AA}(d:1<=m)(e:m<=20)(r seen:AE (L8))(a:BH)(b:a.2.2.2.2.2.2.2.2.1=20)(c:EZ seen LB=AK):
  Cc (Xp m++r) seen a=Cc r (seen++sIf (m==20) LB) (JJ a m):=by
 unfold Xp sIf;cases h:m==20
 ·obtain⟨u,rfl⟩:∃u:AB,m=(u:AA):=⟨m.toNat,by omega⟩
  exact R8 (OJ (w:=LB) (p:=Cr (u:AA)) (by decide)) c (by rw[nE,AOH (by omega) (by omega)])
 ·rw[Ag,Ag,Be.1 h,Ce];obtain⟨a0,f,a2,a3,a4,a5,g,i,j,a9,⟨⟩⟩:=a;dsimp only at b;subst b;rfl
theorem uA{k:AA}(b:dW k=AD)(seen:AE (L8))(a:BH)(c:a.1=4)(d:EZ seen KY=AK):
  Cc (Ir k) seen a=(GV a k,AD):=by
 unfold Ir;cases h:k==5
 ·have:k=4:=by
   unfold dW at b;rw[h,Bool.or_false]at b;exact Be.1 b
  subst this;obtain⟨a0,e,a2,a3,a4,a5,f,g,i,a9,⟨⟩⟩:=a;dsimp only at c;subst c;rfl
 ·rw[Ag,Be.1 h,show([Zj]:AE (L8))=[KY++[61]++[49]]from AL];rw[R8 (r:=[]) (seen:=seen) (OJ (w:=KY) (p:=[49]) (by decide)) d (show LC KY [49] a=(GV a 5,AD) by rw[nF];rfl)];rfl
theorem KE{b:AH}{x y:L8}(h:x∈(bif b then []else [y])):x=y:=by
 cases b
 ·exact Cn.1 h
 ·cases h
theorem dZ{c:Bo}{w p:L8}(a:FT c w=AK)(b:FT c p=AK):FT c (w++p)=false:=by rw[Tg,a,b];rfl
theorem Xr{p f:L8}{m k:AA}(b:AH)(l:Nd p=AD)(n:Nd f=AD)(o:1<=m)(q:m<=20)(r:dW k=AD):
  DF (RZ b) (FM (Ds p f m k) [38])=((k,[],0,[],0,[],p,f,m,b,()),AD):=by
 have a:Cc (Ds p f m k) [] (JJ (GV (RZ b) 4) 20)=((k,[],0,[],0,[],p,f,m,b,()),AD):=by
  unfold Ds;rw[ABZ l _ _ _ rfl rfl,ABa n _ _ _ rfl,ABb o q _ _ _ rfl,uA r _ _ rfl]
  ·rfl
  ·rw[JW,JW,JW,MX _ d41,MX _ d42,MX _ d43];rfl
  ·rw[JW,JW,MX _ d31,MX _ d32];rfl
  ·rw[JW,MX _ d21];rfl
 have c:∀x,x∈Ds p f m k->FT 38 x=false:=by
  intro x hx;unfold Ds at hx;rw[CH,CH,CH]at hx;rcases hx with hx|hx|hx|hx
  ·rw[KE hx];exact dZ (by decide) (gJ (by decide) l)
  ·rw[KE hx];exact dZ (by decide) (gJ (by decide) n)
  ·rw[KE hx];obtain⟨u,rfl⟩:∃u:AB,m=(u:AA):=⟨m.toNat,by omega⟩
   rw[IL];exact dZ (by decide) (ABX (by decide) (Xq u).1)
  ·unfold Ir at hx;cases h:k==5
   ·rw[h]at hx;cases hx
   ·rw[h]at hx;rw[Cn.1 hx];decide
 by_cases d:Ds p f m k=[]
 ·rw[d]at a⊢;rw[<-a];rfl
 ·have s:(FM (Ds p f m k) [38]==[])=false:=by
   rw[CE];intro e;have g:=NO _ d c;rw[e]at g;have i:E5 []=[[]]:=QF 38 [] rfl;rw[i]at g;have j:([]:L8)∈Ds p f m k:=by rw[<-g];simp
   unfold Ds at j;rw[CH,CH,CH]at j;rcases j with hx|hx|hx|hx
   ·cases(KE hx)
   ·cases(KE hx)
   ·cases(KE hx)
   ·unfold Ir at hx;cases h:k==5
    ·rw[h]at hx;cases hx
    ·rw[h]at hx;cases(Cn.1 hx)
  unfold DF;rw[s,BZ,NO _ d c];exact a
theorem da(w r:L8):KU (r++w) w=true:=by
 unfold KU;rw[A0,A6,BA,bq,RN];exact⟨by omega,GD w⟩
theorem nG(t:L8):aj ([34]++t++[34])=(t,(F9 t).2):=by
 have a:CK ([34]++t++[34]) [34]=(t++[34],AD):=by
  unfold CK;rw[List.append_assoc,NN,Ag,RN]
 have b:HJ (t++[34]) [34]=(t,AD):=by
  unfold HJ;rw[da,Ag,BA,bq,zU]
 unfold aj;rw[a];dsimp only;rw[b];rfl
theorem AKr:(Ek JK==Ek JK)=true:=by decide
theorem AFm:(Ek JK==Ek JL)=false:=by decide
theorem AKs:(Ek JL==Ek JK)=false:=by decide
theorem AFn:(Ek JL==Ek JL)=true:=by decide
theorem AKt:(Ek clW==Ek JK)=false:=by decide
theorem AKu:(Ek clW==Ek JL)=false:=by decide
theorem nH(b:L8):Ba (R0 b) JK=([],AK):=by
 unfold R0;cases b==[]<;>simp[Ba,AKt]
theorem Xs(b:L8):Ba (R0 b) JL=([],AK):=by
 unfold R0;cases b==[]<;>simp[Ba,AKu]
theorem kK{c:AA}{t:L8}(b:L8)(i:0<=c)(j:c<=2)(d:(bif c==2 then(Jl t).2 else t==[])=AD):C7 (Zk c t++R0 b)=(c,t,AD):=by
 unfold Zk C7;by_cases e:c=1
 ·subst e;have:t=[]:=Be.1 d;subst this;simp[Ba,AFm,Xs]
 by_cases f:c=2
 ·subst f;have d:(Jl t).2=true:=d;have g:(F9 t).2=true:=by rw[Xo];exact d
  have a:=nG t;rw[g]at a;simp only[show((2:AA)==1)=AK from AL,show((2:AA)==2)=AD from AL,Ag,BZ,Gk,List.nil_append,Ba,AKs,AFn,nH]at a⊢;rw[a]
 have h:c=0:=by omega
 subst h;have:t=[]:=Be.1 d;subst this;simp[nH,Xs]
theorem nI(b:AH):((bif b then Bh else EB)==EB||(bif b then Bh else EB)==Bh)=true:=by cases b<;>decide
theorem xJ(b:AH):((bif b then Bh else EB)==Bh)=b:=by cases b<;>decide
theorem AFo(b:AH):((bif b then Bh else EB)==DP)=false:=by cases b<;>decide
theorem AFp(b:AH):((bif b then Bh else EB)==DG)=false:=by cases b<;>decide
theorem ABc{k:L8}(h:isKey k=AD):(KZ++k==oW||KZ++k==KZ)=AK/\Bt (KZ++k) KZ=AD/\(KZ++k).drop 3=k:=by
 have b:1<=k.length:=by
  unfold isKey at h;rw[A0,A0,A6]at h;exact h.2.1
 refine⟨?_,NN _ _,rfl⟩;rw[zJ,CE,CE];constructor
 ·intro e;have:=BQ bQ e;rw[BA]at this;have a:KZ.length=3:=AL;have c:oW.length=2:=AL;omega
 ·intro e;have:=BQ bQ e;rw[BA]at this;have a:KZ.length=3:=AL;omega
theorem uB{a:BH}(h:HW a=AD):Jy (Ra a)=(a,0)/\(a.2.2.2.1.length:AA)<=300:=by
 obtain⟨i,k,v,b,c,t,p,f,m,d,⟨⟩⟩:=a;unfold HW at h;dsimp only at h;cases j:dW i
 ·rw[j,BZ]at h;unfold kE at h;simp only[A0,Be,A6]at h;obtain⟨⟨rfl,rfl,rfl,r,J,K⟩,h⟩:=h;obtain⟨w,x,y⟩:=ABc r;have l:∀kk:AA,kk=(i:AA)->∀(s:AH),(bif (Ti (i,k,v,b,c,t,[],[],0,d,()))==[]then(Q7 (JV k s) kk 0,AD)else(Q7 (JV k s) kk (UM (Ti (i,k,v,b,c,t,[],[],0,d,()))).1,(UM (Ti (i,k,v,b,c,t,[],[],0,d,()))).2))=(Q7 (JV k s) kk v,AD):=by
   intro kk _ s;have e:Ti (i,k,v,b,c,t,[],[],0,d,())=bif v==0 then []else KV++Cr v:=by
    unfold Ti;dsimp only;rw[j];rfl
   rw[e];cases n:v==0
   ·have n:v≠0:=CE.1 n;obtain⟨u,rfl⟩:∃u:AB,v=(u:AA):=⟨v.toNat,by omega⟩
    rw[BZ,nA (by omega) (by omega)];have:(KV++Cr (u:AA)==[])=false:=CE.2 (by intro e;cases e);rw[this];rfl
   ·have n:v=0:=Be.1 n;subst n;rfl
  by_cases G:i=1
  ·subst G;rw[show((1:AA)==1)=AD from AL,Ag]at h;unfold dX at h;simp only[A0,Be]at h;obtain⟨rfl,rfl,rfl⟩:=h;refine⟨?_,by simp⟩;have:=l 1 rfl d;unfold Ra Jy KD EA;dsimp only[Qs];rw[j,BZ,w,BZ,x,Ag,y];have em:Vt 1 d=bif d then Bh else EB:=AL
   rw[em,nI,Bool.true_or,Ag,xJ,AFo];have o:(JV k d).2.1=k:=AL;rw[o,r,Ag,BZ,AFp,BZ];have ev:(JV k d).2.2.1=0:=AL;rw[ev,this];rfl
  rw[CE.2 G,BZ]at h;by_cases H:i=3
  ·subst H;rw[show((3:AA)==3)=AD from AL,Ag,A0]at h;obtain⟨h,g⟩:=h;have g:d=false:=by cases d;rfl;cases g
   subst g;unfold dX at h;simp only[A0,Be]at h;obtain⟨rfl,rfl,rfl⟩:=h;refine⟨?_,by simp⟩;have:=l 3 rfl AK;unfold Ra Jy KD EA;dsimp only[Qs];rw[j,BZ,w,BZ,x,Ag,y];have em:Vt 3 AK=DG:=AL;rw[em];have q:(DG==EB||DG==Bh||(DG==DP||DG==DG))=true:=by decide
   have z:(DG==Bh)=false:=by decide
   have A:(DG==DP)=false:=by decide
   have L:(DG==DG)=true:=by decide
   rw[q,Ag,z,A];have o:(JV k AK).2.1=k:=AL;rw[o,r,Ag,BZ,L,Ag];have ev:(JV k AK).2.2.1=0:=AL;rw[ev,this];rfl
  rw[CE.2 H,BZ]at h;by_cases I:i=2
  ·subst I;rw[show((2:AA)==2)=AD from AL,Ag]at h;unfold tz at h;simp only[A0,Be,A6]at h;obtain⟨M,rfl,g,B,C,N⟩:=h;have g:d=false:=by cases d;rfl;cases g
   subst g;refine⟨?_,M⟩;have D:=kK b B C N;unfold Ra Jy KD EA;dsimp only[Qs];rw[j,BZ,w,BZ,x,Ag,y];have em:Vt 2 AK=DP:=AL;rw[em];have q:(DP==EB||DP==Bh||(DP==DP||DP==DG))=true:=by decide
   have z:(DP==Bh)=false:=by decide
   have A:(DP==DP)=true:=by decide
   rw[q,Ag,z,A];have o:(JV k AK).2.1=k:=AL;rw[o,r,Ag,Ag,D];have eq:Ti (2,k,0,b,c,t,[],[],0,AK,())=[]:=AL;rw[eq];rfl
  rw[CE.2 I,BZ]at h;cases h
 ·rw[j,Ag]at h;unfold Zl at h;simp only[A0,Be,A6]at h;obtain⟨rfl,rfl,rfl,rfl,rfl,O,P,E,F⟩:=h;refine⟨?_,by simp⟩;have Q:=Xr d O P E F j;have eq:Ti (i,[],0,[],0,[],p,f,m,d,())=FM (Ds p f m i) [38]:=by
   unfold Ti;dsimp only;rw[j];rfl
  have em:Vt i d=bif d then Bh else EB:=by
   unfold dW at j;rw[ED,Be,Be]at j;rcases j with rfl|rfl<;>rfl
  unfold Ra Jy KC;dsimp only[Qs];rw[j,Ag,em,eq];have q:(oW==oW||oW==KZ)=true:=by decide
  rw[q,Ag,nI,Ag,xJ,Q];rfl
theorem gK:∀(k u:AB),u<10^(k+1)->Lib.nDigits u<=k+1
 |0,u,h=>by rw[zM (by simpa using h)];exact Ak _
 |k+1,u,h=>by
  by_cases a:u<10
  ·rw[zM a];omega
  ·rw[Lib.nDigits_big a];have:=gK k (u/10) (by rw[Nat.pow_succ]at h;omega);omega
theorem nJ{k u:AB}(h:u<10^(k+1)):(Cr (u:AA)).length<=k+1:=by
 rw[IL,Lib.decDigits_length];exact gK k u h
theorem db{p f:L8}{m k:AA}{x:L8}(hx:x∈Ds p f m k):x=ADs++p\/x=ADt++f\/(x=ADu++Cr m)\/x=Zj:=by
 unfold Ds at hx;rw[CH,CH,CH]at hx;rcases hx with hx|hx|hx|hx
 ·exact .inl (KE hx)
 ·exact .inr (.inl (KE hx))
 ·exact .inr (.inr (.inl (KE hx)))
 ·unfold Ir at hx;cases h:k==5
  ·rw[h]at hx;cases hx
  ·rw[h]at hx;exact .inr (.inr (.inr (Cn.1 hx)))
def kL(a:BH):Prop:=dW a.1=AD/\Zl a=AD
theorem AOI{n v:L8}{a:BH}(h:kL a)(ok:(LC n v a).2=AD):kL (LC n v a).1:=by
 obtain⟨x,k,w,b,c,t,p,f,m,y,⟨⟩⟩:=a;obtain⟨g,i⟩:=h;unfold Zl at i;simp only[A0,Be,A6]at g i;obtain⟨rfl,rfl,rfl,rfl,rfl,j,l,d,e⟩:=i;unfold LC at ok⊢;cases o:n==KW
 ·rw[o,BZ]at ok;rw[BZ];cases q:n==KX
  ·rw[q,BZ]at ok;rw[BZ];cases r:n==LB
   ·rw[r,BZ]at ok;rw[BZ];cases u:n==KY
    ·rw[u,BZ]at ok;cases ok
    ·rw[Ag];refine⟨rfl,?_⟩;unfold Zl GV;simp[j,l,d,e]
   ·rw[r,Ag]at ok;rw[Ag];refine⟨g,?_⟩;have s:1<=(Ho v 2 1 20).1/\(Ho v 2 1 20).1<=20:=by
     unfold Ho at ok⊢;simp only[A0,A6]at ok;exact⟨ok.2.2.2.1,ok.2.2.2.2⟩
    unfold Zl JJ;simp[j,l,s.1,s.2]
  ·rw[q,Ag]at ok;rw[Ag];refine⟨g,?_⟩;unfold Zl UL;have ok:Nd v=true:=ok;simp[j,ok,d,e]
 ·rw[o,Ag]at ok;rw[Ag];refine⟨g,?_⟩;unfold Zl UK;have ok:Nd v=true:=ok;simp[ok,l,d,e]
theorem nL:∀(l seen:AE (L8)) (a:BH),kL a->(Cc l seen a).2=AD->kL (Cc l seen a).1
 |[],_,a,h,_=>h
 |p::r,seen,a,h,ok=>by
  simp only[Cc]at ok⊢;cases c:(IY p).2.2
  ·rw[c]at ok;cases ok
  ·rw[c,Ag]at ok;rw[Ag];cases d:EZ seen (IY p).1
   ·rw[d,BZ]at ok;rw[BZ];cases b:(LC (IY p).1 (IY p).2.1 a).2
    ·rw[b]at ok;cases ok
    ·rw[b,Ag]at ok;rw[Ag];exact nL r _ _ (AOI h b) ok
   ·rw[d]at ok;cases ok
theorem dc(b:AH)(q:L8)(ok:(DF (RZ b) q).2=AD):kL (DF (RZ b) q).1:=by
 have a:kL (JJ (GV (RZ b) 4) 20):=⟨rfl,rfl⟩
 unfold DF at ok⊢;cases e:q==[]
 ·rw[e,BZ]at ok;rw[BZ];exact nL _ _ _ a ok
 ·rw[Ag];exact a
theorem dd(a:Em)(h:(C7 a).2.2=AD):0<=(C7 a).1/\(C7 a).1<=2/\(bif (C7 a).1==2 then(Jl (C7 a).2.1).2 else(C7 a).2.1==[])=true:=by
 unfold C7 at h⊢;cases c:(Ba a JK).2
 ·rw[c,BZ]at h;rw[BZ];cases b:(Ba a JL).2
  ·exact⟨show(0:AA)<=0 by decide,show(0:AA)<=2 by decide,rfl⟩
  ·rw[b,Ag]at h;rw[Ag];refine⟨show(0:AA)<=2 by decide,show(2:AA)<=2 by decide,?_⟩;show(Jl (aj (Ba a JL).1).1).2=AD;rw[<-Xo];have h:(aj (Ba a JL).1).2=true:=h;unfold aj at h⊢;simp only[A0]at h;exact h.2.2
 ·rw[c,Ag]at h;rw[Ag];cases b:(Ba a JL).2
  ·exact⟨show(0:AA)<=1 by decide,show(1:AA)<=2 by decide,rfl⟩
  ·rw[b]at h;cases h
theorem nM(q:L8)(h:(UM q).2=AD):0<=(UM q).1/\(UM q).1<=1099511627776:=by
 unfold UM Ho at h⊢;simp only[A0,A6]at h⊢;obtain⟨⟨_,_,_,b,a⟩,_⟩:=h;exact⟨by omega,a⟩
theorem uC{r:Nf}(h:(Jy r).2=0)(a:((Jy r).1.2.2.2.1.length:AA)<=300):HW (Jy r).1=true:=by
 obtain⟨m,p,q,f,b,⟨⟩⟩:=r;unfold Jy at h a⊢;dsimp only at h a⊢;cases n:p==oW||p==KZ
 ·rw[n,BZ]at h a;rw[BZ];cases g:Bt p KZ
  ·rw[g]at h;cases h
  ·rw[g,Ag]at h a;rw[Ag];cases e:(m==EB||m==Bh)||(m==DP||m==DG)
   ·rw[e]at h;cases h
   ·rw[e,Ag]at h a;rw[Ag];unfold KD at h a⊢;cases j:(EA (JV (p.drop 3) (m==Bh)) m q f b).2&&(m==DP||b==[])
    ·rw[j]at h;cases h
    ·rw[j,Ag]at a;rw[Ag];dsimp only at a⊢;rw[A0]at j;obtain⟨ok,ob⟩:=j;unfold EA at ok a⊢;have u:∀w,(JV (p.drop 3) w).2.1=p.drop 3:=λ_=>rfl
     rw[u]at ok a⊢;cases i:isKey (p.drop 3)
     ·rw[i]at ok;cases ok
     ·rw[i,Ag]at ok a;rw[Ag];cases k:m==DP
      ·rw[k,BZ]at ok a;rw[k,Bool.false_or]at ob;rw[BZ];have d:(bif m==DG then(3:AA)else 1)=1\/((bif m==DG then(3:AA)else 1)=3/\(m==Bh)=AK):=by
        cases hd:m==DG
        ·exact .inl rfl
        ·rw[Be.1 hd];exact .inr ⟨rfl,by decide⟩
       have fin:∀v:AA,0<=v->v<=1099511627776->HW (Q7 (JV (p.drop 3) (m==Bh)) (bif m==DG then 3 else 1) v)=true:=by
        intro v o s;generalize (bif m==DG then(3:AA)else 1)=kk at d;generalize (m==Bh)=C at d⊢;rcases d with rfl|⟨rfl,rfl⟩
        ·unfold HW kE dX Q7 JV;simp[dW,i,o,s]
        ·unfold HW kE dX Q7 JV;simp[dW,i,o,s]
       cases x:q==[]
       ·rw[x,BZ]at ok;rw[BZ];obtain⟨v0,y⟩:=nM q ok;exact fin _ v0 y
       ·rw[Ag];exact fin _ (by show(0:AA)<=0;omega) (by show(0:AA)<=_;decide)
      ·rw[k,Ag]at ok a;rw[Ag];have z:=Be.1 k;subst z;rw[show(DP==Bh)=AK from by decide]at a⊢;have a:(b.length:AA)<=300:=a;have ok:((C7 f).2.2&&q==[])=true:=ok;rw[A0]at ok;obtain⟨c0,c2,l⟩:=dd f ok.1;unfold HW kE tz qC JV;simp only[]
       generalize (C7 f).1=c at c0 c2 l⊢;generalize (C7 f).2.1=t at l⊢;rw[l,i,BK a,BK c0,BK c2];rfl
 ·rw[n,Ag]at h a;rw[Ag];cases g:m==EB||m==Bh
  ·rw[g]at h;cases h
  ·rw[g,Ag]at h a;rw[Ag];unfold KC at h a⊢;cases e:(DF (RZ (m==Bh)) q).2&&b==[]
   ·rw[e]at h;cases h
   ·rw[Ag];rw[A0]at e;obtain⟨A,B⟩:=dc (m==Bh) q e.1;unfold HW;dsimp only;rw[A,Ag,B]
theorem de(a:BH):HV a=bif HW a then(Ra a,AD)else(ABU,AK):=by
 unfold HV AOE;cases h:HW a
 ·rw[BZ];cases c:(Jy (Ra a)).2==0&&(xI (Jy (Ra a)).1 a&&AG ((a.2.2.2.1.length:AA)<=300))
  ·rfl
  ·rw[A0,A0,Be,gG,A6]at c;obtain⟨z,e,b⟩:=c;have:=uC (r:=Ra a) z (by rw[e];exact b);rw[e,h]at this;cases this
 ·obtain⟨e,b⟩:=uB h;rw[e,BK b];rw[show xI a a=AD from gG.2 rfl];rfl
abbrev fN(n:AA):AB:=BV.nearest n
theorem xK:Fx.signWeight=2^63:=AL
theorem AFq:Fx.binade=2^52:=AL
theorem AFs:Fx.infRung=2047*2^52:=by decide
theorem nN:Fx.leastPlace= -1074:=by decide
theorem kM(x:AB):Fx.word AD x=2^63+x:=by
 unfold AJP;rw[Ae rfl,xK]
theorem ABd(n d:AB):bn.cut AD n d=bn.cut AK n d:=AL
theorem ANe(f:Ieee.Format)(m:AB)(p:AA):f.nearest AD m p=f.word AD (f.nearest AK m p):=by
 unfold Uo;by_cases h:m=0
 ·rw[Ae h,Ae h,NZ]
 ·rw[AY h,AY h];simp only[NZ];rw[ABd]
theorem Zp(m:AB)(p:AA):Fx.nearest AD m p=2^63+Fx.nearest AK m p:=by
 rw[ANe,kM]
theorem AOJ{r m:AB}{i:AA}(h:r<2^63)(hd:Fx.read r=.number AK m i):Fx.read (2^63+r)=.number AD m i:=by
 unfold ia at hd⊢
 simp only[xK,AFq,AFs,nN]at hd⊢
 have q1:(2^63+r)/2^63%2=1:=by omega
 have c:(2^63+r)%2^63=r:=by omega
 have d:r/2^63%2=0:=by omega
 have e:r%2^63=r:=by omega
 rw[d,e]at hd
 rw[q1,c]
 by_cases c1:r<2^52
 ·rw[Ae c1]at hd⊢
  injection hd with _ a b
  rw[a,b];rfl
 ·rw[AY c1]at hd⊢
  by_cases c2:r<2047*2^52
  ·rw[Ae c2]at hd⊢
   injection hd with _ a b
   rw[a,b];rfl
  ·rw[AY c2]at hd
   by_cases c3:r=2047*2^52
   ·rw[Ae c3]at hd;cases hd
   ·rw[AY c3]at hd;cases hd
structure Rep(n:AA)(x:AB)(k:AB):Prop where
 d:BV.decode x=.number (AG (n<0)) (n.natAbs*2^k) (-(k:AA))
theorem ABe{n:AB}(c:1<=n):fN (-(n:AA))=2^63+fN (n:AA):=by
 have a:AG ((-(n:AA))<0)=true:=by rw[A6];omega
 have b:AG (((n:AA))<0)=false:=by rw[decide_eq_false_iff_not];omega
 show Fx.nearest (AG ((-(n:AA))<0)) (-(n:AA)).natAbs 0=2^63+Fx.nearest (AG (((n:AA))<0)) (n:AA).natAbs 0;rw[a,b,Zp,ie]
theorem kN{n:AB}(b:1<=n)(c:n<2^53):fN (n:AA)<2^63:=by
 have d:=Ly b c;have a:=(Uq (by omega:n≠0)).1 (bt n.log2);show BV.nearest (n:AA)<_;rw[Q6 b c];have e:n*2^(52-n.log2)<2^53:=by
  calc n*2^(52-n.log2)<2^(n.log2+1)*2^(52-n.log2):=Ur a (I8 _)
   _=2^53:=by rw[<-Kw];congr 1;omega
 omega
theorem rep{n:AA}(h:n.natAbs<2^53):∃k,Rep n (fN n) k:=by
 rcases bp n 0 with b|b|b
 ·obtain⟨m,rfl⟩:∃m:AB,n= -(m:AA):=⟨n.natAbs,by omega⟩
  rw[ie,Up]at h;have a:1<=m:=by omega
  have c:=Ly a h;refine⟨52-m.log2,⟨?_⟩⟩;rw[ABe a,ie,Up,BK (show(-(m:AA))<0 by omega)];refine AOJ (kN a h) ?_;refine FL (GU a h) ?_;congr 1;omega
 ·subst b;have e:BV.decode (fN 0)=.number AK 0 (-1074):=by decide
  obtain⟨K,d⟩:∃K:AB,K=1074:=⟨_,rfl⟩
  refine⟨K,⟨?_⟩⟩;rw[e,Int.natAbs_zero,I6,BP (show ¬((0:AA)<0) by omega),d];rfl
 ·obtain⟨m,rfl⟩:∃m:AB,n=(m:AA):=⟨n.natAbs,by omega⟩
  rw[Up]at h;have a:1<=m:=by omega
  have c:=Ly a h;refine⟨52-m.log2,⟨?_⟩⟩;rw[Up,BP (show ¬((m:AA))<0 by omega)];refine FL (GU a h) ?_;congr 1;omega
theorem Zq{m s:AB}(h:1<=m):(m*2^s).log2=m.log2+s:=by
 have a:=Nat.log2_self_le (by omega:m≠0);have b:=(Uq (by omega:m≠0)).1 (bt m.log2);have c:0<m*2^s:=bu h (I8 s);apply Nat.le_antisymm
 ·have:(m*2^s).log2<m.log2+s+1:=(Uq (by omega)).2 (by
   calc m*2^s<2^(m.log2+1)*2^s:=Ur b (I8 _)
    _=2^(m.log2+s+1):=by rw[<-Kw];congr 1;omega)
  omega
 ·exact(Nat.le_log2 (by omega)).2 (by
   calc 2^(m.log2+s)=2^m.log2*2^s:=Kw ..
    _<=m*2^s:=Nat.mul_le_mul_right _ a)
theorem Tl{n d:AB}(q:AB)(h:n=q*2^d)(hd:d<=n.log2+2)(neg:AH):bn.cut neg n d=q:=by
 unfold bl;have e:(1<<<min d (n.log2+2):AB)=2^d:=by rw[MH hd,MI,ANa]
 have a:=I8 d;have b:n/2^d=q:=by rw[h];exact zV _ a
 have c:n%2^d=0:=by rw[h];exact Nat.mul_mod_left ..
 simp only[e,b,c,Nat.mul_zero];have c1:AG (2^d<0)=false:=AL;have c2:((2^d:AB)==0)=false:=CE.2 (by omega);rw[c1,c2];rfl
theorem dh{m s:AB}(f:m<2^53)(neg:AH):Fx.nearest neg (m*2^s) (-(s:AA))=Fx.nearest neg m 0:=by
 rcases br m with rfl|c
 ·rw[I6];unfold Uo;rw[Ae rfl,Ae rfl]
 have k:=Ly c f;have g:m*2^s≠0:=Nat.ne_of_gt (bu c (I8 s));have d:=Zq (s:=s) c;unfold Uo;rw[AY g,AY (by omega),d];have e:(Fx.fractionBits:AA)=52:=AL;have h:max (-(s:AA)+((m.log2+s:AB):AA)-(Fx.fractionBits:AA)) Fx.leastPlace=(m.log2:AA)-52:=by rw[nN,e];omega
 have a2:max ((0:AA)+(m.log2:AA)-(Fx.fractionBits:AA)) Fx.leastPlace=(m.log2:AA)-52:=by rw[nN,e];omega
 simp only[h,a2];have i:bn.cut neg (m<<<((0:AA)-((m.log2:AA)-52)).toNat) (((m.log2:AA)-52)-0).toNat=m*2^(52-m.log2):=by
  have a:((0:AA)-((m.log2:AA)-52)).toNat=52-m.log2:=by omega
  have b:(((m.log2:AA)-52)-0).toNat=0:=by omega
  rw[a,b,MI];exact Tl _ (by rw[ANv,Gd]) (by omega) neg
 have j:bn.cut neg ((m*2^s)<<<(-(s:AA)-((m.log2:AA)-52)).toNat) (((m.log2:AA)-52)- -(s:AA)).toNat=m*2^(52-m.log2):=by
  by_cases l:s<=52-m.log2
  ·have a:(-(s:AA)-((m.log2:AA)-52)).toNat=52-m.log2-s:=by omega
   have b:(((m.log2:AA)-52)- -(s:AA)).toNat=0:=by omega
   rw[a,b,MI];refine Tl _ ?_ (by omega) neg;rw[ANv,Gd,r9,<-Kw];congr 2;omega
  ·have a:(-(s:AA)-((m.log2:AA)-52)).toNat=0:=by omega
   have b:(((m.log2:AA)-52)- -(s:AA)).toNat=s-(52-m.log2):=by omega
   rw[a,b,MI,ANv,Gd];refine Tl _ ?_ (by rw[d];omega) neg;rw[r9,<-Kw];congr 2;omega
 rw[j,i]
theorem Is{n:AA}{s:AB}(h:n.natAbs<2^53):BV.format.write (.number (AG (n<0)) (n.natAbs*2^s) (-(s:AA)))=fN n:=dh h _
theorem F5{n:AA}{k u:AB}:RO (AG (n<0)) (n.natAbs*2^k) u=n*2^(k+u):=by
 unfold RO;have e:((n.natAbs*2^k)<<<u:AB)=n.natAbs*2^(k+u):=by rw[MI,r9,<-Kw]
 have a:((n.natAbs*2^(k+u):AB):AA)=(n.natAbs:AA)*2^(k+u):=by rw[Int.natCast_mul,Int.natCast_pow];rfl
 rw[e,a];generalize (2:AA)^(k+u)=p;by_cases h:n<0
 ·rw[Ae (BK h),<-Int.neg_mul,show -(n.natAbs:AA)=n by omega]
 ·rw[AY (by rw[BP h];decide),show(n.natAbs:AA)=n by omega]
theorem uD{a b:AA}{x y k l:AB}(j:Rep a x k)(m:Rep b y l)(h:(a+b).natAbs<2^53)(n:¬(a<0/\b<0/\a+b=0)):(((BV.format.read x).sum (BV.format.read y)).map BV.format.write)=AC (fN (a+b)):=by
 have o:BV.format.read x=_:=j.d;have p:BV.format.read y=_:=m.d;rw[o,p];unfold r6;simp only[Ib];have c:min (-(k:AA)) (-(l:AA))= -((max k l:AB):AA):=by omega
 have q:(-(k:AA)- -((max k l:AB):AA)).toNat=max k l-k:=by omega
 have r:(-(l:AA)- -((max k l:AB):AA)).toNat=max k l-l:=by omega
 rw[c,q,r,F5,F5,show k+(max k l-k)=max k l by omega,show l+(max k l-l)=max k l by omega,<-zN];have g:(0:AA)<2^max k l:=ig (by decide);have s:((a+b)*2^max k l).natAbs=(a+b).natAbs*2^max k l:=by
  rw[ic,r8];rfl
 have t:(if(a+b)*2^max k l=0 then(AG (a<0)&&AG (b<0))else AG ((a+b)*2^max k l<0))=AG (a+b<0):=by
  by_cases e:a+b=0
  ·rw[e,zR,Ae rfl];by_cases i:a<0
   ·by_cases c:b<0
    ·exact absurd ⟨i,c,e⟩ n
    ·rw[BP c,Bool.and_false];rfl
   ·rw[BP i];rfl
  ·have f:(a+b)*2^max k l≠0:=zP e (by omega);rw[AY f,bw];constructor
   ·intro h;by_cases u:a+b<0
    ·exact u
    ·have:=ib (show 0<=a+b by omega) (r7 g);omega
   ·intro h;exact zQ h g
 rw[s,t,Is h]
theorem AKv{a b:AA}(e:0<=a)(f:0<=b)(h:a+b<9007199254740992):w5 .add (fN a) (fN b)=AC (fN (a+b)):=by
 obtain⟨k,c⟩:=rep (n:=a) (by omega);obtain⟨l,d⟩:=rep (n:=b) (by omega);exact uD c d (by omega) (by omega)
theorem AKw{a b:AA}(s:0<=a)(f:0<=b)(y:a<9007199254740992)(z:b<9007199254740992):w5 .sub (fN a) (fN b)=AC (fN (a-b)):=by
 obtain⟨k,q⟩:=rep (n:=a) (by omega);obtain⟨l,t⟩:=rep (n:=b) (by omega);rcases Int.lt_or_eq_of_le f with f|f
 ·obtain⟨A,B⟩:=rep (n:= -b) (by omega);have e:(BV.format.read (fN b)).opposite=.number (AG (-b<0)) ((-b).natAbs*2^l) (-(l:AA)):=by
   have d:BV.format.read (fN b)=_:=t.d;rw[d,BP (show ¬b<0 by omega),BK (show -b<0 by omega),ie];rfl
  have i:BV.format.read (fN a)=_:=q.d;show((BV.format.read (fN a)).sum (BV.format.read (fN b)).opposite).map BV.format.write=_;rw[e,i];unfold r6;simp only[Ib];have c:min (-(k:AA)) (-(l:AA))= -((max k l:AB):AA):=by omega
  have j:(-(k:AA)- -((max k l:AB):AA)).toNat=max k l-k:=by omega
  have v:(-(l:AA)- -((max k l:AB):AA)).toNat=max k l-l:=by omega
  rw[c,j,v,F5,F5,show k+(max k l-k)=max k l by omega,show l+(max k l-l)=max k l by omega,<-zN,<-Int.sub_eq_add_neg];have g:(0:AA)<2^max k l:=ig (by decide);have m:((a-b)*2^max k l).natAbs=(a-b).natAbs*2^max k l:=by
   rw[ic,r8];rfl
  have o:(if(a-b)*2^max k l=0 then(AG (a<0)&&AG (-b<0))else AG ((a-b)*2^max k l<0))=AG (a-b<0):=by
   by_cases r:a-b=0
   ·rw[r,zR,Ae rfl,BP (show ¬a<0 by omega)];rfl
   ·have p:(a-b)*2^max k l≠0:=zP r (by omega);rw[AY p,bw];constructor
    ·intro h;by_cases w:a-b<0
     ·exact w
     ·have:=ib (show 0<=a-b by omega) (r7 g);omega
    ·intro h;exact zQ h g
  rw[m,o,Is (by omega)]
 ·subst f;have e:(BV.format.read (fN 0)).opposite=.number AD 0 (-1074):=by decide
  have i:BV.format.read (fN a)=_:=q.d;show((BV.format.read (fN a)).sum (BV.format.read (fN 0)).opposite).map BV.format.write=_;rw[e,i];unfold r6;simp only[Ib];have c:min (-(k:AA)) (-1074:AA)= -((max k 1074:AB):AA):=by omega
  have j:(-(k:AA)- -((max k 1074:AB):AA)).toNat=max k 1074-k:=by omega
  have z0:∀u,RO AD 0 u=0:=λu=>by unfold RO;simp
  rw[c,j,F5,z0,Int.add_zero,show k+(max k 1074-k)=max k 1074 by omega,Int.sub_zero];have g:(0:AA)<2^max k 1074:=ig (by decide);have m:(a*2^max k 1074).natAbs=a.natAbs*2^max k 1074:=by
   rw[ic,r8];rfl
  have x:=ib s (r7 g);have o:(if a*2^max k 1074=0 then(AG (a<0)&&AD)else AG (a*2^max k 1074<0))=AG (a<0):=by
   rw[BP (show ¬a<0 by omega),BP (show ¬a*2^max k 1074<0 by omega)]
   split<;>rfl
  rw[m,o,Is (by omega)]
theorem AKx{a b:AA}(c:0<=a)(e:0<=b)(r:a<9007199254740992)(s:b<9007199254740992)(h:a*b<9007199254740992):w5 .mul (fN a) (fN b)=AC (fN (a*b)):=by
 obtain⟨k,f⟩:=rep (n:=a) (by omega);obtain⟨l,g⟩:=rep (n:=b) (by omega);have i:BV.format.read (fN a)=_:=f.d;have j:BV.format.read (fN b)=_:=g.d;have m:=ib c e;show((BV.format.read (fN a)).product (BV.format.read (fN b))).map BV.format.write=_
 rw[i,j];unfold AJN;simp only[Ib];have o:a.natAbs*2^k*(b.natAbs*2^l)=(a*b).natAbs*2^(k+l):=by
  rw[ic,Kw,Nat.mul_mul_mul_comm]
 have p: -(k:AA)+ -(l:AA)= -((k+l:AB):AA):=by omega
 have q:(AG (a<0)^^AG (b<0))=AG (a*b<0):=by
  rw[BP (show ¬a<0 by omega),BP (show ¬b<0 by omega),BP (show ¬a*b<0 by omega)];rfl
 rw[o,p,q,Is (by omega)]
theorem ABf{a b:AA}(f:a.natAbs<2^53)(g:b.natAbs<2^53):BV.format.order (fN a) (fN b)=AC (compare a b):=by
 obtain⟨k,i⟩:=rep f;obtain⟨l,j⟩:=rep g;have m:BV.format.read (fN a)=_:=i.d;have n:BV.format.read (fN b)=_:=j.d;show ANP (BV.format.read (fN a)) (BV.format.read (fN b))=_;rw[m,n];unfold ANP;have c:min (-(k:AA)) (-(l:AA))= -((max k l:AB):AA):=by omega
 have o:(-(k:AA)- -((max k l:AB):AA)).toNat=max k l-k:=by omega
 have p:(-(l:AA)- -((max k l:AB):AA)).toNat=max k l-l:=by omega
 simp only[c,o,p];rw[F5,F5,show k+(max k l-k)=max k l by omega,show l+(max k l-l)=max k l by omega];have e:(0:AA)<2^max k l:=ig (by decide);congr 1;rcases bp a b with h|h|h
 ·rw[bo.2 h,bo];exact zO h e
 ·rw[h,Wq.2 rfl,Wq.2 rfl]
 ·rw[RP.2 h,RP];exact zO h e
theorem kO{m k:AB}(s:AH):AJQ.cut s (m*2^k) k=m:=by
 unfold bl;simp only[Bool.toNat_false,Nat.add_zero];rcases br m with rfl|a
 ·rw[I6,Nat.zero_div]
 ·have b:=Zq (s:=k) a;rw[MH (by omega),MI,ANa];exact zV _ (I8 k)
theorem OL{n:AA}{x k:AB}(h:Rep n x k):(BV.decode x).integral .zero=.number (AG (n<0)) n.natAbs 0:=by
 rw[h.d];unfold r5;have a:(-(k:AA)).toNat=0:=by omega
 have b:(- -(k:AA)).toNat=k:=by omega
 simp only[a,b,Nat.shiftLeft_zero,kO]
theorem di{n:AA}(h:n.natAbs<2^53):Hp (fN n)=fN n/\CZ (fN n)=true:=by
 obtain⟨k,r⟩:=rep h;constructor
 ·unfold Hp;rw[OL r];rfl
 ·unfold CZ;rw[r.d]
theorem uE{n:AA}(h:n.natAbs<2^53):Xd (fN n) .i64=AC n:=by
 obtain⟨k,r⟩:=rep h;unfold Xd AJO;rw[OL r];have e:RO (AG (n<0)) n.natAbs 0=n:=by
  have:=F5 (n:=n) (k:=0) (u:=0);rw[ANv,Gd]at this;rw[this];simp
 simp only[e];have a:(E7.min<=n/\n<=E7.max):=by
  have b:E7.min= -9223372036854775808:=by decide
  have c:E7.max=9223372036854775807:=by decide
  rw[b,c];omega
 rw[BK a];rfl
theorem nP{n a b:AA}(h:n.natAbs<2^53)(e:a.natAbs<2^53)(f:b.natAbs<2^53):E4 (fN n) (fN a) (fN b)=(AG (a<=n)&&AG (n<=b)):=by
 have g:=ABf h h;unfold E4 Pp;simp only[(di h).1,ABf h e,ABf h f,g,Wq.2 rfl];rcases bp n a with d|d|d
 ·rw[bo.2 d,BP (show ¬a<=n by omega)];rfl
 ·rw[Wq.2 d,BK (show a<=n by omega)];rcases bp n b with c|c|c
  ·rw[bo.2 c,BK (show n<=b by omega)];rfl
  ·rw[Wq.2 c,BK (show n<=b by omega)];rfl
  ·rw[RP.2 c,BP (show ¬n<=b by omega)];rfl
 ·rw[RP.2 d,BK (show a<=n by omega)];rcases bp n b with c|c|c
  ·rw[bo.2 c,BK (show n<=b by omega)];rfl
  ·rw[Wq.2 c,BK (show n<=b by omega)];rfl
  ·rw[RP.2 c,BP (show ¬n<=b by omega)];rfl
