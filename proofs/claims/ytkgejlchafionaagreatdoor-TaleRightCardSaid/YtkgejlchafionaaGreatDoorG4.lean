/-
  Part of the proof. No condition.
-/
import Derived.Shelf.Strings.Search2
import Derived.Test.YtkgejlchafionaaGreatDoorG3
import Derived.Deep.RegionLaw
import Derived.Lib.SliceRun
import Derived.Lib.AppendZerosOnto
import Derived.Shelf.RegionOpenPlain
import Derived.Lib.Walk
open Array renaming ext_getElem?->PH,getElem?_eq_getElem->CX,getElem?_eq_some_iff->Uu,getElem?_push->RM,getElem?_setIfInBounds->Uv,size_append->ANM,toList_inj->I1
open Bool renaming and_eq_true->A0,false->AK,not_eq_true'->Hr,not_false->FU,not_true->GG,or_self->zh,true->AD
open Decidable renaming decide->AG
open Eq renaming trans->FL
open Go renaming Addr->EG,Calls->BU,FuncId->BT,Program->Ao,TypeId->AQ,TypeInfo->EF,Value->AJ,World->AN,callFunc->FO,goInt->Eb,grownCap->Dp,grownCap_ge->ML,grownCap_le_maxLen->zi,growslice_fits->ANw,maxLen->iq,run_append_grow_src->zj,run_append_room_src->Wv,run_callFunc_extern->MK,run_firstCells_none->zk,run_firstCells_some->ir,run_storeCells_cells->zl,run_underlying->PJ,sizeOf->Wj,step_append_room->zm,zeroValue->Uh
open Go.Act renaming eval->Ky,put->Hs
open Go.Addr renaming add_lit->Ge
open Go.Builtin renaming append_->Eo,clear_->iu,copy_->Hv,firstCells->GZ,zeroCells->Ch
open Go.Extern.MathFloor renaming toIntegral->im
open Go.Extern.SlicesOverlaps renaming overlaps->sG
open Go.FloatKind renaming f64->BV
open Go.IntKind renaming i64->E7,wrap_i64->Js
open Go.Lib renaming TabIs->bU,countB->PE,cut->I4,index->Uw,itoa->Cr,join->FM,joinTail->bz,pow10Tab->We,run_append_grow_zeros->zn,splitB->zo,wpList_append_run->Kz
open Go.Oper renaming wp->bS
open Go.Proofs.Lays renaming n219->AJb
open Go.Region renaming wanted->Wb
open Go.Sem renaming run->My
open Go.Shelf renaming Ren->I5
open Go.Src renaming ofSlice->RT
open Go.Value renaming bool->iv,cells->zp,int->Ht,string->E9
open Go.World renaming cell?->C0,cell?_alloc_at->zq,cell?_alloc_past->iw,cell?_setCells_out->b0,frozen?_alloc_at->zr,frozen?_setCells->Ww
open List renaming append_assoc->C9,append_nil->Ce,cons_append->Gk,getElem?_drop->CA,getElem?_eq_getElem->B4,getElem?_map->Fe,getElem?_take->CB,length_append->BA,length_cons->B7,length_drop->CC,length_eq_zero_iff->Gu,length_map->Eg,length_take->Bw,mem_cons_of_mem->GC,mem_cons_self->PB,mem_of_mem_drop->M6,mem_singleton->Cn,nil_append->DN,size_toArray->Hx
open Nat renaming add_assoc->Dg,add_mul->DB,beq->Af,blt->Cq,le_refl->Ak,min->Gb,min_def->RU,zero_le->Cx
open Option renaming map_eq_some_iff->zs,none->AF,some->AC
open Option.some renaming inj->Dw,injEq->BJ
open _root_ renaming Array->Aa,Bool->AH,Int->AA,List->AE,Nat->AB,Option->AP,absurd->Aq,beq_iff_eq->Be,cond_true->Ag,congrArg->BQ,decide_eq_false->BP,decide_eq_true->BK,decide_eq_true_eq->A6,if_neg->AY,of_decide_eq_true->BL,trivial->A3
set_option maxRecDepth 1000000
open Go Go.Eng
noncomputable section
namespace Go.Proofs
open Go.Shelf
def Tryz.lays219_ren:I5:=⟨λ|219=>231|217=>260|225=>261|224=>262|267=>263|266=>285|314=>286|n=>n,λ|9=>9|3=>3|4=>4|5=>5|46=>211|146=>312|51=>239|n=>n,λ|1=>3|n=>n⟩
theorem Tryz.lays219:AJb Tryz.prog Tryz.lays219_ren:={
 mixed:=by kernel_rfl
 f217:=Tryz.func260.trans (BQ AC (by kernel_rfl))
 f219:=Tryz.func231.trans (BQ AC (by kernel_rfl))
 f224:=Tryz.func262.trans (BQ AC (by kernel_rfl))
 f225:=Tryz.func261.trans (BQ AC (by kernel_rfl))
 f266:=Tryz.func285.trans (BQ AC (by kernel_rfl))
 f267:=Tryz.func263.trans (BQ AC (by kernel_rfl))
 f314:=Tryz.func286.trans (BQ AC (by kernel_rfl))
 t3:=Tryz.underlying3
 a3:=Tryz.isAgg3
 z3:=Tryz.sizeOf3
 v3:=Tryz.zeroValue3
 t4:=Tryz.underlying4
 a4:=Tryz.isAgg4
 z4:=Tryz.sizeOf4
 v4:=Tryz.zeroValue4
 t5:=Tryz.underlying5
 a5:=Tryz.isAgg5
 z5:=Tryz.sizeOf5
 v5:=Tryz.zeroValue5
 t9:=Tryz.underlying9
 a9:=Tryz.isAgg9
 z9:=Tryz.sizeOf9
 v9:=Tryz.zeroValue9
 t46:=Tryz.underlying211
 a46:=Tryz.isAgg211
 z46:=Tryz.sizeOf211
 v46:=Tryz.zeroValue211
 t51:=Tryz.underlying239
 a51:=Tryz.isAgg239
 z51:=Tryz.sizeOf239
 v51:=Tryz.zeroValue239
 t146:=Tryz.underlying312
 a146:=Tryz.isAgg312
 z146:=Tryz.sizeOf312
 v146:=Tryz.zeroValue312
 g1:=by kernel_rfl}
open Go.RowKit Go.Lib in
theorem Tryz.stringslite_Index(s sub:ByteArray)(m:AA)(w:AN)(a:s.size<4294967281)(b:w.cell? ⟨3,0,AF⟩=AC (.int .i64 m)):
 BU Tryz.prog 231 #[.string s,.string sub] w λe w'=>e=.returned (.int .i64 (Uw s.data.toList sub.data.toList))/\w'=w:=Any.stringslite_Index Tryz.lays219 s sub m w a b
end Go.Proofs
namespace Go.Proofs.YtkgejlchafionaaGreatDoor
open Tryz
def aB(sum:BT->AE AJ->AP AJ)(f:BT)(a:AE AJ):AP AJ:=
 bif Af f 231 then match a with
  |[.string s,.string t]=>bif Cq s.size 60 then AC (.int .i64 (Uw s.data.toList t.data.toList))else AF
  |_=>AF
 else sum f a
theorem X2{sum:BT->AE AJ->AP AJ}{spec:BT->AP PSpec}(h:(Hz sum spec).OK prog):(Hz (aB sum) spec).OK prog:=
 P2 (λf a v c=>by
  unfold aB at c;cases g:Af f 231
  ·rw[g,cond_false]at c;exact h.sum f a v c
  ·rw[g,Ag]at c;rw[KM g]
   split at c
   ·rename_i s t;cases d:Cq s.size 60
    ·rw[d]at c;cases c
    ·rw[d,Ag]at c;cases c;have d:s.size<60:=by simpa using d
     refine⟨rfl,rfl,λw j=> ?_⟩;obtain⟨u,l,n⟩:=j.1 (3,[ai .i64]) (by simp[IP]) 0 (ai .i64) rfl;rcases n with⟨o,_⟩|⟨b,i,_⟩|⟨k,m,i,rfl⟩
     ·cases o
     ·cases i
     ·cases i;refine(Tryz.stringslite_Index s t m w (by omega) l).mono ?_;rintro e w' ⟨rfl,rfl⟩;exact⟨rfl,Ak _,rfl,rfl,λ_ _=>rfl⟩
   ·cases c) h.spec
open Nice Go.RowKit
theorem EY{fz:AB->AP (Aa AJ)}{t:Ty}{ts:AE Ty}{x:AM (t::ts)}{l:AE AJ}(b:t.agg=AK)(h:CN fz (t::ts) x l):∃v r,l=v::r/\Cw fz t x.1 [v]/\CN fz ts x.2 r:=by
 obtain⟨v,r,e,a,c⟩:=h;rcases a with⟨h,_⟩|⟨_,a⟩
 ·rw[b]at h;cases h
 ·exact⟨v,r,e,a,c⟩
theorem xh{w:AN}(a:NP IP w):∃m,w.cell? ⟨3,0,AF⟩=AC (.int .i64 m):=by
 obtain⟨u,d,e⟩:=a.1 (3,[ai .i64]) (by simp[IP]) 0 (ai .i64) rfl;rcases e with⟨f,_⟩|⟨b,c,_⟩|⟨k,m,c,g⟩
 ·cases f
 ·cases c
 ·cases c;exact⟨m,by rw[d,g]⟩
theorem ACZ:PC 140 UN:=Ta λfz w args x a g f=>by
 obtain⟨s,p,⟨⟩⟩:=x;simp only[UN,A0,Be]at f;obtain⟨b,rfl⟩:=f;have b:s.length<4294967281:=BL b;obtain⟨_,_,h,i,c⟩:=EY rfl g;obtain⟨_,j,rfl,k,d⟩:=EY rfl c;obtain rfl:j=[]:=d;cases i;cases k;have l:args=#[.string (bs s),.string (bs [61])]:=I1.1 h
 subst l;obtain⟨m,o⟩:=xh a;refine(Tryz.strings_Cut (bs s) (bs [61]) m w (by rw[TZ];exact b) o).mono ?_;rintro e w' ⟨rfl,n,rfl⟩;rw[Hy,Hy];exact⟨[.string (bs (I4 s [61]).1),.string (bs (I4 s [61]).2.1),.bool (I4 s [61]).2.2],rfl,⟨_,_,rfl,.inr ⟨rfl,rfl⟩,_,_,rfl,.inr ⟨rfl,rfl⟩,_,_,rfl,.inr ⟨rfl,rfl⟩,rfl⟩,⟨Ak _,rfl,rfl,λ_ _=>rfl⟩⟩
theorem uv:PC 139 Ng:=by
 intro fz w args x g n z v;obtain⟨s,p,⟨⟩⟩:=x;simp only[Ng,A0,Be]at v;obtain⟨o,rfl⟩:=v;have o:s.length<4294967281:=BL o;obtain⟨_,_,A,B,q⟩:=EY rfl z;obtain⟨_,C,rfl,D,r⟩:=EY rfl q;obtain rfl:C=[]:=r;cases B;cases D;have E:args=#[.string (bs s),.string (bs [38])]:=I1.1 A
 subst E;obtain⟨m,F⟩:=xh n;refine(Tryz.strings_Split (bs s) (bs [38]) m w (by rw[TZ];exact o) F (Ak 1)).mono ?_;rintro e w' ⟨rfl,rfl⟩;have hd:=Lib.splitB_data (bs [38]) 0 (PE (bs s) (bs [38])) (bs s);have t:=Lib.splitB_all (bs [38]) (Ak 1) 0 (PE (bs s) (bs [38])) (bs s) rfl
 have u:(zo (bs [38]) 0 (PE (bs s) (bs [38])) (bs s)).map (·.data.toList)=E5 s:=hd;generalize zo (bs [38]) 0 (PE (bs s) (bs [38])) (bs s)=L at t u;generalize PE (bs s) (bs [38])=k at t;have a:(E5 s).length=k+1:=by rw[<-u,Eg];exact t
 have j:∀b c,fz b=AC c->b<w.heap.size:=λb c f=>by
  obtain⟨e,fr,h⟩:=g b c f;exact(Uu.1 h).1
 have d:∀b,b<w.heap.size->(w.alloc (.cells (L.map E9).toArray 9)).heap[b]?=w.heap[b]?:=λb f=>by
  show(w.heap.push _)[b]?=_;rw[RM,AY (by omega)]
 refine⟨[.slice (AC ⟨w.heap.size,0,AF⟩) (k+1) (k+1)],λb=>if b=w.heap.size then AC (L.map E9).toArray else fz b,rfl,λb c h=> ?_,λb c h=> ?_,λb c h=> ?_,?_,?_⟩
 ·have:=j b c h;simp only[AY (by omega:¬b=w.heap.size)];exact h
 ·by_cases f:b=w.heap.size
  ·subst f;simp only[if_true,BJ]at h;subst h;exact⟨_,_,by show(w.heap.push _)[w.heap.size]?=_;rw[RM,if_pos rfl]⟩
  ·simp only[AY f]at h;obtain⟨e,fr,G⟩:=g b c h;exact⟨e,fr,by rw[d b (j b c h)];exact G⟩
 ·by_cases f:b=w.heap.size
  ·exact .inr (by omega)
  ·simp only[AY f]at h;exact .inl h
 ·refine⟨_,_,rfl,.inr ⟨rfl,_,rfl,.inr ⟨w.heap.size,0,k+1,(L.map E9).toArray,?_,by simp,?_,?_,?_⟩⟩,rfl⟩
  ·show _=Value.slice _ (E5 s).length _;rw[a]
  ·show 0+(E5 s).length*1<=_;rw[a];simp;omega
  ·show(E5 s).length<=_;rw[a];exact Ak _
  ·intro i x l;have l:(E5 s)[i]?=AC x:=l;rw[<-u,Fe]at l;obtain⟨y,H,rfl⟩:=zs.1 l;show((L.map E9).toArray.toList.drop (0+i*1)).take 1=[.string (bs y.data.toList)];have:(L.map E9)[i]?=AC (.string y):=by rw[Fe,H];rfl
   rw[show 0+i*1=i by omega];show((L.map E9).drop i).take 1=_;obtain⟨I,e⟩:=List.getElem?_eq_some_iff.1 this;rw[List.drop_eq_getElem_cons I,e];have:bs y.data.toList=y:=NJ y;rw[this];rfl
 ·exact⟨by show w.heap.size<=(w.heap.push _).size;simp,rfl,rfl,d⟩
open Nice Go.RowKit
theorem oZ{x:AB}(h:CZ x=AD)(w:AN):(FO 270 #[.float .f64 x]).run prog w=.ok (.value (.float .f64 (Hp x))) w:=by
 rw[MK func270 (by kernel_rfl) (by kernel_rfl) (by kernel_rfl) (by kernel_rfl:Extern.find f270=AC (im "math.archTrunc" .zero))];have e:im "math.archTrunc" .zero #[.float .f64 x]=Pure.pure (.float .f64 (Hp x)):=by
  show(match BV.decode x with
   | .nan s t=>_
   |d=>_)=_
  unfold CZ at h;unfold Hp
  split
  ·rename_i hd;rw[hd]at h;cases h
  ·rfl
 rw[e];rfl
theorem uw:PC 237 ag:=Ta λfz w args x b c d=>by
 obtain⟨x,⟨⟩⟩:=x;obtain⟨_,e,f,g,a⟩:=EY rfl c;obtain rfl:e=[]:=a;cases g;have h:args=#[.float .f64 x]:=I1.1 f;subst h
 go_enter func237,ntmps237
 go_wp2
 rw[oZ d]
 go_wp2
 go_ret
 exact⟨[.float .f64 (Hp x)],rfl,⟨_,_,rfl,.inr ⟨rfl,rfl⟩,rfl⟩,⟨Ak _,rfl,rfl,λ_ _=>rfl⟩⟩
theorem gj:PC 195 Nb:=(Ap (Ac (l:=[(237,ag)]) ⟨uw,A3⟩) Al func195 (by kernel_rfl) (by decide)).nice λ⟨x,a,b,()⟩ h=>qO x a b h
theorem aC:PC 149 Jm:=(Ap (Ac (l:=[(195,Nb)]) ⟨gj,A3⟩) Al func149 (by kernel_rfl) (by decide)).nice λ⟨z,()⟩ h=>vg z h
theorem gk:PC 101 Nc:=(Ap (Ac (l:=[(149,Jm)]) ⟨aC,A3⟩) Al func101 (by kernel_rfl) (by decide)).nice λ⟨s,()⟩ _=>vj s
theorem ux:PC 27 eS:=(Ap (Ac (l:=[]) trivial) Al func27 (by kernel_rfl) (by decide)).nice λ⟨s,()⟩ _=>vl s
theorem ACa:PC 269 Ou:=(Ap (Ac (l:=[]) trivial) Al func269 (by kernel_rfl) (by decide)).nice λ⟨s,p,()⟩ h=>ABF s p h
theorem ACb:PC 236 Ov:=(Ap (Ac (l:=[(269,Ou)]) ⟨ACa,A3⟩) Al func236 (by kernel_rfl) (by decide)).nice λ⟨s,p,()⟩ h=>ABG s p h
theorem ACc:PC 187 ak:=(Ap (Ac (l:=[]) trivial) Al func187 (by kernel_rfl) (by decide)).nice λ⟨l,x,()⟩ h=>ABH l x h
theorem ACd:PC 141 WS:=(Ap (Ac (l:=[(187,ak)]) ⟨ACc,A3⟩) Al func141 (by kernel_rfl) (by decide)).nice λ⟨l,x,()⟩ h=>ABI l x h
theorem oa:PC 143 UO:=(Ap (Ac (l:=[(191,UG),(193,H2),(236,Ov),(101,Nc)]) ⟨ABT,AFh,ACb,gk,A3⟩) Al func143 (by kernel_rfl) (by decide)).nice λ⟨⟨m,p,q,a,b,()⟩,()⟩ h=>mV m p q a b h
theorem Ob:PC 95 Dl:=(Ap (Ac (l:=[(100,Bx),(142,VB),(143,UO),(193,H2)]) ⟨Sy,mT,oa,AFh,A3⟩) Al func95 (by kernel_rfl) (by decide)).nice λ⟨a,⟨m,p,q,c,b,()⟩,()⟩ h=>mW a m p q c b h
theorem Oc:PC 94 Dm:=(Ap (Ac (l:=[(100,Bx),(139,Ng),(140,UN),(141,WS),(142,VB)]) ⟨Sy,uv,ACZ,ACd,mT,A3⟩) Al func94 (by kernel_rfl) (by decide)).nice λ⟨a,q,()⟩ h=>mZ a q h
theorem oc{f:BT}{ts rs:AE Ty}{pre:AM ts->AH}{g:AM ts->AM rs}(h:∀x,pre x=AD->∃e,PC f ⟨ts,rs,e,g⟩/\e x=AD):PC f ⟨ts,rs,pre,g⟩:=by
 intro fz w args x a b c d;obtain⟨e,i,j⟩:=h x d;exact i fz w args x a b c j
def ofM(a:L8->AH):PSpec:=⟨[CS],[BF,.int .i64],λx=>Qr x.1&&a x.1.1,λx=>((Jy x.1).1,(Jy x.1).2,())⟩
theorem oe{f:BT}(d:PC f (ofM λm=>m==EB))(e:PC f (ofM λm=>m==Bh))(h:PC f (ofM λm=>m==DP))(i:PC f (ofM λm=>m==DG))(j:PC f (ofM λm=> !(m==EB)&&(!(m==Bh)&&(!(m==DP)&& !(m==DG))))):PC f ofS:=by
 refine oc (ts:=[CS]) (rs:=[BF,.int .i64]) (pre:=λx=>Qr x.1) (g:=λx=>((Jy x.1).1,(Jy x.1).2,())) λ⟨⟨m,p,q,c,b,()⟩,()⟩ a=> ?_
 have a:Qr (m,p,q,c,b,())=true:=a;cases c0:m==EB
 ·cases c1:m==Bh
  ·cases c2:m==DP
   ·cases c3:m==DG
    ·exact⟨_,j,by show(Qr (m,p,q,c,b,())&&(!(m==EB)&&(!(m==Bh)&&(!(m==DP)&& !(m==DG)))))=AD;rw[a,c0,c1,c2,c3];rfl⟩
    ·exact⟨_,i,by show(Qr (m,p,q,c,b,())&&m==DG)=AD;rw[a,c3];rfl⟩
   ·exact⟨_,h,by show(Qr (m,p,q,c,b,())&&m==DP)=AD;rw[a,c2];rfl⟩
  ·exact⟨_,e,by show(Qr (m,p,q,c,b,())&&m==Bh)=AD;rw[a,c1];rfl⟩
 ·exact⟨_,d,by show(Qr (m,p,q,c,b,())&&m==EB)=AD;rw[a,c0];rfl⟩
theorem SE{m p q:L8}{a:Em}{b:L8}{w:L8}(h:(Qr (m,p,q,a,b,())&&m==w)=AD):m=w/\Qr (w,p,q,a,b,())=true:=by
 rw[A0,Be]at h;obtain⟨h,rfl⟩:=h;exact⟨rfl,h⟩
theorem uy{m p q:L8}{a:Em}{b:L8}(h:(Qr (m,p,q,a,b,())&&(!(m==EB)&&(!(m==Bh)&&(!(m==DP)&& !(m==DG)))))=AD):Qr (m,p,q,a,b,())=AD/\(m==EB)=AK/\(m==Bh)=AK/\(m==DP)=AK/\(m==DG)=false:=by
 rw[A0,A0,A0,A0,Hr,Hr,Hr,Hr]at h;exact⟨h.1,h.2.1,h.2.2.1,h.2.2.2.1,h.2.2.2.2⟩
theorem ACe:PC 51 ofS:=oe
 ((Ap (Ac (l:=[(138,Bz),(94,Dm),(95,Dl)]) ⟨ANc,Oc,Ob,A3⟩) Al func51 (by kernel_rfl) (by decide)).nice λ⟨⟨m,p,q,a,b,()⟩,()⟩ h=>by obtain⟨rfl,k⟩:=SE h;exact ma p q a b k)
 ((Ap (Ac (l:=[(138,Bz),(94,Dm),(95,Dl)]) ⟨ANc,Oc,Ob,A3⟩) Al func51 (by kernel_rfl) (by decide)).nice λ⟨⟨m,p,q,a,b,()⟩,()⟩ h=>by obtain⟨rfl,k⟩:=SE h;exact jT p q a b k)
 ((Ap (Ac (l:=[(138,Bz),(94,Dm),(95,Dl)]) ⟨ANc,Oc,Ob,A3⟩) Al func51 (by kernel_rfl) (by decide)).nice λ⟨⟨m,p,q,a,b,()⟩,()⟩ h=>by obtain⟨rfl,k⟩:=SE h;exact mb p q a b k)
 ((Ap (Ac (l:=[(138,Bz),(94,Dm),(95,Dl)]) ⟨ANc,Oc,Ob,A3⟩) Al func51 (by kernel_rfl) (by decide)).nice λ⟨⟨m,p,q,a,b,()⟩,()⟩ h=>by obtain⟨rfl,k⟩:=SE h;exact mc p q a b k)
 ((Ap (Ac (l:=[(138,Bz),(94,vY [BF,.str] [BF,.bool]),(95,vY [BF,CS] [BF,.bool])]) ⟨ANc,AFg _ _ _,AFg _ _ _,A3⟩) Al func51 (by kernel_rfl) (by decide)).nice λ⟨⟨m,p,q,a,b,()⟩,()⟩ h=>by obtain⟨k,c,d,e,f⟩:=uy h;exact ABJ m p q a b k c d e f)
open Nice Go.RowKit Go.Sort
theorem WC:ANL=We.map λz=>Ht .u64 z:=by kernel_rfl
theorem og:Tryz.prog.globalNamed "internal/strconv.uint64pow10" =AC 0:=by kernel_rfl
theorem oh{w:AN}(d:NP IP w):bU prog w "internal/strconv.uint64pow10" .u64 We:=by
 obtain⟨c,e,fr,j,n⟩:=d.2 (0,ANL) (by simp[IP]);unfold bU World.var?;rw[og];simp only[Option.bind_some,j];congr 1;rw[<-WC];apply Array.ext
 ·simpa using n
 ·intro i o p;have f:i<ANL.length:=by simpa using p
  obtain⟨u,l,q⟩:=d.1 (0,ANL) (by simp[IP]) i ANL[i] (B4 f);have a:∃z,ANL[i]=Ht .u64 z:=by
   have r:ANL[i]∈We.map λz=>Ht .u64 z:=by rw[<-WC];exact List.getElem_mem f
   obtain⟨z,_,a⟩:=List.mem_map.1 r;exact⟨z,a.symm⟩
  obtain⟨z,a⟩:=a;have e:u=ANL[i]:=by
   rcases q with⟨_,h⟩|⟨b,g,_⟩|⟨k,m,g,_⟩
   ·exact h
   ·rw[a]at g;cases g
   ·rw[a]at g;cases g
  simp only[C0,j]at l;have:c[i]?=AC u:=by simpa using l
  rw[CX o]at this;rw[Dw this,e];simp
theorem P5(w:AN)(k:AB)(os:Aa Obj):DU w (grow (w.drewN k) os):=by
 refine⟨?_,rfl,rfl,λb a=> ?_⟩
 ·show w.heap.size<=(w.heap++os).size;simp
 ·show(w.heap++os)[b]?=w.heap[b]?;rw[Array.getElem?_append_left a]
theorem Od{n:AA}:C4 n=AD↔ -9223372036854775808<=n/\n<=9223372036854775807:=by
 unfold C4;rw[A0,A6,A6]
theorem oi:PC 50 Zm:=Ta λfz w args x a c d=>by
 obtain⟨n,⟨⟩⟩:=x;obtain⟨f,g⟩:=Od.1 d;obtain⟨_,h,i,g1,b⟩:=EY rfl c;obtain rfl:h=[]:=b;cases g1;have j:args=#[.int .i64 n]:=I1.1 i;subst j;refine(Tryz.strconv_Itoa n f g w (oh a)).mono ?_;rintro e w' ⟨rfl,k,os,rfl⟩;exact⟨[.string (bs (Cr n))],rfl,⟨_,_,rfl,.inr ⟨rfl,rfl⟩,rfl⟩,P5 _ _ _⟩
theorem AGv:PC 48 ABV:=Ta λfz w args x c g b=>by
 obtain⟨n,m,⟨⟩⟩:=x;have a:(C4 n&&m==(10:AA))=true:=b;clear b;rw[A0,Be]at a;obtain⟨b,rfl⟩:=a;obtain⟨h,i⟩:=Od.1 b;obtain⟨_,_,j,g1,d⟩:=EY rfl g;obtain⟨_,l,rfl,o,f⟩:=EY rfl d;obtain rfl:l=[]:=f;cases g1;cases o;have p:args=#[.int .i64 n,.int .i64 10]:=I1.1 j
 subst p;refine(Tryz.strconv_FormatInt_10 n h i w (oh c)).mono ?_;rintro e w' ⟨rfl,k,os,rfl⟩;exact⟨[.string (bs (Cr n))],rfl,⟨_,_,rfl,.inr ⟨rfl,rfl⟩,rfl⟩,P5 _ _ _⟩
theorem ACf:PC 91 Zn:=by
 intro fz w args x i G H m;obtain⟨l,s,⟨⟩⟩:=x;have m:Mo l s=true:=m;unfold Mo at m;rw[A0,A6,A6]at m;obtain⟨_,_,D,g1,t⟩:=EY rfl H;obtain⟨_,I,rfl,J,u⟩:=EY rfl t;obtain rfl:I=[]:=u;cases J;have p:∀b c,fz b=AC c->b<w.heap.size:=λb c n=>by
  obtain⟨e,fr,h⟩:=i b c n;exact(Uu.1 h).1
 have fin:∀w',DU w w'->∃vs a,(Ending.returned (.string (bs (FM l s)))=.returned (Er vs))/\(∀b c,fz b=AC c->a b=AC c)/\DK a w'/\(∀b c,a b=AC c->fz b=AC c\/w.heap.size<=b)/\CN a Zn.rs (Zn.g (l,s,())) vs/\DU w w':=λw' E=>
  ⟨[.string (bs (FM l s))],fz,rfl,λ_ _ h=>h,i.keep λb c n=>E.2.2.2 b (p b c n),λ_ _ h=>.inl h,⟨_,_,rfl,.inr ⟨rfl,rfl⟩,rfl⟩,E⟩
 obtain⟨sv,v,k⟩:=g1;cases v;rcases k with⟨⟨q,c,rfl⟩,A⟩|⟨b,o,c,d,rfl,n,K,L,M⟩
 ·have A:l=[]:=A;subst A;have B:args=#[.slice q 0 c,.string (bs s)]:=I1.1 D;subst B;refine(Tryz.strings_Join_none q c (bs s) w).mono ?_;rintro e w' ⟨rfl,rfl⟩;exact fin w' ⟨Ak _,rfl,rfl,λ_ _=>rfl⟩
 ·have B:args=#[.slice (AC ⟨b,o,AF⟩) l.length c,.string (bs s)]:=I1.1 D;subst B;obtain⟨Q,fr,N⟩:=i b d n;have f:(l.map bs).map (·.data.toList)=l:=by
   rw[List.map_map];have:((λx:ByteArray=>x.data.toList)∘bs)=id:=by funext y;exact Hy y
   rw[this,List.map_id]
  have:=Tryz.strings_Join b o c (l.map bs) (bs s) w (λj x F=>by
   rw[Fe]at F;obtain⟨y,O,rfl⟩:=zs.1 F;have r:=M j y O;have r:((d.toList.drop (o+j*1)).take 1)=[.string (bs y)]:=r;rw[Nat.mul_one]at r;have P:d.toList[o+j]?=AC (.string (bs y)):=by
    have:=BQ (λz=>z[0]?) r;simpa[CB,CA]using this
   show C0 w ⟨b,o+j,AF⟩=_;simp only[C0,N];simpa using P) (p b d n) (by rw[Eg];exact m.1) (by rw[Eg];exact L) (by rw[f,Hy];exact m.2)
  rw[Eg,f,Hy]at this;refine this.mono ?_;rintro e w' ⟨rfl,C⟩;exact fin w' (Iq C)
end Go.Proofs.YtkgejlchafionaaGreatDoor
namespace Nice
def wq3(k:AA)(l:AE (L8)):AP (AM [.str]):=bif k==(5:AA)then gd [Mo (l++[Zj]) [38]] (AC (AOF (l++[Zj]) [38],()))else gd [Mo l [38]] (AC (AOF l [38],()))
def wq2(m k:AA)(l:AE (L8)):AP (AM [.str]):=bif m !=(20:AA)then gd [AG (4+(GE m).length<=1099511627776),C4 m] (wq3 k (l++[ADu++GE m]))else wq3 k l
def wq1(f:L8)(m k:AA)(l:AE (L8)):AP (AM [.str]):=bif !f==[]then gd [AG (6+f.length<=1099511627776)] (wq2 m k (l++[ADt++f]))else wq2 m k l
def wq0(p f:L8)(m k:AA):AP (AM [.str]):=bif !p==[]then gd [AG (7+p.length<=1099511627776)] (wq1 f m k ([]++[ADs++p]))else wq1 f m k []
def Gi:AP (AM [CS,.bool]):=AC (ABU,AK,())
def eqB(x a:BH):AH:=x.1==a.1&&(x.2.1==a.2.1&&(x.2.2.1==a.2.2.1&&(x.2.2.2.1==a.2.2.2.1&&(x.2.2.2.2.1==a.2.2.2.2.1&&(x.2.2.2.2.2.1==a.2.2.2.2.2.1&&(x.2.2.2.2.2.2.1==a.2.2.2.2.2.2.1&&(x.2.2.2.2.2.2.2.1==a.2.2.2.2.2.2.2.1&&(x.2.2.2.2.2.2.2.2.1==a.2.2.2.2.2.2.2.2.1&&(x.2.2.2.2.2.2.2.2.2.1==a.2.2.2.2.2.2.2.2.2.1&&AD)))))))))
def wr5(a:BH)(g:AE AH)(r:Nf):AP (AM [CS,.bool]):=
 gd (Qr r::g) (bif (Jy r).2 !=(0:AA)then Gi else bif !eqB (Jy r).1 a then Gi else bif AG ((a.2.2.2.1.length:AA)>(300:AA))then Gi else AC (r,AD,()))
def wr4(a:BH)(b:L8)(mk:Em->Nf)(c:Em):AP (AM [CS,.bool]):=
 bif !b==[]then wr5 a [C4 (b.length:AA)] (mk (c++[(clW,GE (b.length:AA),())]))else wr5 a [] (mk c)
def wr3(a:BH)(c:AA)(t b:L8)(mk:Em->Nf):AP (AM [CS,.bool]):=
 bif c==(1:AA)then wr4 a b mk [(JK,[42],())]
 else bif c==(2:AA)then gd [AG (([34]++t).length+1<=1099511627776),AG (1+t.length<=1099511627776)] (wr4 a b mk [(JL,[34]++t++[34],())])
 else wr4 a b mk []
def wr2(a:BH)(k:AA)(key:L8)(c:AA)(t b e q:L8):AP (AM [CS,.bool]):=
 bif k==(2:AA)then wr3 a c t b λd=>(DP,KZ++key,q,d,b,())
 else bif k==(3:AA)then wr3 a c t b λd=>(DG,KZ++key,q,d,b,())
 else bif k==(4:AA)then gd [Rb a] (wr3 a c t b λd=>(e,oW,Pu a,d,b,()))
 else bif k==(5:AA)then gd [Rb a] (wr3 a c t b λd=>(e,oW,Pu a,d,b,()))
 else wr3 a c t b λd=>(e,KZ++key,q,d,b,())
def wr1(a:BH)(k:AA)(key:L8)(v c:AA)(t b d:L8):AP (AM [CS,.bool]):=
 bif v !=(0:AA)then gd [AG (8+(GE v).length<=1099511627776),C4 v&&(10:AA)==(10:AA)] (wr2 a k key c t b d (KV++GE v))else wr2 a k key c t b d []
def wr0(k:AA)(key:L8)(v:AA)(b:L8)(c:AA)(t p f:L8)(m:AA)(a:AH):AP (AM [CS,.bool]):=
 gd [AG (3+key.length<=1099511627776)] (bif a then wr1 (k,key,v,b,c,t,p,f,m,a,()) k key v c t b Bh else wr1 (k,key,v,b,c,t,p,f,m,a,()) k key v c t b EB)
end Nice
namespace Go.Proofs.YtkgejlchafionaaGreatDoor
open Tryz
open Nice
def oj(x:AM [BF]):AP (AM [.str]):=fO prog (Aj [(50,Zm),(91,Zn)]) (AV []) f49 [BF] [.str] x
theorem ACh(k:AA)(key:L8)(v:AA)(b:L8)(c:AA)(t p f:L8)(m:AA)(a:AH):oj ((k,key,v,b,c,t,p,f,m,a,()),())=wq0 p f m k:=by kernel_rfl
def aD(x:AM [BF]):AP (AM [CS,.bool]):=fO prog (Aj [(51,ofS),(48,ABV),(49,dY),(50,Zm)]) (AV []) f28 [BF] [CS,.bool] x
theorem om(k:AA)(key:L8)(v:AA)(b:L8)(c:AA)(t p f:L8)(m:AA)(a:AH):aD ((k,key,v,b,c,t,p,f,m,a,()),())=wr0 k key v b c t p f m a:=by kernel_rfl
def xi(x:AM [BF]):AP (AM [.bool]):=fO prog (Aj [(28,Tj)]) (AV []) f12 [BF] [.bool] x
theorem AGy(k:AA)(key:L8)(v:AA)(b:L8)(c:AA)(t p f:L8)(m:AA)(a:AH):xi ((k,key,v,b,c,t,p,f,m,a,()),())=
 (bif (HV (k,key,v,b,c,t,p,f,m,a,())).2 then gd [Gh (k,key,v,b,c,t,p,f,m,a,())] (AC (AD,()))else gd [Gh (k,key,v,b,c,t,p,f,m,a,())] (AC (AK,()))):=by kernel_rfl
end Go.Proofs.YtkgejlchafionaaGreatDoor
namespace Nice
theorem yT{α:Type}(a b:α):(bif AD then a else b)=a:=FL (Ag a b) rfl
theorem yF{α:Type}(a b:α):(bif AK then a else b)=b:=FL (cond_false a b) rfl
theorem yG{α:Type}(r:AP α):gd [] r=r:=FL Cm rfl
theorem X3{n:AA}(h:C4 n=AD):(Cr n).length<=21:=by
 unfold C4 at h;rw[A0,A6,A6]at h;have key:∀u:AB,u<10^20->(Lib.decDigits u).length<=20:=by
  intro u a;have:=nJ (k:=19) (u:=u) (by simpa using a);rw[IL]at this;exact this
 unfold Cr
 split
 ·have:=key n.natAbs (by omega);simp only[B7];omega
 ·have:=key n.toNat (by omega);omega
theorem NU{s:L8}(h:sa s=AD):s.length<=1000:=BL h
theorem WD(s:L8):∀(l:AE (L8)) (n:AB),(∀x,x∈l->x.length<=n)->(bz s l).length<=l.length*(s.length+n)
 |[],_,_=>by simp[bz]
 |x::r,n,h=>by
  have:=WD s r n λy a=>h y (GC _ a)
  have b:=h x (PB ..);have e:(bz s (x::r)).length=s.length+x.length+(bz s r).length:=by
   show((s++x)++bz s r).length=_;rw[BA,BA]
  rw[e,B7,DB];omega
theorem oo(s:L8)(l:AE (L8))(n:AB)(h:∀x,x∈l->x.length<=n):(FM l s).length<=l.length*(s.length+n):=by
 cases l with
 |nil=>simp[FM]
 |cons x r=>
  have b:=h x (PB ..);have:=WD s r n λy a=>h y (GC _ a)
  rw[Lib.join_cons,BA,B7,DB];omega
theorem ANg{p f:L8}{m k:AA}(c:p.length<=1000)(d:f.length<=1000)(a:C4 m=AD):(Ds p f m k).length<=4/\∀x,x∈Ds p f m k->x.length<=1010:=by
 have e:=X3 a;refine⟨?_,λx b=> ?_⟩
 ·unfold Ds AOD dV Xp Ir;cases p==[]<;>cases f==[]<;>cases m==20<;>cases k==5<;>simp
 ·rcases db b with rfl|rfl|rfl|rfl
  ·rw[BA];show 7+_<=_;omega
  ·rw[BA];show 6+_<=_;omega
  ·rw[BA];show 4+_<=_;omega
  ·show 10<=1010;omega
theorem gm{p f:L8}{m k:AA}(a:p.length<=1000)(b:f.length<=1000)(c:C4 m=AD):Mo (Ds p f m k) [38]=AD/\(FM (Ds p f m k) [38]).length<=4044:=by
 obtain⟨d,e⟩:=ANg (k:=k) a b c;have g:=oo [38] _ 1010 e;have h:(Ds p f m k).length*([38].length+1010)<=4*1011:=Nat.mul_le_mul_right 1011 d;refine⟨?_,by omega⟩;unfold Mo;rw[A0,A6,A6];omega
theorem uz{p f:L8}{m k:AA}(i:p.length<=1000)(j:f.length<=1000)(c:C4 m=AD):wq0 p f m k=AC (FM (Ds p f m k) [38],()):=by
 obtain⟨b, -⟩:=gm (k:=k) i j c;have n:=X3 c;have d:∀l:AE (L8),Mo (l++Ir k) [38]=AD->wq3 k l=AC (FM (l++Ir k) [38],()):=by
  intro l h;unfold wq3;unfold Ir at h⊢;cases a:k==5
  ·rw[a,yF,Ce]at h;rw[yF,BG h,yG,yF,Ce];rfl
  ·rw[a,yT]at h;rw[yT,BG h,yG,yT];rfl
 have e:∀l:AE (L8),Mo (l++(Xp m++Ir k)) [38]=AD->wq2 m k l=AC (FM (l++(Xp m++Ir k)) [38],()):=by
  intro l h;unfold wq2 bne;unfold Xp at h⊢;cases a:m==20
  ·rw[a,yF,<-C9]at h;have:=d _ h;rw[FU,yT,yF,An (show 4+(GE m).length<=1099511627776 by show 4+(Cr m).length<=_;omega),BG c,yG,<-C9];exact this
  ·rw[a,yT,DN]at h;rw[GG,yF,yT,DN];exact d _ h
 have g:∀l:AE (L8),Mo (l++(dV f++(Xp m++Ir k))) [38]=AD->wq1 f m k l=AC (FM (l++(dV f++(Xp m++Ir k))) [38],()):=by
  intro l h;unfold wq1;unfold dV at h⊢;cases a:f==[]
  ·rw[a,yF,<-C9]at h;rw[FU,yT,yF,An (by omega),yG,<-C9];exact e _ h
  ·rw[a,yT,DN]at h;rw[GG,yF,yT,DN];exact e _ h
 unfold wq0;unfold Ds at b⊢;unfold AOD at b⊢;cases a:p==[]
 ·rw[a,yF]at b;rw[FU,yT,yF,An (by omega),yG];exact g _ b
 ·rw[a,yT,DN]at b;rw[GG,yF,yT,DN];exact g [] b
def ANh(a:BH)(r:Nf):AP (AM [CS,.bool]):=AC ((AOE a r).1,(AOE a r).2,())
theorem ACi(x a:BH):eqB x a=xI x a:=by
 unfold eqB xI;rw[Bool.and_true]
theorem xj{a:BH}{g:AE AH}{r:Nf}(h:Qr r=AD)(d:g=[]\/∃b,g=[b]/\b=AD):wr5 a g r=ANh a r:=by
 have e:wr5 a g r=(bif (Jy r).2 !=(0:AA)then Gi else bif !eqB (Jy r).1 a then Gi else bif AG ((a.2.2.2.1.length:AA)>(300:AA))then Gi else AC (r,AD,())):=by
  unfold wr5;rcases d with rfl|⟨b,rfl,rfl⟩
  ·rw[BG h,yG]
  ·rw[BG h,BG rfl,yG]
 rw[e,ACi];unfold ANh AOE Gi bne;cases(Jy r).2==0
 ·rfl
 ·cases xI (Jy r).1 a
  ·rfl
  ·by_cases c:(a.2.2.2.1.length:AA)<=300
   ·rw[BK c,BP (by omega)];rfl
   ·rw[BP c,BK (by omega)];rfl
theorem u0{b:L8}(h:b.length<=1000):C4 (b.length:AA)=true:=by
 unfold C4;rw[A0,A6,A6];omega
theorem oq{a:BH}{b:L8}{mk:Em->Nf}{c:Em}(e:b.length<=1000)(h:Qr (mk (c++R0 b))=AD):wr4 a b mk c=ANh a (mk (c++R0 b)):=by
 unfold wr4;unfold R0 at h⊢;cases d:b==[]
 ·rw[d,yF]at h;rw[FU,yT,yF];exact xj h (.inr ⟨_,rfl,u0 e⟩)
 ·rw[d,yT,Ce]at h;rw[GG,yF,yT,Ce];exact xj h (.inl rfl)
theorem aE{a:BH}{c:AA}{t b:L8}{mk:Em->Nf}(g:t.length<=1000)(d:b.length<=1000)(h:Qr (mk (Zk c t++R0 b))=AD):wr3 a c t b mk=ANh a (mk (Zk c t++R0 b)):=by
 unfold wr3;unfold Zk at h⊢;cases e:c==1
 ·rw[e,yF]at h;rw[yF,yF];cases f:c==2
  ·rw[f,yF]at h;rw[yF,yF];exact oq d h
  ·rw[f,yT]at h;rw[yT,yT,An (by rw[BA];show 1+_+1<=_;omega),An (by omega),yG];exact oq d h
 ·rw[e,yT]at h;rw[yT,yT];exact oq d h
theorem ANi{c:AA}{t b:L8}(i:t.length<=1000):DY (Zk c t++R0 b)=true:=by
 have j:(Ba (Zk c t++R0 b) JL).1.length<=1002:=by
  unfold Zk;cases c==1
  ·cases c==2
   ·rw[yF,yF,DN,Xs];exact Cx _
   ·rw[yF,yT,Gk,DN];have e:Ba ((JL,[34]++t++[34],())::R0 b) JL=([34]++t++[34],AD):=by
     show(bif Ek JL==Ek JL then _ else _)=_;rw[AFn,yT]
    rw[e];show([34]++t++[34]).length<=1002;simp only[BA,B7,List.length_nil];omega
  ·rw[yT,Gk,DN];have e:Ba ((JK,[42],())::R0 b) JL=Ba (R0 b) JL:=by
    show(bif Ek JK==Ek JL then _ else _)=_;rw[AFm,yF]
   rw[e,Xs];exact Cx _
 have f:∀h,h∈Zk c t++R0 b->Hn h.1=true:=by
  intro h a;rcases List.mem_append.1 a with a|a
  ·unfold Zk at a
   revert a
   cases c==1
   ·cases c==2
    ·intro a;cases a
    ·intro a;rw[Cn.1 a];rfl
   ·intro a;rw[Cn.1 a];rfl
  ·unfold R0 at a
   revert a
   cases b==[]
   ·intro a;rw[Cn.1 a];rfl
   ·intro a;cases a
 have k:(Zk c t++R0 b).length<=2:=by
  unfold Zk R0;cases c==1<;>cases c==2<;>cases b==[]<;>first|exact Cx _|exact Nat.le_succ 1|exact Ak 2
 have d:∀n,Hn n=AD->HI (Zk c t++R0 b) n=true:=by
  intro n g;unfold HI;rw[g,BK (by omega),List.all_eq_true.2 f];rfl
 unfold DY;rw[d JK rfl,d JL rfl];exact BK (by omega)
theorem Oe{m p q:L8}{c:AA}{t b a:L8}(d:t.length<=1000)(e:p.length<=5000)(f:q.length<=5000):Qr (m,p,q,Zk c t++R0 b,a,())=true:=by
 unfold Qr;dsimp only;rw[ANi d,show E6 q=AD from BK (by omega)];exact BK (by omega)
theorem ot{k:AA}{key:L8}{v:AA}{b:L8}{c:AA}{t p f:L8}{m:AA}{d:AH}(h:Gh (k,key,v,b,c,t,p,f,m,d,())=AD):
  key.length<=1000/\b.length<=1000/\t.length<=1000/\C4 v=AD/\p.length<=1000/\f.length<=1000/\C4 m=AD/\Rb (k,key,v,b,c,t,p,f,m,d,())=true:=by
 unfold Gh at h;simp only[A0]at h;obtain⟨⟨e,g,i,j⟩,a⟩:=h;have l:=a;unfold Rb at a;simp only[A0]at a;exact⟨NU e,NU g,NU i,j,NU a.1,NU a.2.1,a.2.2,l⟩
theorem ki{k:AA}{key:L8}{v:AA}{b:L8}{c:AA}{t p f:L8}{m:AA}{a:AH}(h:Gh (k,key,v,b,c,t,p,f,m,a,())=AD):
  wr0 k key v b c t p f m a=ANh (k,key,v,b,c,t,p,f,m,a,()) (Ra (k,key,v,b,c,t,p,f,m,a,())):=by
 obtain⟨A,i,d,j,r,s,u,l⟩:=ot h;have B:=X3 j;have w:(Pu (k,key,v,b,c,t,p,f,m,a,())).length<=4044:=(gm r s u).2;have n:∀(e q:L8),q.length<=100->wr2 (k,key,v,b,c,t,p,f,m,a,()) k key c t b e q=ANh (k,key,v,b,c,t,p,f,m,a,()) (bif k==2 then DP else bif k==3 then DG else e,Qs k key,bif dW k then Pu (k,key,v,b,c,t,p,f,m,a,())else q,Zk c t++R0 b,b,()):=by
  intro e q x;have g:(KZ++key).length<=5000:=by rw[BA];show 3+_<=_;omega
  unfold wr2 Qs dW;cases y:k==2
  ·cases z:k==3
   ·cases C:k==4
    ·cases D:k==5
     ·simp only[yF,zh];exact aE d i (Oe d g (by omega))
     ·simp only[yF,yT,Bool.or_true];rw[BG l,yG];exact aE d i (Oe d (by decide) (by omega))
    ·simp only[yF,yT,Bool.true_or];rw[BG l,yG];exact aE d i (Oe d (by decide) (by omega))
   ·have:k=3:=Be.1 z;subst this;exact aE d i (Oe d g (by omega))
  ·have:k=2:=Be.1 y;subst this;exact aE d i (Oe d g (by omega))
 have o:∀e:L8,wr1 (k,key,v,b,c,t,p,f,m,a,()) k key v c t b e=ANh (k,key,v,b,c,t,p,f,m,a,()) (bif k==2 then DP else bif k==3 then DG else e,Qs k key,Ti (k,key,v,b,c,t,p,f,m,a,()),Zk c t++R0 b,b,()):=by
  intro e;unfold wr1 Ti bne;dsimp only;cases E:v==0
  ·rw[FU,yT,yF,An (show 8+(GE v).length<=1099511627776 by show 8+(Cr v).length<=_;omega),BG (by rw[j];rfl),yG];exact n e _ (by rw[BA];show 8+(Cr v).length<=_;omega)
  ·rw[GG,yF,yT];exact n e [] (Cx _)
 unfold wr0;rw[An (by omega),yG,o,o];unfold Ra Vt;dsimp only;cases a<;>rfl
end Nice
namespace Go.Proofs.YtkgejlchafionaaGreatDoor
open Tryz
open Nice
theorem u4:PC 49 dY:=(Ap (Ac (l:=[(50,Zm),(91,Zn)]) ⟨oi,ACf,A3⟩) Al func49 (by kernel_rfl) (by decide)).nice λ⟨⟨k,key,v,b,c,t,p,f,m,d,()⟩,()⟩ h=>by
 have a:Rb (k,key,v,b,c,t,p,f,m,d,())=true:=h;unfold Rb at a;simp only[A0]at a;show oj _=_;rw[ACh,uz (NU a.1) (NU a.2.1) a.2.2];rfl
theorem kj:PC 28 Tj:=(Ap (Ac (l:=[(51,ofS),(48,ABV),(49,dY),(50,Zm)]) ⟨ACe,AGv,u4,oi,A3⟩) Al func28 (by kernel_rfl) (by decide)).nice λ⟨⟨k,key,v,b,c,t,p,f,m,a,()⟩,()⟩ h=>by
 show aD _=_;rw[om,ki h];rfl
theorem ACj:PC 12 AOG:=(Ap (Ac (l:=[(28,Tj)]) ⟨kj,A3⟩) Al func12 (by kernel_rfl) (by decide)).nice λ⟨⟨k,key,v,b,c,t,p,f,m,a,()⟩,()⟩ h=>by
 have h:Gh (k,key,v,b,c,t,p,f,m,a,())=true:=h;show xi _=_;rw[AGy,BG h,BG h,yG,yG];show _=AC ((HV _).2,());cases(HV (k,key,v,b,c,t,p,f,m,a,())).2<;>rfl
end Go.Proofs.YtkgejlchafionaaGreatDoor
namespace Go.Eng
open Go
theorem Bs(b:AB)(e:AQ)(fr:AB×AB):∀(vs:AE AJ) (o:AB) (c:Aa AJ) (w:AN),w.heap[b]?=AC (.cells c e fr)->
  w.setCells b o vs={ w with heap:=w.heap.setIfInBounds b (.cells (Cp c o vs) e fr)}
 |[],o,c,w,h=>by
  have:w.heap.setIfInBounds b (.cells c e fr)=w.heap:=by
   apply PH;intro j;rw[Uv]
   split
   ·rename_i d;subst d
    split
    ·exact h.symm
    ·rename_i g;rw[Array.getElem?_eq_none (by omega)]
   ·rfl
  rw[Cp,this];rfl
 |v::vs,o,c,w,h=>by
  have f:=BX h;have a:w.setCell ⟨b,o,AF⟩ v={ w with heap:=w.heap.setIfInBounds b (.cells (c.setIfInBounds o v) e fr)}:=by
   simp only[World.setCell];congr 1;apply PH;intro j;rw[Array.getElem?_modify,Uv]
   split
   ·rename_i d;subst d
    first|(rw[h];rfl)|simp[h,f]
   ·rfl
  show(w.setCell ⟨b,o,AF⟩ v).setCells b (o+1) vs=_;rw[a,Bs b e fr vs (o+1) (c.setIfInBounds o v) _ (by simp[f])];simp only[Cp,Array.setIfInBounds_setIfInBounds]
theorem F8(b:AB)(vs:AE AJ)(o:AB)(w:AN)(h:∀j,j<vs.length->(w.cell? ⟨b,o+j,AF⟩).isSome=AD)(k:AB)(a:(w.cell? ⟨b,k,AF⟩).isSome=AD):((w.setCells b o vs).cell? ⟨b,k,AF⟩).isSome=true:=by
 by_cases c:o<=k/\k<o+vs.length
 ·have:=World.cell?_setCells_in b vs o w h (k-o) (by omega);rw[show o+(k-o)=k by omega]at this;rw[this];cases vs[k-o]? with
  |none=>rfl
  |some v=>rfl
 ·rw[b0 b vs o w ⟨b,k,AF⟩ (λ_ _=>by show k<o\/o+vs.length<=k;omega)];exact a
theorem E1{P:Ao}(w:AN)(m q ty c:AQ)(k b o d f:AB)(a:EG)(sLen g:AB)(e:AE AJ)(r:P.underlying m=AC (.slice c))(n:(P.info? c).map (·.size)=AC k)(s:e.length=Gb sLen d*k)(h:∀j v,e[j]?=AC v->w.cell? (a.add j)=AC v)(t:∀j,j<e.length->(w.cell? ⟨b,o+j,AF⟩).isSome=AD)(u:∀j,j<e.length->w.frozen? ⟨b,o+j,AF⟩=AK)(x:∀v∈e,v.oneCell'=AD):
  (Hv #[m,q] ty #[.slice (AC ⟨b,o,AF⟩) d f,.slice (AC a) sLen g]).run P w=.ok (Eb (Gb sLen d)) (w.setCells b o e):=by
 have p:=run_loadCells_list (P:=P) w a e h;have hst:=zl (P:=P) b o e 0 w (by simpa using t) (by simpa using u) x;cases l:P.info? c with
 |none=>simp[l]at n
 |some i=>
  have y:i.size=k:=by simpa[l]using n
  rw[s]at p;simp[Hv,PJ r,Builtin.lenOf,GZ,Wj,typeInfo,l,y,p,hst]
theorem Iu{P:Ao}{ops:Aa Oper}{o:Oper}{a:Act}{w:AN}{K:Act->AN->Prop}{Q:Exit->Act->AN->Prop}{E:Prop}(f:o.guard=AF)(d x:Operand)(c e:AQ)(b:o.op=Op.call { callee:=Callee.builtin Builtin.copy,args:=#[d,x],argTypes:=#[c,e]})(v u:AJ)(hd:a.eval d=v)(g:a.eval x=u){v':AJ}{w':AN}(h:(Hv #[c,e] o.type #[v,u]).run P w=.ok v' w')(i:K (a.put o.dst v') w'):
  if Wb o (yielded ops a.tmps)=AD then bS P o a w K Q else E:=by
 have j:Wb o (yielded ops a.tmps)=true:=by simp[Wb,f]
 rw[if_pos j];unfold bS;simp[execOp,b,Go.resolve,Go.invoke,Go.builtin,hd,g,h,Result.andThen];exact i
theorem WE{P:Ao}(w:AN)(tS x e:AQ)(s:P.underlying tS=AC (.slice e))(size:AB)(u:∀w,(Wj e).run P w=.ok size w)(a b:EG)(h y i z:AB)(c:a.block≠b.block)(A B:AQ)(d f:AB)(j:w.shape? a.block=AC (A,d))(k:d≠0)(l:w.shape? b.block=AC (B,f))(m:f≠0)(n:w.frozen? b=AK)(o:w.frozen? { block:=b.block,off:=f}=AK):
  (sG #[tS,tS] #[x] #[.slice (AC a) h y,.slice (AC b) i z]).run P w=.ok (.bool AK) w:=by
 have p:(a.block !=b.block)=true:=by simpa using c
 have g:(a.block==b.block)=false:=by simpa using c
 change My P (α:=AJ) (do
  let AC t:=(#[tS,tS]:Aa AQ)[0]?|stuck "slices.overlaps: no parameter types"
  let .slice elem<-underlying t|stuck "slices.overlaps: slice type expected"
  let size<-Wj elem
  match(AC a:AP EG),(AC b:AP EG)with
  |some a,AC b=>
   if h=0\/i=0\/size=0 then pure (iv AK)
   else if a.block !=b.block&&(<-frozen a)&&(<-frozen b)then unsupported .addressObserved
   else do
    if a.block !=b.block then do
     noView a;noView b
     if <-mayBeOne a b then return iv ((<-choose (.extern "sameAddr.stringBytes" 2))==1)
    pure (iv (a.block==b.block&&a.off<b.off+i*size&&b.off<a.off+h*size))
  |_,_=>pure (iv AK)) w=_
 by_cases v:h=0\/i=0\/size=0
 ·simp[PJ s,u,v]
 ·cases d with
  |zero=>exact Aq rfl k
  |succ d=>
   cases f with
   |zero=>exact Aq rfl m
   |succ f=>
    cases q:w.frozen? a<;>cases r:w.frozen? { block:=a.block,off:=d+1}<;>
     simp[PJ s,u,v,p,g,frozen,noView,viewAt,mayBeOne,stringish,shape,My,j,l,n,o,q,r]
open Go
theorem Lo{P:Ao}(w:AN)(t e ty:AQ)(z:AJ)(k:AB)(g:P.underlying t=AC (.slice e))(a:∀w,(Uh e).run P w=.ok z w)(l:z.cells.size=k)(m:∀v∈z.cells,v.oneCell'=AD)(b o n c:AB)(p:∀j,j<n*k->(w.cell? ⟨b,o+j,AF⟩).isSome=AD)(q:∀j,j<n*k->w.frozen? ⟨b,o+j,AF⟩=AK)(x:0<n):
  (iu #[t] ty #[.slice (AC ⟨b,o,AF⟩) n c]).run P w=.ok (.tuple #[]) (w.setCells b o (Ch z.cells n).toList):=by
 have f:(Ch z.cells n).toList.length=n*k:=by rw[Array.length_toList,BC,l]
 have r:∀v∈(Ch z.cells n).toList,v.oneCell'=true:=λv a=>by
  simp only[Ch,Array.mem_toList_iff]at a;simp at a;obtain⟨i,s,rfl⟩:=a;have u:0<z.cells.size:=by
   rcases Nat.eq_zero_or_pos z.cells.size with h|h
   ·rw[h,Nat.mul_zero]at s;omega
   ·exact h
  have d:=Nat.mod_lt i u;rw[getElem!_pos z.cells _ d];exact m _ (Array.getElem_mem d)
 have hst:=zl (P:=P) b o (Ch z.cells n).toList 0 w (by rw[f];simpa using p) (by rw[f];simpa using q) r;cases n with
 |zero=>omega
 |succ n=>simp[iu,PJ g,a,hst]
end Go.Eng
namespace Go.Proofs.YtkgejlchafionaaGreatDoor
open Tryz
open Go.RowKit Go.Shelf Go.Lib
set_option maxHeartbeats 4000000
theorem ou(b off n c i:AB)(vs:AE AJ)(w:AN)(B:vs.length=n*3)(C:∀v,v∈vs->v.oneCell'=AD)(s:∀k v,vs[k]?=AC v->w.cell? ⟨b,off+k,AF⟩=AC v)(t:∀k,k<n*3->w.frozen? ⟨b,off+k,AF⟩=AK)(E:n<=c)(P:i+1<=n)(Q:n<=1099511627776):
  BU prog 197 #[.slice (AC ⟨b,off,AF⟩) n c,.int .i64 i,.int .i64 ((i:AA)+1)] w λe w'=>e=.returned (.slice (AC ⟨b,off,AF⟩) (n-1) c)/\
   ∃q,w'=((w.drewN q).setCells b (off+i*3) (vs.drop ((i+1)*3))).setCells b (off+(n-1)*3) (Ch #[.int .i64 0,.bool AK,.string ⟨#[]⟩] 1).toList:=by
 obtain⟨i0,x,F,y⟩:∃i0:EF,Tryz.prog.info? 72=AC i0/\i0.zero=AC (.agg #[.int .i64 0,.bool AK,.string ⟨#[]⟩])/\i0.size=3:=⟨Tryz.t72,by kernel_rfl,by kernel_rfl,by kernel_rfl⟩
 have v3:∀w,(Uh 72).run prog w=.ok (.agg #[.int .i64 0,.bool AK,.string ⟨#[]⟩]) w:=zeroValue72;have t22:Tryz.prog.underlying 66=AC (.slice 72):=underlying66;have j:(vs.drop ((i+1)*3)).length=(n-(i+1))*3:=by rw[CC,B];omega
 obtain⟨A,R,d⟩:∃A:EG,(if c=i+1 then AC (⟨b,off,AF⟩:EG)else AC ⟨b,off+(i+1)*3,AF⟩)=AC A/\∀k u,(vs.drop ((i+1)*3))[k]?=AC u->w.drew.cell? (A.add k)=AC u:=by
  by_cases h:c=i+1
  ·refine⟨⟨b,off,AF⟩,by simp[h],λk u l=> ?_⟩;have G:(vs.drop ((i+1)*3)).length=0:=by rw[j];omega
   rw[Gu.1 G]at l;cases l
  ·refine⟨⟨b,off+(i+1)*3,AF⟩,by simp[h],λk u l=> ?_⟩;rw[Ge,Dg];exact s ((i+1)*3+k) u (by rwa[CA]at l)
 have a:∀k,k<n*3->(w.cell? ⟨b,off+k,AF⟩).isSome=true:=λk r=>by
  rw[s k _ (B4 (by omega))];rfl
 obtain⟨W1,f⟩:∃W1,W1=w.drew.setCells b (off+i*3) (vs.drop ((i+1)*3)):=⟨_,rfl⟩
 have z:∀ty,(iu #[66] ty #[.slice (AC ⟨b,off+(i+(n-(i+1)))*3,AF⟩) (n-(i+(n-(i+1)))) (c-(i+(n-(i+1))))]).run prog W1=.ok (.tuple #[]) (W1.setCells b (off+(i+(n-(i+1)))*3) (Ch #[.int .i64 0,.bool AK,.string ⟨#[]⟩] (n-(i+(n-(i+1))))).toList):=
  λty=>Lo W1 66 72 ty _ 3 t22 v3 rfl (by intro v g;simp[zp]at g;first|(subst g;rfl)|(rcases g with rfl|g<;>first|rfl|(subst g;rfl)|(rcases g with rfl|g<;>first|rfl|(subst g;rfl)))) b (off+(i+(n-(i+1)))*3) _ _ (λk r=>by
   rw[f,Dg];exact F8 b _ _ _ (λq S=>by rw[Dg];exact a _ (by omega)) _ (a _ (by omega))) (λk r=>by rw[f,Ww,Dg];exact t _ (by omega)) (by omega)
 have m:Hid ((vs.drop ((i+1)*3)).length=(n-(i+1))*3):=j;have o:Hid (∀u∈vs.drop ((i+1)*3),u.oneCell'=AD):=λu l=>C u (M6 l)
 have p:Hid (∀k,k<(vs.drop ((i+1)*3)).length->(w.drew.cell? ⟨b,off+i*3+k,AF⟩).isSome=AD/\w.drew.frozen? ⟨b,off+i*3+k,AF⟩=AK):=λk r=>by
  rw[j]at r;rw[Dg];exact⟨a _ (by omega),t _ (by omega)⟩
 have d:Hid (∀k u,(vs.drop ((i+1)*3))[k]?=AC u->w.drew.cell? (A.add k)=AC u):=d;have D:Hid (W1=w.drew.setCells b (off+i*3) (vs.drop ((i+1)*3))):=f;have mixed:Tryz.prog.follows .mixedOrders=true:=by kernel_rfl
 have H:i<=c:=by omega
 have I:i+1<=c:=by omega
 have J:i<=n:=by omega
 have K:((i:AA)+1).toNat=i+1:=by omega
 have L:(0:AA)<=(i:AA)+1:=by omega
 have M:(i:AA)+1<=(n:AA):=by omega
 have N:(i:AA)<=(i:AA)+1:=by omega
 have O:¬((i:AA)=(i:AA)+1):=by omega
 clear f s t a C B
 go_enter func197,ntmps197
 go_wp2_with fail
 go_region_law_o (refine zm rfl (.tmp 22) (.tmp 25) 66 rfl 72 i0 3 t22 x y b off i c (by simp[Ky,Hs]) A (n-(i+1)) (c-(i+1)) (vs.drop ((i+1)*3)) (by simp[Ky,Hs]) m.out d.out o.out (by omega) p.out ?_;rw[<-D.out])
 go_wp2_with (at_builtin;refine wpList_clear_k _ rfl _ _ rfl _ rfl (z _) ?_)
 go_ret
 refine⟨by rw[show n-1=i+(n-(i+1)) by omega];rfl,1,?_⟩;rw[D.out,show n-(i+(n-(i+1)))=1 by omega,show n-1=i+(n-(i+1)) by omega];rfl
open Go.RowKit Go.Shelf Go.Lib
set_option maxHeartbeats 4000000
theorem ANj(b off n c i f a vc:AB)(g vs:AE AJ)(w:AN)(hi:i<n)(A:n+1<=c)(T:n<=1000000000)(s:f≠b)(B:g.length=n*2)(C:vs.length=2)(D:∀j v,g[j]?=AC v->w.cell? ⟨b,off+j,AF⟩=AC v)(o:∀j,j<(n+1)*2->(w.cell? ⟨b,off+j,AF⟩).isSome=AD)(p:∀j,j<(n+1)*2->w.frozen? ⟨b,off+j,AF⟩=AK)(E:∀j v,vs[j]?=AC v->w.cell? ⟨f,a+j,AF⟩=AC v)(F:∀v∈g,v.oneCell'=AD)(G:∀v∈vs,v.oneCell'=AD)(U V:AQ)(H z:AB)(I:w.shape? f=AC (U,H))(J:H≠0)(K:w.shape? b=AC (V,z))(L:z≠0)(M:w.frozen? ⟨b,z,AF⟩=AK):
  BU prog 110 #[.slice (AC ⟨b,off,AF⟩) n c,.int .i64 i,.slice (AC ⟨f,a,AF⟩) 1 vc] w λe w'=>
   e=.returned (.slice (AC ⟨b,off,AF⟩) (n+1) c)/\∃q,w'=((w.drewN q).setCells b (off+(i+1)*2) (g.drop (i*2))).setCells b (off+i*2) vs:=by
 have X:¬((i:AA)=(n:AA)):=by omega
 have t:(Tryz.prog.info? 68).map (·.size)=AC 2:=by kernel_rfl
 have tS:Tryz.prog.underlying 24=AC (.slice 68):=underlying24;have N:∀O P,(FO 157 #[.slice (AC ⟨f,a,AF⟩) 1 vc,.slice (AC ⟨b,off+(i+1)*2,AF⟩) O P]).run prog w=.ok (.value (.bool AK)) w:=λO P=>by
  rw[MK func157 (by kernel_rfl) (by kernel_rfl) (by kernel_rfl) (e:=sG #[24,24] #[4]) (by kernel_rfl),
   WE w 24 4 68 tS 2 sizeOf68 ⟨f,a,AF⟩ ⟨b,off+(i+1)*2,AF⟩ 1 vc O P s U V H z I J K L (p _ (by omega)) M]
  rfl
 have Q:(g.drop (i*2)).length=(n-i)*2:=by rw[CC,B];omega
 have mixed:Tryz.prog.follows .mixedOrders=true:=by kernel_rfl
 have Y:E7.wrap ((i:AA)+1)=(i:AA)+1:=by rw[Js];omega
 have Z:E7.wrap ((n:AA)+1)=(n:AA)+1:=by rw[Js];omega
 have hb1:(0:AA)<=(i:AA)+1:=by omega
 have hin:i<=n:=by omega
 have htn:((i:AA)+1).toNat=i+1:=by omega
 have htm:((n:AA)+1).toNat=n+1:=by omega
 have hb2:¬(c=i+1):=by omega
 have hb3:(i:AA)<=(n:AA)+1:=by omega
 have hb4:¬(c=i):=by omega
 have hb5:¬((c:AA)<(n:AA)+1):=by omega
 have hb6:(n:AA)+1<=(c:AA):=by omega
 have l:∀ty r R,(Hv #[24,24] ty #[.slice (AC ⟨b,off+(i+1)*2,AF⟩) (n-i) r,.slice (AC ⟨b,off+i*2,AF⟩) (n+1-i) R]).run prog w.drew=.ok (Eb (Gb (n+1-i) (n-i))) (w.drew.setCells b (off+(i+1)*2) (g.drop (i*2))):=λty r R=>
  E1 w.drew _ _ ty 68 2 b (off+(i+1)*2) (n-i) r ⟨b,off+i*2,AF⟩ (n+1-i) R (g.drop (i*2)) tS t (by rw[Q];simp only[RU];split<;>omega)
   (λj v m=>by rw[Ge,Dg];exact D (i*2+j) v (by rwa[CA]at m))
   (λj m=>by rw[Dg];exact o _ (by omega)) (λj m=>by rw[Dg];exact p _ (by omega)) (λv hv=>F v (M6 hv))
 obtain⟨W1,d⟩:∃W1,W1=w.drew.setCells b (off+(i+1)*2) (g.drop (i*2)):=⟨_,rfl⟩
 have bD:∀k,k<(n+1)*2->(W1.cell? ⟨b,off+k,AF⟩).isSome=true:=λk hk=>by
  rw[d];exact F8 b _ _ _ (λj m=>by rw[Dg];exact o _ (by omega)) _ (o k hk)
 have u:∀(W:AN),(∀x,W.cell? x=W1.cell? x)->(∀x,W.frozen? x=W1.frozen? x)->∀ty r,(Hv #[24,24] ty #[.slice (AC ⟨b,off+i*2,AF⟩) (n+1-i) r,.slice (AC ⟨f,a,AF⟩) 1 vc]).run prog W=.ok (Eb (Gb 1 (n+1-i))) (W.setCells b (off+i*2) vs):=λW y S ty r=>
  E1 W _ _ ty 68 2 b (off+i*2) (n+1-i) r ⟨f,a,AF⟩ 1 vc vs tS t (by rw[C];simp only[RU];split<;>omega)
   (λj v m=>by
    rw[Ge,y,d,b0 b _ _ _ _ (λh _=>Aq h s)];exact E j v m)
   (λj m=>by rw[y,Dg];exact bD _ (by omega)) (λj m=>by rw[S,d,Ww,Dg];exact p _ (by omega)) G
 rw[<-d]at l
 go_enter func110,ntmps110
 go_wp2_with (simp only[N])
 go_region_law_o (refine Iu rfl _ _ 24 24 rfl _ _ (by simp[Ky,Hs]) (by simp[Ky,Hs]) (l _ _ _) ?_)
 go_wp2_with (at_builtin;refine wpList_copy_k _ rfl _ _ 24 24 rfl _ _ rfl rfl (u _ (λ_=>rfl) (λ_=>rfl) _ _) ?_)
 go_ret
 exact⟨rfl,1,rfl⟩
theorem X4(b off n c i a vc:AB)(vs:AE AJ)(w:AN)(g:n+1<=c)(k:vs.length=2)(m:∀j,j<2->(w.cell? ⟨b,off+n*2+j,AF⟩).isSome=AD)(o:∀j,j<2->w.frozen? ⟨b,off+n*2+j,AF⟩=AK)(p:∀j v,vs[j]?=AC v->w.cell? ⟨i,a+j,AF⟩=AC v)(q:∀v∈vs,v.oneCell'=AD):
  BU prog 110 #[.slice (AC ⟨b,off,AF⟩) n c,.int .i64 n,.slice (AC ⟨i,a,AF⟩) 1 vc] w λe w'=>
   e=.returned (.slice (AC ⟨b,off,AF⟩) (n+1) c)/\w'=w.setCells b (off+n*2) vs:=by
 have mixed:Tryz.prog.follows .mixedOrders=true:=by kernel_rfl
 have tS:Tryz.prog.underlying 24=AC (.slice 68):=underlying24;obtain⟨i0,r,d⟩:∃i0:EF,Tryz.prog.info? 68=AC i0/\i0.size=2:=⟨Tryz.t68,by kernel_rfl,by kernel_rfl⟩
 have f:Src prog i0.size 24 (.slice (AC ⟨i,a,AF⟩) 1 vc) 1 vs w:=RT w tS ⟨i,a,AF⟩ 1 vc vs (by rw[d];omega) (λj u s=>by rw[Ge];exact p j u s) q;have l:∀ty,(Eo #[24,24] ty #[.slice (AC ⟨b,off,AF⟩) n c,.slice (AC ⟨i,a,AF⟩) 1 vc]).run prog w=.ok (.slice (AC ⟨b,off,AF⟩) (n+1) c) (w.setCells b (off+n*2) vs):=λty=>by
  have h:=Wv (P:=prog) (w:=w) 24 24 ty 68 i0 tS r b off n c _ 1 vs f g (by rw[k,d];exact m) (by rw[k,d];exact o);rw[d]at h;exact h
 clear f
 go_enter func110,ntmps110
 go_wp2_with (at_builtin;refine Kz _ rfl _ _ _ _ rfl _ _ rfl rfl _ _ (l _) ?_)
 go_ret
 exact⟨rfl,rfl⟩
theorem Of(base:AP EG)(n c l b vc:AB)(f vs:AE AJ)(w:AN)(A:n<=c)(d:c<n+1)(z:(n+1)*64<=140737488355328)(B:f.length=n*2)(C:vs.length=2)(g:base=AF->n=0)(o:∀a,base=AC a->∀j v,f[j]?=AC v->w.cell? (a.add j)=AC v)(p:∀j v,vs[j]?=AC v->w.cell? ⟨l,b+j,AF⟩=AC v)(q:∀v∈vs,v.oneCell'=AD):
  BU prog 110 #[.slice base n c,.int .i64 n,.slice (AC ⟨l,b,AF⟩) 1 vc] w λe w'=>
   e=.returned (.slice (AC ⟨w.heap.size,0,AF⟩) (n+1) (Dp w (n+1) c 68))/\
   w'=w.drew.alloc (.cells ((f++vs).toArray++Ch #[.string ⟨#[]⟩,.slice AF 0 0] (Dp w (n+1) c 68-(n+1))) 68):=by
 have mixed:Tryz.prog.follows .mixedOrders=true:=by kernel_rfl
 have tS:Tryz.prog.underlying 24=AC (.slice 68):=underlying24;obtain⟨i0,r,m,s,t⟩:∃i0:EF,Tryz.prog.info? 68=AC i0/\i0.size=2/\i0.zero=AC (.agg #[.string ⟨#[]⟩,.slice AF 0 0])/\i0.bytes=40:=⟨Tryz.t68,by kernel_rfl,by kernel_rfl,by kernel_rfl,by kernel_rfl⟩
 have h:Src prog i0.size 24 (.slice (AC ⟨l,b,AF⟩) 1 vc) 1 vs w:=RT w tS ⟨l,b,AF⟩ 1 vc vs (by rw[m];omega) (λj u x=>by rw[Ge];exact p j u x) q;have i:(GZ i0.size n (.slice base n c)).run prog w.drew=.ok f.toArray w.drew:=by
  rw[m];cases base with
  |none=>
   have y:=g rfl;subst y;rw[Gu.1 (by omega:f.length=0)];exact zk w.drew 2 0 0 c
  |some a=>exact ir w.drew 2 n a n c f (by omega) (λj v x=>o a rfl j v x)
 have k:∀ty,(Eo #[24,24] ty #[.slice base n c,.slice (AC ⟨l,b,AF⟩) 1 vc]).run prog w=.ok (.slice (AC ⟨w.heap.size,0,AF⟩) (n+1) (Dp w (n+1) c 68)) (w.drew.alloc (.cells ((f++vs).toArray++Ch #[.string ⟨#[]⟩,.slice AF 0 0] (Dp w (n+1) c 68-(n+1))) 68)):=λty=>
  zj w 24 24 ty 68 i0 _ tS r s base n c f i _ 1 vs h d (by omega) (by rw[t];exact ANw d (by omega))
 clear h i
 go_enter func110,ntmps110
 cases base with
 |none=>
  have y:=g rfl;subst y
  go_wp2_with (at_builtin;refine Kz _ rfl _ _ _ _ rfl _ _ rfl rfl _ _ (k _) ?_)
  go_ret
  exact⟨rfl,rfl⟩
 |some a=>
  obtain⟨E,F,D⟩:=a
  go_wp2_with (at_builtin;refine Kz _ rfl _ _ _ _ rfl _ _ rfl rfl _ _ (k _) ?_)
  all_goals (go_ret;exact⟨rfl,rfl⟩)
open Go.RowKit Go.Shelf Go.Lib
set_option maxHeartbeats 4000000
theorem kl(b off n c i o a vc:AB)(d vs:AE AJ)(w:AN)(hi:i<n)(hnc:n<=c)(r:c<n+1)(hbig:(n+1)*64<=140737488355328)(H:d.length=n*2)(I:vs.length=2)(J:b<w.heap.size)(K:o<w.heap.size)(z:∀j v,d[j]?=AC v->w.cell? ⟨b,off+j,AF⟩=AC v)(L:∀j v,vs[j]?=AC v->w.cell? ⟨o,a+j,AF⟩=AC v)(M:∀v∈d,v.oneCell'=AD)(N:∀v∈vs,v.oneCell'=AD):
  BU prog 110 #[.slice (AC ⟨b,off,AF⟩) n c,.int .i64 i,.slice (AC ⟨o,a,AF⟩) 1 vc] w λe w'=>
   e=.returned (.slice (AC ⟨w.heap.size,0,AF⟩) (n+1) (Dp w (n+1) c 68))/\
   w'=(((w.alloc (.cells ((d.take (i*2)).toArray++Ch #[.string ⟨#[]⟩,.slice AF 0 0] (n+1-i)++Ch #[.string ⟨#[]⟩,.slice AF 0 0] (Dp w (n+1) c 68-(n+1))) 68)).drew.setCells w.heap.size (i*2) vs).drew).setCells w.heap.size ((i+1)*2) (d.drop (i*2)):=by
 have mixed:Tryz.prog.follows .mixedOrders=true:=by kernel_rfl
 have tS:Tryz.prog.underlying 24=AC (.slice 68):=underlying24;obtain⟨i0,O,P,Q,A⟩:∃i0:EF,Tryz.prog.info? 68=AC i0/\i0.size=2/\i0.zero=AC (.agg #[.string ⟨#[]⟩,.slice AF 0 0])/\i0.bytes=40:=⟨Tryz.t68,by kernel_rfl,by kernel_rfl,by kernel_rfl,by kernel_rfl⟩
 have hz2:¬((i:AA)=(n:AA)):=by omega
 have hz3:(c:AA)<(n:AA)+1:=by omega
 have B:(Tryz.prog.info? 68).map (·.size)=AC 2:=by kernel_rfl
 have C:(n:AA)+1-(i:AA)=((n+1-i:AB):AA):=by omega
 have s:i+(n+1-i)=n+1:=by omega
 have p:(GZ i0.size i (.slice (AC ⟨b,off,AF⟩) i c)).run prog w.drew=.ok (d.take (i*2)).toArray w.drew:=by
  rw[P];exact ir w.drew 2 i ⟨b,off,AF⟩ i c (d.take (i*2)) (by rw[Bw];omega) (λj v f=>by
   rw[Ge];rw[CB]at f
   split at f
   ·exact z j v f
   ·cases f)
 have m:∀ty,(Eo #[24,3] ty #[.slice (AC ⟨b,off,AF⟩) i c,.int .i64 ((n:AA)+1-(i:AA))]).run prog w=
   .ok (.slice (AC ⟨w.heap.size,0,AF⟩) (n+1) (Dp w (n+1) c 68)) (w.drew.alloc (.cells ((d.take (i*2)).toArray++Ch #[.string ⟨#[]⟩,.slice AF 0 0] (n+1-i)++Ch #[.string ⟨#[]⟩,.slice AF 0 0] (Dp w (n+1) c 68-(n+1))) 68)):=λty=>by
  have h:=zn w 24 3 ty 68 i0 _ .i64 .i64 tS underlying3 O Q (AC ⟨b,off,AF⟩) i c (d.take (i*2)) p (n+1-i) (by omega) (by omega) (by omega) (by omega) (by rw[A];omega) (by rw[A,s];exact ANw r (by omega));rw[s]at h;rw[C];exact h
 obtain⟨G,F⟩:∃G,G=Dp w (n+1) c 68:=⟨_,rfl⟩
 obtain⟨ROW,k⟩:∃ROW:Aa AJ,ROW=(d.take (i*2)).toArray++Ch #[.string ⟨#[]⟩,.slice AF 0 0] (n+1-i)++Ch #[.string ⟨#[]⟩,.slice AF 0 0] (G-(n+1)):=⟨_,rfl⟩
 rw[<-F]at m⊢;rw[<-k]at m⊢;have R:(n+1)*2<=ROW.size:=by
  rw[k];have e1:=BC #[.string ⟨#[]⟩,.slice AF 0 0] (n+1-i);have e2:(#[.string ⟨#[]⟩,.slice AF 0 0]:Aa AJ).size=2:=rfl;rw[e2]at e1;rw[ANM,ANM,e1,Hx,Bw];omega
 obtain⟨W1,g⟩:∃W1,W1=w.drew.alloc (.cells ROW 68):=⟨_,rfl⟩
 rw[<-g]at m;have hN:∀j,j<(n+1)*2->(W1.cell? ⟨w.heap.size,j,AF⟩).isSome=true:=λj f=>by
  rw[g,zq (w:=w.drew) ROW _ w.heap.size j rfl,CX (by omega)];rfl
 have D:∀j,W1.frozen? ⟨w.heap.size,j,AF⟩=false:=λj=>by rw[g];exact zr (w:=w.drew) ROW _ w.heap.size j rfl
 have S:∀j v,w.cell? ⟨b,j,AF⟩=AC v->W1.cell? ⟨b,j,AF⟩=AC v:=λj v h=>by rw[g,iw (w:=w.drew) _ b j J];exact h
 have T:∀j v,w.cell? ⟨o,j,AF⟩=AC v->W1.cell? ⟨o,j,AF⟩=AC v:=λj v h=>by rw[g,iw (w:=w.drew) _ o j K];exact h
 have E:∀(W:AN),(∀x,W.cell? x=W1.cell? x)->(∀x,W.frozen? x=W1.frozen? x)->∀ty u,(Hv #[24,24] ty #[.slice (AC ⟨w.heap.size,i*2,AF⟩) (n+1-i) u,.slice (AC ⟨o,a,AF⟩) 1 vc]).run prog W=.ok (Eb (Gb 1 (n+1-i))) (W.setCells w.heap.size (i*2) vs):=λW l y ty u=>
  E1 W _ _ ty 68 2 w.heap.size (i*2) (n+1-i) u ⟨o,a,AF⟩ 1 vc vs tS B (by rw[I];simp only[RU];split<;>omega)
   (λj v f=>by rw[Ge,l];exact T _ v (L j v f))
   (λj f=>by rw[l];exact hN _ (by omega)) (λj f=>by rw[y];exact D _) N
 have hGn:n+1<=G:=by rw[F];exact ML w _ _ _
 have hG63:G<=9223372036854775807:=by
  have:=zi w (n+1) c 68 (by unfold iq;omega);rw[<-F]at this;unfold iq at this;omega
 have hGi:¬(G=i):=by omega
 have hGim:¬(G=i+1):=by omega
 have hci:¬(c=i):=by omega
 have U:b≠w.heap.size:=by omega
 have V:(d.drop (i*2)).length=(n-i)*2:=by rw[CC,H];omega
 have q:∀(W:AN),(∀x,W.cell? x=(W1.setCells w.heap.size (i*2) vs).cell? x)->(∀x,W.frozen? x=(W1.setCells w.heap.size (i*2) vs).frozen? x)->∀ty u X,(Hv #[24,24] ty #[.slice (AC ⟨w.heap.size,(i+1)*2,AF⟩) (n-i) u,.slice (AC ⟨b,off+i*2,AF⟩) (n-i) X]).run prog W=.ok (Eb (Gb (n-i) (n-i))) (W.setCells w.heap.size ((i+1)*2) (d.drop (i*2))):=λW l y ty u X=>
  E1 W _ _ ty 68 2 w.heap.size ((i+1)*2) (n-i) u ⟨b,off+i*2,AF⟩ (n-i) X (d.drop (i*2)) tS B (by rw[V];simp only[RU];split<;>omega)
   (λj v f=>by
    rw[Ge,l,b0 _ _ _ _ _ (λh _=>Aq h U),Dg];exact S _ v (z (i*2+j) v (by rwa[CA]at f)))
   (λj f=>by rw[l];exact F8 _ _ _ _ (λt ht=>hN _ (by omega)) _ (hN _ (by omega)))
   (λj f=>by rw[y,Ww];exact D _) (λv hv=>M v (M6 hv))
 subst g;have Y:∀x,((w.alloc (.cells ROW 68)).drew).cell? x=(w.drew.alloc (.cells ROW 68)).cell? x:=λx=>rfl
 have Z:∀x,((w.alloc (.cells ROW 68)).drew).frozen? x=(w.drew.alloc (.cells ROW 68)).frozen? x:=λx=>rfl
 have hF1:∀x,(((w.alloc (.cells ROW 68)).drew.setCells w.heap.size (i*2) vs).drew).cell? x=((w.drew.alloc (.cells ROW 68)).setCells w.heap.size (i*2) vs).cell? x:=λx=>rfl
 have hF2:∀x,(((w.alloc (.cells ROW 68)).drew.setCells w.heap.size (i*2) vs).drew).frozen? x=((w.drew.alloc (.cells ROW 68)).setCells w.heap.size (i*2) vs).frozen? x:=λx=>rfl
 have hw1:E7.wrap ((i:AA)+1)=(i:AA)+1:=by rw[Js];omega
 have hw2:E7.wrap ((n:AA)+1)=(n:AA)+1:=by rw[Js];omega
 have hw3:E7.wrap ((n:AA)+1-(i:AA))=(n:AA)+1-(i:AA):=by rw[Js];omega
 have hb1:(0:AA)<=(i:AA)+1:=by omega
 have hin:i<=n:=by omega
 have htn:((i:AA)+1).toNat=i+1:=by omega
 have hb3:(i:AA)<=(n:AA):=by omega
 have hbc:(i:AA)<=(c:AA):=by omega
 clear C s p k F R
 go_enter func110,ntmps110
 go_wp2_with (first
  |(at_builtin;refine Kz _ rfl _ _ _ _ rfl _ _ rfl rfl _ _ (m _) ?_)
  |(at_builtin;refine wpList_copy_k _ rfl _ _ 24 24 rfl _ _ rfl rfl (E _ Y Z _ _) ?_)
  |(at_builtin;refine wpList_copy_k _ rfl _ _ 24 24 rfl _ _ rfl rfl (q _ (λ_=>rfl) (λ_=>rfl) _ _ _) ?_))
 go_region_law_o (refine Iu rfl _ _ 24 24 rfl (.slice (AC ⟨w.heap.size,(i+1)*2,AF⟩) (n-i) (G-(i+1))) (.slice (AC ⟨b,off+i*2,AF⟩) (n-i) (c-i)) (by simp[Ky,Hs]) (by simp[Ky,Hs]) (q _ hF1 hF2 3 (G-(i+1)) (c-i)) ?_)
 go_wp2
 go_ret
 exact⟨rfl,rfl⟩
open Go.RowKit Go.Shelf Go.Lib
set_option maxHeartbeats 4000000
theorem ov(b off n c i:AB)(vs:AE AJ)(w:AN)(B:vs.length=n*2)(C:∀v,v∈vs->v.oneCell'=AD)(s:∀k v,vs[k]?=AC v->w.cell? ⟨b,off+k,AF⟩=AC v)(t:∀k,k<n*2->w.frozen? ⟨b,off+k,AF⟩=AK)(E:n<=c)(P:i+1<=n)(Q:n<=1099511627776):
  BU prog 155 #[.slice (AC ⟨b,off,AF⟩) n c,.int .i64 i,.int .i64 ((i:AA)+1)] w λe w'=>e=.returned (.slice (AC ⟨b,off,AF⟩) (n-1) c)/\
   ∃q,w'=((w.drewN q).setCells b (off+i*2) (vs.drop ((i+1)*2))).setCells b (off+(n-1)*2) (Ch #[.string ⟨#[]⟩,.slice AF 0 0] 1).toList:=by
 obtain⟨i0,x,F,y⟩:∃i0:EF,Tryz.prog.info? 68=AC i0/\i0.zero=AC (.agg #[.string ⟨#[]⟩,.slice AF 0 0])/\i0.size=2:=⟨Tryz.t68,by kernel_rfl,by kernel_rfl,by kernel_rfl⟩
 have v3:∀w,(Uh 68).run prog w=.ok (.agg #[.string ⟨#[]⟩,.slice AF 0 0]) w:=zeroValue68;have t22:Tryz.prog.underlying 24=AC (.slice 68):=underlying24;have j:(vs.drop ((i+1)*2)).length=(n-(i+1))*2:=by rw[CC,B];omega
 obtain⟨A,R,d⟩:∃A:EG,(if c=i+1 then AC (⟨b,off,AF⟩:EG)else AC ⟨b,off+(i+1)*2,AF⟩)=AC A/\∀k u,(vs.drop ((i+1)*2))[k]?=AC u->w.drew.cell? (A.add k)=AC u:=by
  by_cases h:c=i+1
  ·refine⟨⟨b,off,AF⟩,by simp[h],λk u l=> ?_⟩;have G:(vs.drop ((i+1)*2)).length=0:=by rw[j];omega
   rw[Gu.1 G]at l;cases l
  ·refine⟨⟨b,off+(i+1)*2,AF⟩,by simp[h],λk u l=> ?_⟩;rw[Ge,Dg];exact s ((i+1)*2+k) u (by rwa[CA]at l)
 have a:∀k,k<n*2->(w.cell? ⟨b,off+k,AF⟩).isSome=true:=λk r=>by
  rw[s k _ (B4 (by omega))];rfl
 obtain⟨W1,f⟩:∃W1,W1=w.drew.setCells b (off+i*2) (vs.drop ((i+1)*2)):=⟨_,rfl⟩
 have z:∀ty,(iu #[24] ty #[.slice (AC ⟨b,off+(i+(n-(i+1)))*2,AF⟩) (n-(i+(n-(i+1)))) (c-(i+(n-(i+1))))]).run prog W1=.ok (.tuple #[]) (W1.setCells b (off+(i+(n-(i+1)))*2) (Ch #[.string ⟨#[]⟩,.slice AF 0 0] (n-(i+(n-(i+1))))).toList):=
  λty=>Lo W1 24 68 ty _ 2 t22 v3 rfl (by intro v g;simp[zp]at g;first|(subst g;rfl)|(rcases g with rfl|g<;>first|rfl|(subst g;rfl)|(rcases g with rfl|g<;>first|rfl|(subst g;rfl)))) b (off+(i+(n-(i+1)))*2) _ _ (λk r=>by
   rw[f,Dg];exact F8 b _ _ _ (λq S=>by rw[Dg];exact a _ (by omega)) _ (a _ (by omega))) (λk r=>by rw[f,Ww,Dg];exact t _ (by omega)) (by omega)
 have m:Hid ((vs.drop ((i+1)*2)).length=(n-(i+1))*2):=j;have o:Hid (∀u∈vs.drop ((i+1)*2),u.oneCell'=AD):=λu l=>C u (M6 l)
 have p:Hid (∀k,k<(vs.drop ((i+1)*2)).length->(w.drew.cell? ⟨b,off+i*2+k,AF⟩).isSome=AD/\w.drew.frozen? ⟨b,off+i*2+k,AF⟩=AK):=λk r=>by
  rw[j]at r;rw[Dg];exact⟨a _ (by omega),t _ (by omega)⟩
 have d:Hid (∀k u,(vs.drop ((i+1)*2))[k]?=AC u->w.drew.cell? (A.add k)=AC u):=d;have D:Hid (W1=w.drew.setCells b (off+i*2) (vs.drop ((i+1)*2))):=f;have mixed:Tryz.prog.follows .mixedOrders=true:=by kernel_rfl
 have H:i<=c:=by omega
 have I:i+1<=c:=by omega
 have J:i<=n:=by omega
 have K:((i:AA)+1).toNat=i+1:=by omega
 have L:(0:AA)<=(i:AA)+1:=by omega
 have M:(i:AA)+1<=(n:AA):=by omega
 have N:(i:AA)<=(i:AA)+1:=by omega
 have O:¬((i:AA)=(i:AA)+1):=by omega
 clear f s t a C B
 go_enter func155,ntmps155
 go_wp2_with fail
 go_region_law_o (refine zm rfl (.tmp 22) (.tmp 25) 24 rfl 68 i0 2 t22 x y b off i c (by simp[Ky,Hs]) A (n-(i+1)) (c-(i+1)) (vs.drop ((i+1)*2)) (by simp[Ky,Hs]) m.out d.out o.out (by omega) p.out ?_;rw[<-D.out])
 go_wp2_with (at_builtin;refine wpList_clear_k _ rfl _ _ rfl _ rfl (z _) ?_)
 go_ret
 refine⟨by rw[show n-1=i+(n-(i+1)) by omega];rfl,1,?_⟩;rw[D.out,show n-(i+(n-(i+1)))=1 by omega,show n-1=i+(n-(i+1)) by omega];rfl
open Go.RowKit Go.Shelf Go.Lib
set_option maxHeartbeats 4000000
theorem ANk(b off n c i f a vc:AB)(g vs:AE AJ)(w:AN)(hi:i<n)(A:n+1<=c)(T:n<=1000000000)(s:f≠b)(B:g.length=n*3)(C:vs.length=3)(D:∀j v,g[j]?=AC v->w.cell? ⟨b,off+j,AF⟩=AC v)(o:∀j,j<(n+1)*3->(w.cell? ⟨b,off+j,AF⟩).isSome=AD)(p:∀j,j<(n+1)*3->w.frozen? ⟨b,off+j,AF⟩=AK)(E:∀j v,vs[j]?=AC v->w.cell? ⟨f,a+j,AF⟩=AC v)(F:∀v∈g,v.oneCell'=AD)(G:∀v∈vs,v.oneCell'=AD)(U V:AQ)(H z:AB)(I:w.shape? f=AC (U,H))(J:H≠0)(K:w.shape? b=AC (V,z))(L:z≠0)(M:w.frozen? ⟨b,z,AF⟩=AK):
  BU prog 69 #[.slice (AC ⟨b,off,AF⟩) n c,.int .i64 i,.slice (AC ⟨f,a,AF⟩) 1 vc] w λe w'=>
   e=.returned (.slice (AC ⟨b,off,AF⟩) (n+1) c)/\∃q,w'=((w.drewN q).setCells b (off+(i+1)*3) (g.drop (i*3))).setCells b (off+i*3) vs:=by
 have X:¬((i:AA)=(n:AA)):=by omega
 have t:(Tryz.prog.info? 75).map (·.size)=AC 3:=by kernel_rfl
 have tS:Tryz.prog.underlying 25=AC (.slice 75):=underlying25;have N:∀O P,(FO 111 #[.slice (AC ⟨f,a,AF⟩) 1 vc,.slice (AC ⟨b,off+(i+1)*3,AF⟩) O P]).run prog w=.ok (.value (.bool AK)) w:=λO P=>by
  rw[MK func111 (by kernel_rfl) (by kernel_rfl) (by kernel_rfl) (e:=sG #[25,25] #[4]) (by kernel_rfl),
   WE w 25 4 75 tS 3 sizeOf75 ⟨f,a,AF⟩ ⟨b,off+(i+1)*3,AF⟩ 1 vc O P s U V H z I J K L (p _ (by omega)) M]
  rfl
 have Q:(g.drop (i*3)).length=(n-i)*3:=by rw[CC,B];omega
 have mixed:Tryz.prog.follows .mixedOrders=true:=by kernel_rfl
 have Y:E7.wrap ((i:AA)+1)=(i:AA)+1:=by rw[Js];omega
 have Z:E7.wrap ((n:AA)+1)=(n:AA)+1:=by rw[Js];omega
 have hb1:(0:AA)<=(i:AA)+1:=by omega
 have hin:i<=n:=by omega
 have htn:((i:AA)+1).toNat=i+1:=by omega
 have htm:((n:AA)+1).toNat=n+1:=by omega
 have hb2:¬(c=i+1):=by omega
 have hb3:(i:AA)<=(n:AA)+1:=by omega
 have hb4:¬(c=i):=by omega
 have hb5:¬((c:AA)<(n:AA)+1):=by omega
 have hb6:(n:AA)+1<=(c:AA):=by omega
 have l:∀ty r R,(Hv #[25,25] ty #[.slice (AC ⟨b,off+(i+1)*3,AF⟩) (n-i) r,.slice (AC ⟨b,off+i*3,AF⟩) (n+1-i) R]).run prog w.drew=.ok (Eb (Gb (n+1-i) (n-i))) (w.drew.setCells b (off+(i+1)*3) (g.drop (i*3))):=λty r R=>
  E1 w.drew _ _ ty 75 3 b (off+(i+1)*3) (n-i) r ⟨b,off+i*3,AF⟩ (n+1-i) R (g.drop (i*3)) tS t (by rw[Q];simp only[RU];split<;>omega)
   (λj v m=>by rw[Ge,Dg];exact D (i*3+j) v (by rwa[CA]at m))
   (λj m=>by rw[Dg];exact o _ (by omega)) (λj m=>by rw[Dg];exact p _ (by omega)) (λv hv=>F v (M6 hv))
 obtain⟨W1,d⟩:∃W1,W1=w.drew.setCells b (off+(i+1)*3) (g.drop (i*3)):=⟨_,rfl⟩
 have bD:∀k,k<(n+1)*3->(W1.cell? ⟨b,off+k,AF⟩).isSome=true:=λk hk=>by
  rw[d];exact F8 b _ _ _ (λj m=>by rw[Dg];exact o _ (by omega)) _ (o k hk)
 have u:∀(W:AN),(∀x,W.cell? x=W1.cell? x)->(∀x,W.frozen? x=W1.frozen? x)->∀ty r,(Hv #[25,25] ty #[.slice (AC ⟨b,off+i*3,AF⟩) (n+1-i) r,.slice (AC ⟨f,a,AF⟩) 1 vc]).run prog W=.ok (Eb (Gb 1 (n+1-i))) (W.setCells b (off+i*3) vs):=λW y S ty r=>
  E1 W _ _ ty 75 3 b (off+i*3) (n+1-i) r ⟨f,a,AF⟩ 1 vc vs tS t (by rw[C];simp only[RU];split<;>omega)
   (λj v m=>by
    rw[Ge,y,d,b0 b _ _ _ _ (λh _=>Aq h s)];exact E j v m)
   (λj m=>by rw[y,Dg];exact bD _ (by omega)) (λj m=>by rw[S,d,Ww,Dg];exact p _ (by omega)) G
 rw[<-d]at l
 go_enter func69,ntmps69
 go_wp2_with (simp only[N])
 go_region_law_o (refine Iu rfl _ _ 25 25 rfl _ _ (by simp[Ky,Hs]) (by simp[Ky,Hs]) (l _ _ _) ?_)
 go_wp2_with (at_builtin;refine wpList_copy_k _ rfl _ _ 25 25 rfl _ _ rfl rfl (u _ (λ_=>rfl) (λ_=>rfl) _ _) ?_)
 go_ret
 exact⟨rfl,1,rfl⟩
theorem X5(b off n c i a vc:AB)(vs:AE AJ)(w:AN)(g:n+1<=c)(k:vs.length=3)(m:∀j,j<3->(w.cell? ⟨b,off+n*3+j,AF⟩).isSome=AD)(o:∀j,j<3->w.frozen? ⟨b,off+n*3+j,AF⟩=AK)(p:∀j v,vs[j]?=AC v->w.cell? ⟨i,a+j,AF⟩=AC v)(q:∀v∈vs,v.oneCell'=AD):
  BU prog 69 #[.slice (AC ⟨b,off,AF⟩) n c,.int .i64 n,.slice (AC ⟨i,a,AF⟩) 1 vc] w λe w'=>
   e=.returned (.slice (AC ⟨b,off,AF⟩) (n+1) c)/\w'=w.setCells b (off+n*3) vs:=by
 have mixed:Tryz.prog.follows .mixedOrders=true:=by kernel_rfl
 have tS:Tryz.prog.underlying 25=AC (.slice 75):=underlying25;obtain⟨i0,r,d⟩:∃i0:EF,Tryz.prog.info? 75=AC i0/\i0.size=3:=⟨Tryz.t75,by kernel_rfl,by kernel_rfl⟩
 have f:Src prog i0.size 25 (.slice (AC ⟨i,a,AF⟩) 1 vc) 1 vs w:=RT w tS ⟨i,a,AF⟩ 1 vc vs (by rw[d];omega) (λj u s=>by rw[Ge];exact p j u s) q;have l:∀ty,(Eo #[25,25] ty #[.slice (AC ⟨b,off,AF⟩) n c,.slice (AC ⟨i,a,AF⟩) 1 vc]).run prog w=.ok (.slice (AC ⟨b,off,AF⟩) (n+1) c) (w.setCells b (off+n*3) vs):=λty=>by
  have h:=Wv (P:=prog) (w:=w) 25 25 ty 75 i0 tS r b off n c _ 1 vs f g (by rw[k,d];exact m) (by rw[k,d];exact o);rw[d]at h;exact h
 clear f
 go_enter func69,ntmps69
 go_wp2_with (at_builtin;refine Kz _ rfl _ _ _ _ rfl _ _ rfl rfl _ _ (l _) ?_)
 go_ret
 exact⟨rfl,rfl⟩
theorem Og(base:AP EG)(n c l b vc:AB)(f vs:AE AJ)(w:AN)(A:n<=c)(d:c<n+1)(z:(n+1)*64<=140737488355328)(B:f.length=n*3)(C:vs.length=3)(g:base=AF->n=0)(o:∀a,base=AC a->∀j v,f[j]?=AC v->w.cell? (a.add j)=AC v)(p:∀j v,vs[j]?=AC v->w.cell? ⟨l,b+j,AF⟩=AC v)(q:∀v∈vs,v.oneCell'=AD):
  BU prog 69 #[.slice base n c,.int .i64 n,.slice (AC ⟨l,b,AF⟩) 1 vc] w λe w'=>
   e=.returned (.slice (AC ⟨w.heap.size,0,AF⟩) (n+1) (Dp w (n+1) c 75))/\
   w'=w.drew.alloc (.cells ((f++vs).toArray++Ch #[.int .i64 0,.int .i64 0,.int .i64 0] (Dp w (n+1) c 75-(n+1))) 75):=by
 have mixed:Tryz.prog.follows .mixedOrders=true:=by kernel_rfl
 have tS:Tryz.prog.underlying 25=AC (.slice 75):=underlying25;obtain⟨i0,r,m,s,t⟩:∃i0:EF,Tryz.prog.info? 75=AC i0/\i0.size=3/\i0.zero=AC (.agg #[.int .i64 0,.int .i64 0,.int .i64 0])/\i0.bytes=24:=⟨Tryz.t75,by kernel_rfl,by kernel_rfl,by kernel_rfl,by kernel_rfl⟩
 have h:Src prog i0.size 25 (.slice (AC ⟨l,b,AF⟩) 1 vc) 1 vs w:=RT w tS ⟨l,b,AF⟩ 1 vc vs (by rw[m];omega) (λj u x=>by rw[Ge];exact p j u x) q;have i:(GZ i0.size n (.slice base n c)).run prog w.drew=.ok f.toArray w.drew:=by
  rw[m];cases base with
  |none=>
   have y:=g rfl;subst y;rw[Gu.1 (by omega:f.length=0)];exact zk w.drew 3 0 0 c
  |some a=>exact ir w.drew 3 n a n c f (by omega) (λj v x=>o a rfl j v x)
 have k:∀ty,(Eo #[25,25] ty #[.slice base n c,.slice (AC ⟨l,b,AF⟩) 1 vc]).run prog w=.ok (.slice (AC ⟨w.heap.size,0,AF⟩) (n+1) (Dp w (n+1) c 75)) (w.drew.alloc (.cells ((f++vs).toArray++Ch #[.int .i64 0,.int .i64 0,.int .i64 0] (Dp w (n+1) c 75-(n+1))) 75)):=λty=>
  zj w 25 25 ty 75 i0 _ tS r s base n c f i _ 1 vs h d (by omega) (by rw[t];exact ANw d (by omega))
 clear h i
 go_enter func69,ntmps69
 cases base with
 |none=>
  have y:=g rfl;subst y
  go_wp2_with (at_builtin;refine Kz _ rfl _ _ _ _ rfl _ _ rfl rfl _ _ (k _) ?_)
  go_ret
  exact⟨rfl,rfl⟩
 |some a=>
  obtain⟨E,F,D⟩:=a
  go_wp2_with (at_builtin;refine Kz _ rfl _ _ _ _ rfl _ _ rfl rfl _ _ (k _) ?_)
  all_goals (go_ret;exact⟨rfl,rfl⟩)
open Go.RowKit Go.Shelf Go.Lib
set_option maxHeartbeats 4000000
theorem km(b off n c i o a vc:AB)(d vs:AE AJ)(w:AN)(hi:i<n)(hnc:n<=c)(r:c<n+1)(hbig:(n+1)*64<=140737488355328)(H:d.length=n*3)(I:vs.length=3)(J:b<w.heap.size)(K:o<w.heap.size)(z:∀j v,d[j]?=AC v->w.cell? ⟨b,off+j,AF⟩=AC v)(L:∀j v,vs[j]?=AC v->w.cell? ⟨o,a+j,AF⟩=AC v)(M:∀v∈d,v.oneCell'=AD)(N:∀v∈vs,v.oneCell'=AD):
  BU prog 69 #[.slice (AC ⟨b,off,AF⟩) n c,.int .i64 i,.slice (AC ⟨o,a,AF⟩) 1 vc] w λe w'=>
   e=.returned (.slice (AC ⟨w.heap.size,0,AF⟩) (n+1) (Dp w (n+1) c 75))/\
   w'=(((w.alloc (.cells ((d.take (i*3)).toArray++Ch #[.int .i64 0,.int .i64 0,.int .i64 0] (n+1-i)++Ch #[.int .i64 0,.int .i64 0,.int .i64 0] (Dp w (n+1) c 75-(n+1))) 75)).drew.setCells w.heap.size (i*3) vs).drew).setCells w.heap.size ((i+1)*3) (d.drop (i*3)):=by
 have mixed:Tryz.prog.follows .mixedOrders=true:=by kernel_rfl
 have tS:Tryz.prog.underlying 25=AC (.slice 75):=underlying25;obtain⟨i0,O,P,Q,A⟩:∃i0:EF,Tryz.prog.info? 75=AC i0/\i0.size=3/\i0.zero=AC (.agg #[.int .i64 0,.int .i64 0,.int .i64 0])/\i0.bytes=24:=⟨Tryz.t75,by kernel_rfl,by kernel_rfl,by kernel_rfl,by kernel_rfl⟩
 have hz2:¬((i:AA)=(n:AA)):=by omega
 have hz3:(c:AA)<(n:AA)+1:=by omega
 have B:(Tryz.prog.info? 75).map (·.size)=AC 3:=by kernel_rfl
 have C:(n:AA)+1-(i:AA)=((n+1-i:AB):AA):=by omega
 have s:i+(n+1-i)=n+1:=by omega
 have p:(GZ i0.size i (.slice (AC ⟨b,off,AF⟩) i c)).run prog w.drew=.ok (d.take (i*3)).toArray w.drew:=by
  rw[P];exact ir w.drew 3 i ⟨b,off,AF⟩ i c (d.take (i*3)) (by rw[Bw];omega) (λj v f=>by
   rw[Ge];rw[CB]at f
   split at f
   ·exact z j v f
   ·cases f)
 have m:∀ty,(Eo #[25,3] ty #[.slice (AC ⟨b,off,AF⟩) i c,.int .i64 ((n:AA)+1-(i:AA))]).run prog w=
   .ok (.slice (AC ⟨w.heap.size,0,AF⟩) (n+1) (Dp w (n+1) c 75)) (w.drew.alloc (.cells ((d.take (i*3)).toArray++Ch #[.int .i64 0,.int .i64 0,.int .i64 0] (n+1-i)++Ch #[.int .i64 0,.int .i64 0,.int .i64 0] (Dp w (n+1) c 75-(n+1))) 75)):=λty=>by
  have h:=zn w 25 3 ty 75 i0 _ .i64 .i64 tS underlying3 O Q (AC ⟨b,off,AF⟩) i c (d.take (i*3)) p (n+1-i) (by omega) (by omega) (by omega) (by omega) (by rw[A];omega) (by rw[A,s];exact ANw r (by omega));rw[s]at h;rw[C];exact h
 obtain⟨G,F⟩:∃G,G=Dp w (n+1) c 75:=⟨_,rfl⟩
 obtain⟨ROW,k⟩:∃ROW:Aa AJ,ROW=(d.take (i*3)).toArray++Ch #[.int .i64 0,.int .i64 0,.int .i64 0] (n+1-i)++Ch #[.int .i64 0,.int .i64 0,.int .i64 0] (G-(n+1)):=⟨_,rfl⟩
 rw[<-F]at m⊢;rw[<-k]at m⊢;have R:(n+1)*3<=ROW.size:=by
  rw[k];have e1:=BC #[.int .i64 0,.int .i64 0,.int .i64 0] (n+1-i);have e2:(#[.int .i64 0,.int .i64 0,.int .i64 0]:Aa AJ).size=3:=rfl;rw[e2]at e1;rw[ANM,ANM,e1,Hx,Bw];omega
 obtain⟨W1,g⟩:∃W1,W1=w.drew.alloc (.cells ROW 75):=⟨_,rfl⟩
 rw[<-g]at m;have hN:∀j,j<(n+1)*3->(W1.cell? ⟨w.heap.size,j,AF⟩).isSome=true:=λj f=>by
  rw[g,zq (w:=w.drew) ROW _ w.heap.size j rfl,CX (by omega)];rfl
 have D:∀j,W1.frozen? ⟨w.heap.size,j,AF⟩=false:=λj=>by rw[g];exact zr (w:=w.drew) ROW _ w.heap.size j rfl
 have S:∀j v,w.cell? ⟨b,j,AF⟩=AC v->W1.cell? ⟨b,j,AF⟩=AC v:=λj v h=>by rw[g,iw (w:=w.drew) _ b j J];exact h
 have T:∀j v,w.cell? ⟨o,j,AF⟩=AC v->W1.cell? ⟨o,j,AF⟩=AC v:=λj v h=>by rw[g,iw (w:=w.drew) _ o j K];exact h
 have E:∀(W:AN),(∀x,W.cell? x=W1.cell? x)->(∀x,W.frozen? x=W1.frozen? x)->∀ty u,(Hv #[25,25] ty #[.slice (AC ⟨w.heap.size,i*3,AF⟩) (n+1-i) u,.slice (AC ⟨o,a,AF⟩) 1 vc]).run prog W=.ok (Eb (Gb 1 (n+1-i))) (W.setCells w.heap.size (i*3) vs):=λW l y ty u=>
  E1 W _ _ ty 75 3 w.heap.size (i*3) (n+1-i) u ⟨o,a,AF⟩ 1 vc vs tS B (by rw[I];simp only[RU];split<;>omega)
   (λj v f=>by rw[Ge,l];exact T _ v (L j v f))
   (λj f=>by rw[l];exact hN _ (by omega)) (λj f=>by rw[y];exact D _) N
 have hGn:n+1<=G:=by rw[F];exact ML w _ _ _
 have hG63:G<=9223372036854775807:=by
  have:=zi w (n+1) c 75 (by unfold iq;omega);rw[<-F]at this;unfold iq at this;omega
 have hGi:¬(G=i):=by omega
 have hGim:¬(G=i+1):=by omega
 have hci:¬(c=i):=by omega
 have U:b≠w.heap.size:=by omega
 have V:(d.drop (i*3)).length=(n-i)*3:=by rw[CC,H];omega
 have q:∀(W:AN),(∀x,W.cell? x=(W1.setCells w.heap.size (i*3) vs).cell? x)->(∀x,W.frozen? x=(W1.setCells w.heap.size (i*3) vs).frozen? x)->∀ty u X,(Hv #[25,25] ty #[.slice (AC ⟨w.heap.size,(i+1)*3,AF⟩) (n-i) u,.slice (AC ⟨b,off+i*3,AF⟩) (n-i) X]).run prog W=.ok (Eb (Gb (n-i) (n-i))) (W.setCells w.heap.size ((i+1)*3) (d.drop (i*3))):=λW l y ty u X=>
  E1 W _ _ ty 75 3 w.heap.size ((i+1)*3) (n-i) u ⟨b,off+i*3,AF⟩ (n-i) X (d.drop (i*3)) tS B (by rw[V];simp only[RU];split<;>omega)
   (λj v f=>by
    rw[Ge,l,b0 _ _ _ _ _ (λh _=>Aq h U),Dg];exact S _ v (z (i*3+j) v (by rwa[CA]at f)))
   (λj f=>by rw[l];exact F8 _ _ _ _ (λt ht=>hN _ (by omega)) _ (hN _ (by omega)))
   (λj f=>by rw[y,Ww];exact D _) (λv hv=>M v (M6 hv))
 subst g;have Y:∀x,((w.alloc (.cells ROW 75)).drew).cell? x=(w.drew.alloc (.cells ROW 75)).cell? x:=λx=>rfl
 have Z:∀x,((w.alloc (.cells ROW 75)).drew).frozen? x=(w.drew.alloc (.cells ROW 75)).frozen? x:=λx=>rfl
 have hF1:∀x,(((w.alloc (.cells ROW 75)).drew.setCells w.heap.size (i*3) vs).drew).cell? x=((w.drew.alloc (.cells ROW 75)).setCells w.heap.size (i*3) vs).cell? x:=λx=>rfl
 have hF2:∀x,(((w.alloc (.cells ROW 75)).drew.setCells w.heap.size (i*3) vs).drew).frozen? x=((w.drew.alloc (.cells ROW 75)).setCells w.heap.size (i*3) vs).frozen? x:=λx=>rfl
 have hw1:E7.wrap ((i:AA)+1)=(i:AA)+1:=by rw[Js];omega
 have hw2:E7.wrap ((n:AA)+1)=(n:AA)+1:=by rw[Js];omega
 have hw3:E7.wrap ((n:AA)+1-(i:AA))=(n:AA)+1-(i:AA):=by rw[Js];omega
 have hb1:(0:AA)<=(i:AA)+1:=by omega
 have hin:i<=n:=by omega
 have htn:((i:AA)+1).toNat=i+1:=by omega
 have hb3:(i:AA)<=(n:AA):=by omega
 have hbc:(i:AA)<=(c:AA):=by omega
 clear C s p k F R
 go_enter func69,ntmps69
 go_wp2_with (first
  |(at_builtin;refine Kz _ rfl _ _ _ _ rfl _ _ rfl rfl _ _ (m _) ?_)
  |(at_builtin;refine wpList_copy_k _ rfl _ _ 25 25 rfl _ _ rfl rfl (E _ Y Z _ _) ?_)
  |(at_builtin;refine wpList_copy_k _ rfl _ _ 25 25 rfl _ _ rfl rfl (q _ (λ_=>rfl) (λ_=>rfl) _ _ _) ?_))
 go_region_law_o (refine Iu rfl _ _ 25 25 rfl (.slice (AC ⟨w.heap.size,(i+1)*3,AF⟩) (n-i) (G-(i+1))) (.slice (AC ⟨b,off+i*3,AF⟩) (n-i) (c-i)) (by simp[Ky,Hs]) (by simp[Ky,Hs]) (q _ hF1 hF2 3 (G-(i+1)) (c-i)) ?_)
 go_wp2
 go_ret
 exact⟨rfl,rfl⟩
