/-
  The engine, part 5: an abstract evaluator over the model's code, proved sound. No condition.
-/
import Derived.Test.YtkgejlchafionaaGreatDoorEng4
open Array renaming empty_append->iQ,eq_empty_of_size_eq_zero->PG,ext'->Gr,forIn_toList->zE,getD_eq_getD_getElem?->O9,getElem?_eq_getElem->CX,getElem?_toList->Bf,length_toList->D0,map->bZ,size_append->ANM,toList_append->Kv
open Bool renaming and_eq_true->A0,cond_eq_ite->Dn,false->AK,false_eq_true->CI,not_eq_true'->Hr,true->AD
open ByteArray renaming empty->RI,ext->Kp,extract_zero_size->AJL
open Classical renaming propDecidable->PI
open Decidable renaming decide->AG
open Go renaming BinOp->DO,Builtin->Uj,FuncId->BT,Oper->Az,Operand->Bp,Program->Ao,TypeId->AQ,Value->AJ,World->AN,builtin->Um,convert->FB,eqGuard->I7,execOp->ME,loadCells->iR,loadCellsFrom->ru,newRow->Mz,run_askRoom->zF,run_newObj->MD,storeVar->rv,undef->Bi
open Go.Addr.mk renaming injEq->ry
open Go.Builtin renaming append_->Eo,firstCells->GZ,lenOf->RK,zeroCells->Ch
open Go.Call renaming operands->bj
open Go.Conv renaming bytesToString->Ui,stringToBytes->bb
open Go.Instr renaming buildSlice->bc,makeSlice->ANY,slice->FN,sliceAt->FA,sliceBounds->Ga,storeAt->Mw,sureAddr->Gs
open Go.Op renaming equal->Ks,equalIn->Ku,operands->D1
open Go.Question renaming appendCap->Mx
open Go.Result renaming andThen_ok->Ax
open Go.Sem renaming run_bind->A7,run_pure->A9
open Go.Value renaming chan->rz,int->Ht,string->E9
open Go.Value.slice renaming injEq->Wo
open Go.World renaming cell?->C0
open List renaming append_nil->Ce,drop_drop->En,drop_eq_getElem_cons->Ef,drop_left->RN,drop_take->iS,drop_zero->Do,ext_getElem?->iT,getElem?_append_left->EE,getElem?_append_right->Fw,getElem?_cons_succ->RL,getElem?_cons_zero->EM,getElem?_drop->CA,getElem?_eq_getElem->B4,getElem?_eq_none->DA,getElem?_map->Fe,getElem?_set_ne->r4,getElem?_set_self->zH,getElem?_take->CB,getElem?_toArray->ANI,length_append->BA,length_drop->CC,length_eq_zero_iff->Gu,length_replicate->Un,length_set->PL,length_take->Bw,mem_append->CH,mem_append_right->C3,mem_cons->Dv,mem_cons_of_mem->GC,mem_singleton->Cn,nil_append->DN,replicate->Hj,size_toArray->Hx,take_append_of_le_length->zI,take_of_length_le->GB,take_succ_cons->iU,take_take->iV,take_zero->iW
open List.cons renaming injEq->iX
open Nat renaming add_assoc->Dg,add_mul->DB,beq->Af,ble->B8,eq_of_beq_eq_true->Br,le_of_ble_eq_true->GJ,le_refl->Ak,lt_add_right->M1,lt_or_ge->Cf,mod_one->PK,mul_le_mul_right->Gc,mul_mod_left->MC,mul_one->Gd,sub_zero->iY,succ_mul->Wp,zero_add->CJ,zero_mod->MF,zero_mul->I6
open Ne renaming symm->ES
open Option renaming isSome_none->Df,map_some->Ib,none->AF,some->AC
open Option.some renaming inj->Dw,injEq->BJ
open Pure renaming pure->Ck
open UInt8 renaming ofNat->Cj
open _root_ renaming Array->Aa,Bool->AH,ByteArray->Cg,Int->AA,List->AE,Nat->AB,Option->AP,absurd->Aq,and_true->iZ,cond_false->BZ,cond_true->Ag,if_false->BR,if_neg->AY,if_pos->Ae,of_decide_eq_true->BL,trivial->A3
section
noncomputable section
noncomputable section
namespace Go.Eng
open Go
def B6(σ:St)(r:R):Prop:=σ.next<=r.σ.next/\(σ.wf->r.σ.wf/\AFr σ r.σ r.φ)
section
variable {P:Ao} {T:TE} {E:Env} {σ:St} {s:Tr AJ}
theorem B6.same(v:AJ)(φ:Foot):B6 σ ⟨v,σ,φ⟩:=⟨Ak _,λa=>⟨a,AFr.refl _ _⟩⟩
theorem B6.new(v:AJ)(o:AO)(φ:Foot):B6 σ ⟨v,σ.new o,φ⟩:=⟨by simp[St.new],λa=>⟨St.new_wf a _,AFr.new _ _ _⟩⟩
theorem B6.lput{id off:AB}{c b vs:AE AJ}{a:AQ}{v:AJ}{rc:AE (AB×AB)}{rh:AE AB}{n:AB}(d:σ.heap.get id=AC (.row c a AK))(f:lput c off vs=AC b)(g:n=vs.length):
  B6 σ ⟨v,σ.put id (AC (.row b a AK)),⟨rc,rh,J3 id off n,[]⟩⟩:=
 ⟨Ak _,λe=>⟨St.put_wf e (St.lv_lt e (St.lv_of d)) _,AFr.lput d f (by rw[g])⟩⟩
theorem B6.whole{id:AB}{o b:AO}{v:AJ}(c:σ.heap.get id=AC o):B6 σ ⟨v,σ.put id (AC b),⟨[],[],[],[id]⟩⟩:=
 ⟨Ak _,λa=>⟨St.put_wf a (St.lv_lt a (St.lv_of c)) _,AFr.whole (by simp)⟩⟩
theorem B6.giveUp{id:AB}{o b:AO}{v:AJ}{rc:AE (AB×AB)}(c:σ.heap.get id=AC o):B6 σ ⟨v,(σ.put id AF).new b,⟨rc,[],[],[id]⟩⟩:=
 ⟨by simp[St.new,St.put],λa=>⟨St.new_wf (St.put_wf a (St.lv_lt a (St.lv_of c)) _) _,AFr.giveUp (by simp)⟩⟩
theorem ZO{a:AQ}{b:AE AJ}{r:R}(h:ZC T σ a b=AC r):B6 σ r:=by
 unfold ZC at h;simp only[Dn]at h
 repeat' split at h
 all_goals first|(cases h;exact B6.new _ _ _)|cases h
theorem cy{a:AQ}{r:R}(h:Pf T σ a=AC r):B6 σ r:=by
 unfold Pf at h;simp only[Dn]at h
 repeat' split at h
 all_goals first|exact ZO h|cases h
theorem jZ{t:AQ}{a:AJ}{r:R}(h:Mm T σ t a=AC r):B6 σ r:=by
 unfold Mm at h;simp only[Dn]at h
 repeat' split at h
 all_goals first|(cases h;exact B6.same _ _)|cases h
theorem c6{t:AQ}{a v:AJ}{r:R}(h:Pg T σ t a v=AC r):B6 σ r:=by
 unfold Pg at h;simp only[Dn]at h
 split at h
 ·split at h
  ·rename_i b
   split at h
   ·split at h
    ·cases h
    ·split at h
     ·split at h
      ·rename_i c;cases h;exact B6.lput b c rfl
      ·cases h
     ·cases h
   ·cases h
  ·cases h
 ·cases h
theorem TG{t:AQ}{a:AJ}{f:AB}{r:R}(h:Gy T σ t a f=AC r):B6 σ r:=by
 unfold Gy at h;simp only[Dn]at h
 repeat' split at h
 all_goals first|(cases h;exact B6.same _ _)|cases h
theorem Ld{t:AQ}{x i:AJ}{r:R}(h:Dr T σ t x i=AC r):B6 σ r:=by
 unfold Dr at h;simp only[Dn]at h
 repeat' split at h
 all_goals first|(cases h;exact B6.same _ _)|cases h
theorem c7{t:AQ}{x:AJ}{lo a b:AP AJ}{r:R}(h:Pj T σ t x lo a b=AC r):B6 σ r:=by
 unfold Pj at h;simp only[Dn]at h
 repeat' split at h
 all_goals first|(cases h;exact B6.same _ _)|cases h
theorem Vp{a:AQ}{e:TypeInfo}{z:AJ}{old new:AE AJ}{b:AB}{rc:AE (AB×AB)}{r:R}(h:Vj σ a e z old new b rc=AC r):B6 σ r:=by
 unfold Vj at h;simp only[Dn]at h
 split at h
 ·cases h;exact B6.new _ _ _
 ·cases h
theorem Qo{args:Aa AQ}{x y:AJ}{r:R}(h:J6 T σ args x y=AC r):B6 σ r:=by
 unfold J6 at h;simp only[Dn]at h
 split at h
 ·split at h
  ·split at h
   ·cases h
   ·split at h
    ·split at h
     ·split at h
      ·repeat' split at h
       all_goals first|(cases h;exact B6.same _ _)|exact Vp h|cases h
      ·split at h
       ·rename_i b
        split at h
        ·split at h
         ·cases h;exact B6.same _ _
         ·split at h
          ·split at h
           ·cases h;exact B6.giveUp b
           ·cases h
          ·cases h
        ·split at h
         ·split at h
          ·cases h;exact B6.same _ _
          ·split at h
           ·rename_i c
            split at h
            ·rename_i d;cases h;simp only[A0,Hr]at c;have a:=c.1.2;subst a;exact B6.lput b d rfl
            ·cases h
           ·cases h
         ·split at h
          ·exact Vp h
          ·cases h
       ·cases h
      ·cases h
     ·cases h
    ·cases h
  ·cases h
 ·cases h
theorem ja{args:Aa AQ}{x y:AJ}{r:R}(h:ZF T σ args x y=AC r):B6 σ r:=by
 unfold ZF at h;simp only[Dn]at h
 split at h
 ·split at h
  ·split at h
   ·split at h
    ·cases h;exact B6.same _ _
    ·split at h
     ·split at h
      ·cases h;exact B6.same _ _
      ·split at h
       ·rename_i a
        split at h
        ·split at h
         ·rename_i b;cases h;exact B6.lput a b rfl
         ·cases h
        ·cases h
       ·cases h
     ·cases h
    ·cases h
   ·cases h
  ·cases h
 ·cases h
theorem NK{x:AJ}{r:R}(h:Ew σ x=AC r):B6 σ r:=by
 unfold Ew at h
 repeat' split at h
 all_goals first|(cases h;exact B6.same _ _)|cases h
theorem NL{e:AQ}{x:Cg}{r:R}(h:Ex T σ e x=AC r):B6 σ r:=by
 unfold Ex at h;simp only[Dn]at h
 repeat' split at h
 all_goals first|(cases h;exact B6.new _ _ _)|cases h
theorem TH{t:AQ}{l c:AJ}{r:R}(h:Gz T σ t l c=AC r):B6 σ r:=by
 unfold Gz at h;simp only[Dn]at h
 repeat' split at h
 all_goals first|(cases h;exact B6.new _ _ _)|cases h
theorem RY{t:AQ}{n:AB}{a:AE (AB×AJ)}{r:R}(h:F2 T σ t n a=AC r):B6 σ r:=by
 unfold F2 at h;simp only[Dn]at h
 repeat' split at h
 all_goals first|(cases h;exact B6.new _ _ _)|cases h
theorem c8{t:AQ}{x:AJ}{r:R}(h:Pn T σ t x=AC r):B6 σ r:=by
 unfold Pn at h
 repeat' split at h
 all_goals first|(cases h;exact B6.new _ _ _)|cases h
theorem jb{x:AJ}{b:AH}{r:R}(h:Vl σ x b=AC r):B6 σ r:=by
 unfold Vl at h;simp only[Dn]at h
 split at h
 ·split at h
  ·rename_i a
   split at h
   ·cases h;exact B6.whole a
   ·cases h;exact B6.same _ _
  ·cases h
 ·cases h
theorem dA{t:AQ}{x:AJ}{r:R}(h:TB T σ t x=AC r):B6 σ r:=by
 unfold TB at h;simp only[Dn]at h
 repeat' split at h
 all_goals first|(cases h;exact B6.same _ _)|cases h
theorem Xe{t:AQ}{x:AJ}{r:R}(h:La T σ t x=AC r):B6 σ r:=by
 unfold La at h;simp only[Dn]at h
 repeat' split at h
 all_goals first|(cases h;exact B6.same _ _)|cases h
theorem Xf{t:AQ}{x:AJ}{n:AA}{r:R}(h:Lb T σ t x n=AC r):B6 σ r:=by
 unfold Lb at h;simp only[Dn]at h
 split at h
 ·split at h
  ·cases h;exact B6.same _ _
  ·cases h
 ·split at h
  ·split at h
   ·rename_i a _
    repeat' split at h
    all_goals first|(cases h;exact B6.whole a)|cases h
   ·cases h
  ·cases h
 ·cases h
theorem jc{a b:AQ}{x:AJ}{r:R}(h:Vy P T σ a b x=AC r):B6 σ r:=by
 unfold Vy at h;simp only[Dn]at h
 repeat' split at h
 all_goals first|exact NK h|exact NL h|exact dA h|exact Xe h|(cases h;exact B6.same _ _)|cases h
theorem Xg{b:Uj}{argTypes:Aa AQ}{ty:AQ}{consts:Aa AH}{args:AE AJ}{r:R}(h:JY P T σ b argTypes ty consts args=AC r):B6 σ r:=by
 unfold JY at h;simp only[Dn]at h
 repeat' split at h
 all_goals first|exact Qo h|exact ja h|exact Xf h|(cases h;exact B6.same _ _)|cases h
theorem jd{v:AP AJ}{r:R}(h:CF σ v=AC (.val r)):B6 σ r:=by
 obtain⟨u,_,rfl⟩:=B9 h;exact B6.same _ _
theorem ta{o:Az}{r:R}(h:gN P E s σ o=AC (.val r)):B6 σ r:=by
 unfold gN at h;simp only[Dn]at h
 repeat' split at h
 all_goals first
  |exact jd h
  |exact cy (Av h)
  |exact ZO (Av h)
  |exact RY (Av h)
  |exact jZ (Av h)
  |exact c6 (Av h)
  |exact jc (Av h)
  |exact TH (Av h)
  |exact c7 (Av h)
  |exact TG (Av h)
  |exact Ld (Av h)
  |exact c8 (Av h)
  |exact jb (Av h)
  |exact Xg (Av h)
  |cases h
end
end Go.Eng
end
end
end
section
noncomputable section
noncomputable section
namespace Go.Eng
open Go
inductive LR(D:AB->Prop)(ι:AB->Reg):AE AJ->AE AJ->Prop where
 |nil:LR D ι [] []
 |cons {v u vs us} (h:VR D ι v u) (t:LR D ι vs us):LR D ι (v::vs) (u::us)
section
variable {D:AB->Prop} {ι:AB->Reg}
theorem LR.of_AR:∀{vs:AE AJ} {us:AE AJ},AR D ι vs.toArray us.toArray->LR D ι vs us
 |[],us,h=>by
  have:us.length=0:=by simpa using h.1.symm
  rw[Gu.1 this];exact .nil
 |v::vs,[],h=>by have:=h.1;simp at this
 |v::vs,u::us,h=>.cons (h.2 0 v u (by simp) (by simp)) (LR.of_AR ⟨by have:=h.1;simp at this;simpa using this,λi x y a b=>h.2 (i+1) x y (by simpa using a) (by simpa using b)⟩)
theorem LR.AR:∀{vs us:AE AJ},LR D ι vs us->AR D ι vs.toArray us.toArray
 |_,_,.nil=>⟨rfl,by simp⟩
 |v::vs,u::us,.cons h t=>by
  obtain⟨c,d⟩:=LR.AR t;refine⟨by simpa using c,λi x y a b=> ?_⟩;rcases i with _|i
  ·simp at a b;subst a b;exact h
  ·exact d i x y (by simpa using a) (by simpa using b)
theorem LR.drop:∀(n:AB) {vs us:AE AJ},LR D ι vs us->LR D ι (vs.drop n) (us.drop n)
 |0,_,_,h=>h
 |_+1,_,_,.nil=>.nil
 |n+1,_,_,.cons _ t=>LR.drop n t
theorem LR.len{vs us:AE AJ}(h:LR D ι vs us):vs.length=us.length:=by
 induction h with
 |nil=>rfl
 |cons _ _ a=>simp[a]
end
theorem Ci{p q:AE AH}(h:FZ (p++q)):FZ p/\FZ q:=by
 induction p with
 |nil=>exact⟨A3,h⟩
 |cons a p b=>exact⟨⟨h.1,(b h.2).1⟩,(b h.2).2⟩
theorem Ru{n:AA}(h:A4 .u8 n):n=((Cj n.toNat).toNat:AA):=by
 have a:0<=n:=h.1;have b:n<=2^8-1:=h.2;rw[UInt8.toNat_ofNat'];omega
def je:AJ->AP AH
 | .nilIface=>AC AD
 | .iface _ _=>AC AK
 | .tuple a=>match a.toList with
   |[.chan (AC 3),.bool b]=>AC b
   |_=>AF
 |_=>AF
theorem MU{D:AB->Prop}{ι:AB->Reg}{x e:AJ}{b:AH}(h:je x=AC b)(d:VR D ι x e):pT b e=true:=by
 unfold je at h
 split at h
 ·cases h;cases d;rfl
 ·cases h;cases d;rfl
 ·rename_i a
  split at h
  ·rename_i c f;cases h;rw[CV f]at d;exact AOK d
  ·cases h
 ·cases h
def ZP:AJ->AP AB
 | .func (.func g) a b=>match a.toList,b.toList with
   |[],[]=>AC g
   |_,_=>AF
 |_=>AF
theorem H5{D:AB->Prop}{ι:AB->Reg}{v u:AJ}{g:AB}(h:ZP v=AC g)(f:VR D ι v u):u=.func (.func g) #[] #[]:=by
 unfold ZP at h
 split at h
 ·rename_i j a b
  split at h
  ·rename_i d e;cases h;have d:a=#[]:=by cases a;simp_all
   have e:b=#[]:=by cases b;simp_all
   subst d e;cases f with
   |func _ _ bs _ ds i c _ _=>
    have:bs=#[]:=PG (by simpa using i.symm);have:ds=#[]:=PG (by simpa using c.symm)
    simp_all
  ·cases h
 ·cases h
def St.puts(σ:St):AE AB->St
 |[]=>σ
 |i::is=>(σ.puts is).put i AF
section
variable {P:Ao} {D:AB->Prop} {ι:AB->Reg} {σ:St} {w w':AN}
theorem St.puts_next:∀(gs:AE AB),(σ.puts gs).next=σ.next
 |[]=>rfl
 |_::gs=>St.puts_next gs
theorem St.puts_pc:∀(gs:AE AB),(σ.puts gs).pc=σ.pc
 |[]=>rfl
 |_::gs=>St.puts_pc gs
theorem St.puts_get:∀(gs:AE AB) (j:AB),(σ.puts gs).heap.get j=if j∈gs then AF else σ.heap.get j
 |[],j=>by simp[St.puts]
 |g::gs,j=>by
  simp only[St.puts,St.put,Tr.set_get,St.puts_get gs j,Dv];by_cases h:j=g
  ·simp[h]
  ·simp[h]
theorem St.puts_hdr(gs:AE AB)(j:AB):(σ.puts gs).H.hdr j=if j∈gs then AF else σ.H.hdr j:=by
 simp only[St.H,St.puts_get];split<;>rfl
theorem St.puts_cell(gs:AE AB)(j k:AB):(σ.puts gs).H.cell j k=if j∈gs then AF else σ.H.cell j k:=by
 simp only[St.H,St.puts_get];split<;>rfl
theorem St.puts_wf(a:σ.wf)(gs:AE AB):(σ.puts gs).wf:=λid h=>by
 rw[St.puts_next]at h;rw[St.puts_get];split
 ·rfl
 ·exact a id h
theorem AFr.puts{gs:AE AB}{o:AO}{φ:Foot}(d:∀id,id∈gs->id∈φ.wh):AFr σ ((σ.puts gs).new o) φ where
 h:=λid a b=>by
  rw[St.new_hdr,St.puts_next,AY λe=>a (by subst e;simp[St.rng,St.new,St.puts_next]),St.puts_hdr,AY λh=>b (d id h)]
 c:=λid k a b=>by
  rw[St.new_cell,St.puts_next,AY λe=>a (by subst e;simp[St.rng,St.new,St.puts_next]),St.puts_cell,AY λh=>b (.inr (d id h))]
 ok:=λh=>by unfold St.Ok at h⊢;rwa[show((σ.puts gs).new o).pc=σ.pc from St.puts_pc gs]at h
theorem B6.puts{gs:AE AB}{o:AO}{v:AJ}{rc:AE (AB×AB)}{rh:AE AB}:B6 σ ⟨v,(σ.puts gs).new o,⟨rc,rh,[],gs⟩⟩:=
 ⟨by simp[St.new,St.puts_next],λa=>⟨St.new_wf (St.puts_wf a _) _,AFr.puts λ_ h=>h⟩⟩
theorem St.rng_puts{gs:AE AB}{o:AO}{id:AB}:σ.rng ((σ.puts gs).new o) id↔id=σ.next:=by simp only[St.rng,St.new,St.puts_next];omega
def DD(blk base room esz:AB)(fz:AB->AP (Aa AJ))(sv:AJ):Reg:=⟨blk,base,room,esz,AD,fz,sv⟩
theorem Fh{gs:AE AB}{rc:AE (AB×AB)}{rh:AE AB}{t:Ty}{s:AE t.Den}{d:AQ}{r:Reg}(q:σ.wf)(B:BI P (FR ι σ.next r) σ.next w' (.vec t s d))(C:w.heap.size<=w'.heap.size)(u:w'.os=w.os)(o:w'.output=w.output)(E:∀b,b<w.heap.size->(∀id,id∈gs->Wr σ.H id->¬(ι id).Own b)->w'.heap[b]?=w.heap[b]?)(F:∀id,id∈gs->Lv σ.H id)(G:r.own=AD->(w.heap.size<=r.blk/\r.blk<w'.heap.size)\/∃k,k∈gs/\Wr σ.H k/\(ι k).Own r.blk)(I:∀b,r.Fz b->(w.heap.size<=b/\b<w'.heap.size)\/(∃k,k∈gs/\Wr σ.H k/\(ι k).Own b)\/∃k,(k∈rh\/k∈gs)/\Lv σ.H k/\(ι k).Fz b):
  Post P D (σ.rng ((σ.puts gs).new (.vec t s d))) ι σ.H w ⟨rc,rh,[],gs⟩ (FR ι σ.next r) ((σ.puts gs).new (.vec t s d)).H w' where
 io:=λid a=>FS _ _ λe=>a (St.rng_puts.2 e)
 size:=C
 os:=u
 out:=o
 hdr:=by
  intro id x hx e;by_cases m:id=σ.next
  ·subst m;rw[St.new_hdr,St.puts_next,Ae rfl]at e;cases e;exact B
  ·rcases hx with hx|hx
   ·have hx:id∈gs:=hx;rw[St.new_hdr,St.puts_next,AY m,St.puts_hdr,Ae hx]at e;cases e
   ·exact Aq (St.rng_puts.1 hx) m
 cel:=by
  intro id k v hx lv e;by_cases m:id=σ.next
  ·subst m;rw[St.new_cell,St.puts_next,Ae rfl]at e;cases e
  ·rcases hx with(hx|hx)|hx
   ·cases hx
   ·have hx:id∈gs:=hx;rw[St.new_cell,St.puts_next,AY m,St.puts_cell,Ae hx]at e;cases e
   ·exact Aq (St.rng_puts.1 hx) m
 ahdr:=λid a hx=>by rw[St.new_hdr,St.puts_next,AY λe=>a (St.rng_puts.2 e),St.puts_hdr,AY (show ¬id∈gs from hx)]
 acel:=λid k a hx=>by rw[St.new_cell,St.puts_next,AY λe=>a (St.rng_puts.2 e),St.puts_cell,AY λh=>hx (.inr h)]
 cfr:=λb f hx=>by rw[E b f hx];exact CR.refl _ _
 fresh:=λid a lv b f=>by
  obtain rfl:=St.rng_puts.1 a;rw[Am]at f;rcases G f.1 with h|⟨k,n,g,p⟩
  ·left;rw[<-f.2];exact h
  ·have c:k≠σ.next:=λe=>by have:=St.lv_lt q g.lv;omega
   refine .inr ⟨k,n,λh=>c (St.rng_puts.1 h),g,λ⟨y,l⟩=> ?_,by rw[<-f.2];exact p⟩;rw[St.new_hdr,St.puts_next,AY c,St.puts_hdr,Ae n]at l;cases l
 freshF:=λid a lv b f=>by
  obtain rfl:=St.rng_puts.1 a;rw[Am]at f;rcases I b f with h|⟨k,n,g,p⟩|⟨k,n,g,p⟩
  ·exact .inl h
  ·have c:k≠σ.next:=λe=>by have:=St.lv_lt q g.lv;omega
   refine .inr (.inl ⟨k,n,λh=>c (St.rng_puts.1 h),g,λ⟨y,l⟩=> ?_,p⟩);rw[St.new_hdr,St.puts_next,AY c,St.puts_hdr,Ae n]at l;cases l
  ·have c:k≠σ.next:=λe=>by have:=St.lv_lt q g;omega
   exact .inr (.inr ⟨k,n.elim (λh=>.inr (.inl h)) λh=>.inr (.inr (.inr h)),λh=>c (St.rng_puts.1 h),g,p⟩)
 dist:=λi j J K _ _ z=>by
  obtain rfl:=St.rng_puts.1 J;exact Aq (St.rng_puts.1 K).symm z
 nl:=λid a=>by
  obtain rfl:=St.rng_puts.1 a;exact St.hdr_none q _ (Ak _)
 wl:=λid k hx _=>by
  rcases hx with hx|hx
  ·cases hx
  ·exact F id hx
 wrm:=λid a hx=>by
  by_cases A:id∈gs
  ·obtain⟨y,l,_⟩:=hx;rw[St.new_hdr,St.puts_next,AY λe=>a (St.rng_puts.2 e),St.puts_hdr,Ae A]at l;cases l
  ·exact hx.of_hdr (by rw[St.new_hdr,St.puts_next,AY λe=>a (St.rng_puts.2 e),St.puts_hdr,AY A])
 wrow:=λid k hx a=>by
  rcases hx with hx|hx
  ·cases hx
  ·exact Aq hx a
theorem Post.setVec{id:AB}{t:Ty}{l d:AE t.Den}{a:AQ}{rh:AE AB}{rc:AE (AB×AB)}(g:σ.heap.get id=AC (.vec t l a))(m:BI P ι id w' (.vec t d a))(n:w.heap.size<=w'.heap.size)(h:w'.os=w.os)(f:w'.output=w.output)(o:∀b,b<w.heap.size->¬(ι id).Own b->w'.heap[b]?=w.heap[b]?):
  Post P D (σ.rng (σ.put id (AC (.vec t d a)))) ι σ.H w ⟨rc,rh,[],[id]⟩ ι (σ.put id (AC (.vec t d a))).H w' where
 io:=λ_ _=>rfl
 size:=n
 os:=h
 out:=f
 hdr:=by
  rintro j x (hx|hx) e
  ·have:j=id:=by simpa[Foot.Wi]using hx
   subst this;rw[St.put_hdr,Ae rfl]at e;cases e;exact m
  ·simp only[St.rng,St.put]at hx;omega
 cel:=by
  rintro j k v (hx|hx) lv e
  ·have:j=id:=by simpa[Foot.Wc]using hx
   subst this;rw[St.put_cell,Ae rfl]at e;cases e
  ·simp only[St.rng,St.put]at hx;omega
 ahdr:=λj _ hx=>by rw[St.put_hdr,AY λe=>hx (by simp[Foot.Wi,e])]
 acel:=λj k _ hx=>by rw[St.put_cell,AY λe=>hx (by simp[Foot.Wc,e])]
 cfr:=λb p hx=>by
  rw[o b p (hx id (by simp[Foot.Wi]) ⟨_,St.hdr_of g,A3⟩)];exact CR.refl _ _
 fresh:=λj c=>by simp only[St.rng,St.put]at c;omega
 freshF:=λj c=>by simp only[St.rng,St.put]at c;omega
 dist:=λi j c=>by simp only[St.rng,St.put]at c;omega
 nl:=λj c=>by simp only[St.rng,St.put]at c;omega
 wl:=λj k hx _=>by
  have:j=id:=by simpa[Foot.Wc]using hx
  subst this;exact St.lv_of g
 wrm:=λj _ hx=>by
  by_cases e:j=id
  ·subst e;exact⟨_,St.hdr_of g,A3⟩
  ·exact hx.of_hdr (by rw[St.put_hdr,AY e])
 wrow:=λj k hx c=>Aq (by rcases hx with hx|hx;cases hx;exact hx) c
structure CD(α:Type) where
 x:α
 r:AE AJ
 i:AE AB
 g:AE AB
 p:AE AH
def jf{α:Type}(f:AE AJ->AP (CD α)):AB->AE AJ->AP (CD (AE α))
 |0,a=>AC ⟨[],a,[],[],[]⟩
 |n+1,a=>match f a with
  |some ⟨x,r,i,g,p⟩=>match jf f n r with
   |some ⟨b,c,j,h,q⟩=>AC ⟨x::b,c,i++j,g++h,p++q⟩
   |none=>AF
  |none=>AF
def Bq(σ:St):(t:Ty)->AE AJ->AP (CD t.Den)
 | .int k,v::r=>match DH v with
   |some (.int m n)=>bif AG (m=k)then AC ⟨n,r,[],[],[]⟩else AF
   |_=>AF
 | .byte,v::r=>match DH v with
   |some (.int .u8 n)=>AC ⟨Cj n.toNat,r,[],[],[AG (A4 .u8 n)]⟩
   |_=>AF
 | .bool,v::r=>match DH v with
   |some (.bool b)=>AC ⟨b,r,[],[],[]⟩
   |_=>AF
 | .f64,v::r=>match DH v with
   |some (.float .f64 b)=>AC ⟨b,r,[],[],[]⟩
   |_=>AF
 | .cx,v::r=>match DH v with
   |some (.complex .f64 a b)=>AC ⟨(a,b),r,[],[],[]⟩
   |_=>AF
 | .str,v::r=>match DH v with
   |some (.string s)=>AC ⟨Fg s,r,[],[],[]⟩
   |_=>AF
 | .unit,d=>AC ⟨(),d,[],[],[]⟩
 | .pair a b,d=>match Bq σ a d with
   |some ⟨x,r,i,g,p⟩=>match Bq σ b r with
    |some ⟨y,o,j,h,q⟩=>AC ⟨(x,y),o,i++j,g++h,p++q⟩
    |none=>AF
   |none=>AF
 | .slice a,v::r=>match v with
   | .slice AF 0 0=>AC ⟨[],r,[],[],[]⟩
   | .slice (AC ⟨_,_,AC 0⟩) 0 _=>AC ⟨[],r,[],[],[]⟩
   | .slice (AC ⟨id,off,AF⟩) n c=>match σ.heap.get id with
     |some (.row d _ AK)=>match jf (Bq σ a) n (d.drop off)with
      |some ⟨e,_,i,g,p⟩=>bif B8 (off+n*a.sz) d.length&&B8 n c then AC ⟨e,r,i,id::g,p⟩else AF
      |none=>AF
     |_=>AF
   | .tuple l=>match l.toList with
     |[.chan (AC 2),.pointer (AC ⟨id,0,AF⟩)]=>match σ.heap.get id with
      |some (.dat t e)=>if h:t=a then AC ⟨h▸e,r,[id],[],[]⟩else AF
      |some (.vec t e _)=>if h:t=a then AC ⟨h▸e,r,[],[id],[]⟩else AF
      |_=>AF
     |_=>AF
   |_=>AF
 | .err,v::r=>match je v with
   |some b=>AC ⟨b,r,[],[],[]⟩
   |none=>AF
 | .fn f,v::r=>match ZP v with
   |some g=>bif Af g f then AC ⟨(),r,[],[],[]⟩else AF
   |none=>AF
 | .fv,v::r=>match ZP v with
   |some g=>AC ⟨g,r,[],[],[]⟩
   |none=>AF
 | .ref a,v::r=>match v with
   | .pointer (AC ⟨id,off,AF⟩)=>match σ.heap.get id with
     |some (.row d _ AK)=>match jf (Bq σ a) 1 (d.drop off)with
      |some ⟨e,_,i,g,p⟩=>match e with
       |[x]=>bif B8 (off+a.sz) d.length then AC ⟨x,r,i,id::g,p⟩else AF
       |_=>AF
      |none=>AF
     |_=>AF
   |_=>AF
 | .clo f a,v::r=>match v with
   | .func (.func g) as d=>match as.toList with
     |[]=>bif Af g f then match Bq σ a d.toList with
      |some ⟨x,[],i,g,p⟩=>AC ⟨x,r,i,g,p⟩
      |_=>AF
      else AF
     |_=>AF
   |_=>AF
 |_,[]=>AF
open Classical in
def JT(ι:AB->Reg)(is gs:AE AB)(w:AN):AB->AP (Aa AJ):=λb=>
 if(∃id,id∈is/\(ι id).Fz b)\/∃id,id∈gs/\((ι id).Own b\/(ι id).Fz b)then(match w.heap[b]? with|some (.cells c _ _)=>AC c|_=>AF)else AF
section
variable {is gs:AE AB}
theorem dB{id:AB}(d:id∈is\/id∈gs)(f:DK (ι id).fz w)(b:AB)(c:Aa AJ)(h:(ι id).fz b=AC c):JT ι is gs w b=AC c:=by
 unfold JT;rw[Ae (d.imp (λa=>⟨id,a,c,h⟩) λa=>⟨id,a,.inr ⟨c,h⟩⟩)];obtain⟨e,fr,g⟩:=f b c h;rw[g]
theorem Xh{id:AB}(a:id∈gs){b:AB}(d:(ι id).Own b){c:Aa AJ}{e:AQ}{fr:AB×AB}(h:w.heap[b]?=AC (.cells c e fr)):JT ι is gs w b=AC c:=by
 unfold JT;rw[Ae (.inr ⟨id,a,.inl d⟩),h]
theorem ANK:DK (JT ι is gs w) w:=by
 intro b c h;unfold JT at h
 split at h
 ·split at h
  ·rename_i d e fr a;cases h;exact⟨e,fr,a⟩
  ·cases h
 ·cases h
theorem JG{b:AB}{c:Aa AJ}(h:JT ι is gs w b=AC c):(∃id,id∈is/\(ι id).Fz b)\/∃id,id∈gs/\((ι id).Own b\/(ι id).Fz b):=by
 unfold JT at h
 split at h
 ·assumption
 ·cases h
theorem Xi{fz:AB->AP (Aa AJ)}{a:Ty}(l:∀(b us:AE AJ) (c:CD a.Den),Bq σ a b=AC c->(∀id,id∈c.i->id∈is)->(∀id,id∈c.g->id∈gs)->FZ c.p->LR D ι b us->∃d f,us=d++f/\Cw fz a c.x d/\LR D ι c.r f):
  ∀(n:AB) (b us:AE AJ) (c:CD (AE a.Den)),jf (Bq σ a) n b=AC c->(∀id,id∈c.i->id∈is)->(∀id,id∈c.g->id∈gs)->FZ c.p->LR D ι b us->c.x.length=n/\∀i x,c.x[i]?=AC x->Cw fz a x ((us.drop (i*a.sz)).take a.sz)
 |0,b,us,c,h,_,_,_,_=>by
  simp only[jf,BJ]at h;subst h;exact⟨rfl,λi x t=>by simp at t⟩
 |n+1,b,us,c,h,m,o,u,v=>by
  simp only[jf]at h
  split at h
  ·rename_i x r i g q w
   split at h
   ·rename_i z A j B C E;cases h;obtain⟨F,G⟩:=Ci u;obtain⟨d,f,rfl,g1,H⟩:=l b us ⟨x,r,i,g,q⟩ w (λid h=>m id (by simp at h⊢;exact .inl h)) (λid h=>o id (by simp at h⊢;exact .inl h)) F v;obtain⟨s,I⟩:=Xi l n r f ⟨z,A,j,B,C⟩ E (λid h=>m id (by simp at h⊢;exact .inr h)) (λid h=>o id (by simp at h⊢;exact .inr h)) G H
    have e:=(Lh a x d g1).1;refine⟨by simp at s⊢;exact s,λi y k=> ?_⟩;rcases i with _|i
    ·simp only[EM,BJ]at k;subst k;rw[I6,Do,zI (by omega),GB (by omega)];exact g1
    ·have:=I i y (by simpa using k);rw[show(i+1)*a.sz=d.length+i*a.sz by rw[e,DB];omega,<-En,RN];exact this
   ·cases h
  ·cases h
theorem G0(hd:∀id,id∈is\/id∈gs->∀x,σ.H.hdr id=AC x->BI P ι id w x)(hce:∀id,id∈gs->∀k v,Lv σ.H id->σ.H.cell id k=AC v->Cl D ι id w k v):
  ∀(t:Ty) (C us:AE AJ) (c:CD t.Den),Bq σ t C=AC c->(∀id,id∈c.i->id∈is)->(∀id,id∈c.g->id∈gs)->FZ c.p->LR D ι C us->∃Z u2,us=Z++u2/\Cw (JT ι is gs w) t c.x Z/\LR D ι c.r u2:=by
 intro t
 induction t with
 |int k=>
  intro C us c h _ _ _ o;cases o with
  |nil=>simp[Bq]at h
  |cons s z=>
   simp only[Bq]at h
   split at h
   ·rename_i k' n m;cases M:AG (k'=k)
    ·rw[M]at h;cases h
    ·rw[M]at h;cases h;have:=BL M;subst this;exact⟨[_],_,rfl,by rw[(Ay m s).1];rfl,z⟩
   ·cases h
 |byte=>
  intro C us c h _ _ N o;cases o with
  |nil=>simp[Bq]at h
  |cons s z=>
   simp only[Bq]at h
   split at h
   ·rename_i n m;cases h;refine⟨[_],_,rfl,?_,z⟩;rw[(Ay m s).1];simp only[Cw];rw[<-Ru (BL N.1)]
   ·cases h
 |bool=>
  intro C us c h _ _ _ o;cases o with
  |nil=>simp[Bq]at h
  |cons s z=>
   simp only[Bq]at h
   split at h
   ·rename_i b m;cases h;exact⟨[_],_,rfl,by rw[(Ay m s).1];rfl,z⟩
   ·cases h
 |ref a ih=>
  intro C us c h E I N o;cases o with
  |nil=>simp[Bq]at h
  |cons s z=>
   simp only[Bq]at h
   split at h
   ·rename_i id off
    split at h
    ·rename_i d el H3
     split at h
     ·rename_i R r0 i0 g0 q hr
      split at h
      ·rename_i x;cases j:B8 (off+a.sz) d.length
       ·rw[j]at h;cases h
       rw[j,Ag]at h;have j:=GJ j;cases h;have B:id∈gs:=I id (by simp);have hdr:=hd id (.inr B) _ (St.hdr_of H3);obtain⟨A,e,fr,K,e2,e3,⟨e4,e5⟩,e6⟩:=hdr;have S:=Xh (is:=is) B (⟨e4,rfl⟩:(ι id).Own (ι id).blk) K;have F:∀k,k<d.length->∃u,A.toList[(ι id).base+k]?=AC u/\∃v,d[k]?=AC v/\VR D ι v u:=by
        intro k M;obtain⟨_,u,m,G⟩:=hce id B k d[k] (St.lv_of H3) (by rw[St.cell_of H3];exact B4 M);simp only[C0,K,Df,CI,BR]at m;exact⟨u,by rw[Bf];exact m,d[k],B4 M,G⟩
       have T:LR D ι (d.drop off) (((A.toList.drop (ι id).base).take d.length).drop off):=by
        refine LR.drop off (LR.of_AR ⟨?_,λi a b O j=> ?_⟩)
        ·simp only[Hx,Bw,CC,D0];have:d.length<=(ι id).room:=e3;omega
        ·simp only[ANI]at O j;rw[CB]at j
         split at j
         ·rename_i E;obtain⟨u,m,v,U,G⟩:=F i E;rw[CA,m]at j;rw[U]at O;cases O;cases j;exact G
         ·cases j
       obtain⟨L,V⟩:=Xi (fz:=JT ι is gs w) (λC us c W X h3 h4 h5=>ih C us c W X h3 h4 h5) 1 _ _ ⟨[x],r0,i0,g0,q⟩ hr E (λid h=>I id (by simp at h⊢;exact .inr h)) N T;have J:=V 0 x rfl;cases s with
       |ptr _ _ hD=>
        refine⟨[_],_,rfl,⟨(ι id).blk,(ι id).base+off,A,rfl,S,by have:d.length<=(ι id).room:=e3;omega,?_⟩,z⟩;have e:((((A.toList.drop (ι id).base).take d.length).drop off).drop (0*a.sz)).take a.sz=(A.toList.drop ((ι id).base+off)).take a.sz:=by
         rw[I6,Do,iS,iV,En];congr 1;omega
        rw[e]at J;exact J
      ·cases h
     ·cases h
    ·cases h
   ·cases h
 |clo f a ih=>
  intro C us c h E I N o;cases o with
  |nil=>simp[Bq]at h
  |cons s z=>
   simp only[Bq]at h
   split at h
   ·rename_i g as d
    split at h
    ·rename_i has;cases j:Af g f
     ·rw[j]at h;cases h
     rw[j,Ag]at h;have:=Br j;subst this
     split at h
     ·rename_i x i0 g0 q hr;cases h;cases s with
      |func _ _ bs' _ ds' W X h3 h4=>
       obtain⟨Z,u2,K,L,V⟩:=ih d.toList ds'.toList ⟨x,[],i0,g0,q⟩ hr E I N (LR.of_AR ⟨by simpa using X,by simpa using h4⟩);cases V;rw[Ce]at K;subst K;have hz:bs'=#[]:=by
        have:as=#[]:=Array.toList_eq_nil_iff.1 has;subst this;exact PG (by simpa using W.symm)
       subst hz;exact⟨[_],_,rfl,⟨ds'.toList,by simp,L⟩,z⟩
     ·cases h
    ·cases h
   ·cases h
 |f64=>
  intro C us c h _ _ _ o;cases o with
  |nil=>simp[Bq]at h
  |cons s z=>
   simp only[Bq]at h
   split at h
   ·rename_i b m;cases h;exact⟨[_],_,rfl,by rw[(Ay m s).1];rfl,z⟩
   ·cases h
 |cx=>
  intro C us c h _ _ _ o;cases o with
  |nil=>simp[Bq]at h
  |cons s z=>
   simp only[Bq]at h
   split at h
   ·rename_i a b m;cases h;exact⟨[_],_,rfl,by rw[(Ay m s).1];rfl,z⟩
   ·cases h
 |str=>
  intro C us c h _ _ _ o;cases o with
  |nil=>simp[Bq]at h
  |cons s z=>
   simp only[Bq]at h
   split at h
   ·rename_i b m;cases h;exact⟨[_],_,rfl,by rw[(Ay m s).1];simp only[Cw,NJ],z⟩
   ·cases h
 |unit=>
  intro C us c h _ _ _ o;simp only[Bq,BJ]at h;subst h;exact⟨[],us,rfl,rfl,o⟩
 |err=>
  intro C us c h _ _ _ o;cases o with
  |nil=>simp[Bq]at h
  |cons s z=>
   simp only[Bq]at h
   split at h
   ·rename_i b m;cases h;exact⟨[_],_,rfl,⟨_,rfl,MU m s⟩,z⟩
   ·cases h
 |fv=>
  intro C us c h _ _ _ o;cases o with
  |nil=>simp[Bq]at h
  |cons s z=>
   simp only[Bq]at h
   split at h
   ·rename_i g m;cases h;exact⟨[_],_,rfl,by rw[H5 m s];rfl,z⟩
   ·cases h
 |fn f=>
  intro C us c h _ _ _ o;cases o with
  |nil=>simp[Bq]at h
  |cons s z=>
   simp only[Bq]at h
   split at h
   ·rename_i g m;cases j:Af g f
    ·rw[j]at h;cases h
    ·rw[j]at h;cases h;have:=Br j;subst this;exact⟨[_],_,rfl,by rw[H5 m s];rfl,z⟩
   ·cases h
 |pair a b iha ihb=>
  intro C us c h E I N o;simp only[Bq]at h
  split at h
  ·rename_i x1 r1 i1 g1 p1 W
   split at h
   ·rename_i x2 r2 i2 g2 p2 X;cases h;obtain⟨q1,q2⟩:=Ci N;obtain⟨Z,u2,rfl,L,V⟩:=iha C us ⟨x1,r1,i1,g1,p1⟩ W (λid h=>E id (by simp at h⊢;exact .inl h)) (λid h=>I id (by simp at h⊢;exact .inl h)) q1 o;obtain⟨v1,v2,rfl,k3,k4⟩:=ihb r1 u2 ⟨x2,r2,i2,g2,p2⟩ X (λid h=>E id (by simp at h⊢;exact .inr h)) (λid h=>I id (by simp at h⊢;exact .inr h)) q2 V
    exact⟨Z++v1,v2,by simp,⟨Z,v1,rfl,L,k3⟩,k4⟩
   ·cases h
  ·cases h
 |slice a ih=>
  intro C us c h E I N o;cases o with
  |nil=>simp[Bq]at h
  |cons s z=>
   simp only[Bq]at h
   split at h
   ·cases h;cases s;exact⟨[_],_,rfl,⟨_,rfl,.inl ⟨⟨_,_,rfl⟩,rfl⟩⟩,z⟩
   ·cases h;cases s;exact⟨[_],_,rfl,⟨_,rfl,.inl ⟨⟨_,_,rfl⟩,rfl⟩⟩,z⟩
   ·rename_i id off n cp
    split at h
    ·rename_i d el H3
     split at h
     ·rename_i R r0 i0 g0 q hr;cases j:(B8 (off+n*a.sz) d.length&&B8 n cp)
      ·rw[j]at h;cases h
      rw[j,Ag]at h;rw[A0]at j;have hb2:=GJ j.2;have j:=GJ j.1;cases h;obtain⟨c',rfl,hD,hc1,hc2⟩:=s.sl_inv;have B:id∈gs:=I id (by simp);have hdr:=hd id (.inr B) _ (St.hdr_of H3);obtain⟨A,e,fr,K,e2,e3,⟨e4,e5⟩,e6⟩:=hdr;have S:=Xh (is:=is) B (⟨e4,rfl⟩:(ι id).Own (ι id).blk) K
      have F:∀k,k<d.length->∃u,A.toList[(ι id).base+k]?=AC u/\∃v,d[k]?=AC v/\VR D ι v u:=by
       intro k M;obtain⟨_,u,m,G⟩:=hce id B k d[k] (St.lv_of H3) (by rw[St.cell_of H3];exact B4 M);simp only[C0,K,Df,CI,BR]at m;exact⟨u,by rw[Bf];exact m,d[k],B4 M,G⟩
      have T:LR D ι (d.drop off) (((A.toList.drop (ι id).base).take d.length).drop off):=by
       refine LR.drop off (LR.of_AR ⟨?_,λi a b O j=> ?_⟩)
       ·simp only[Hx,Bw,CC,D0];have:d.length<=(ι id).room:=e3;omega
       ·simp only[ANI]at O j;rw[CB]at j
        split at j
        ·rename_i E;obtain⟨u,m,v,U,G⟩:=F i E;rw[CA,m]at j;rw[U]at O;cases O;cases j;exact G
        ·cases j
      obtain⟨L,V⟩:=Xi (fz:=JT ι is gs w) (λC us c W X h3 h4 h5=>ih C us c W X h3 h4 h5) n _ _ ⟨R,r0,i0,g0,q⟩ hr E (λid h=>I id (by simp at h⊢;exact .inr h)) N T;have L:R.length=n:=L;have hnc:n<=c':=by
       by_cases m:cp=IX
       ·exact(hc2 m).1
       ·rw[hc1 m];exact hb2
      refine⟨[_],_,rfl,⟨_,rfl,.inr ⟨(ι id).blk,(ι id).base+off,c',A,by rw[L],S,by rw[L];have:d.length<=(ι id).room:=e3;omega,by rw[L];exact hnc,λi y hy=> ?_⟩⟩,z⟩;have J:=V i y hy;have E:i<n:=by
       rcases Cf i n with h|h
       ·exact h
       ·have hy:R[i]?=AC y:=hy;rw[DA (by omega)]at hy;cases hy
      have Y:i*a.sz+a.sz<=n*a.sz:=by
       have:=Gc a.sz E;rwa[Wp]at this
      have e:((((A.toList.drop (ι id).base).take d.length).drop off).drop (i*a.sz)).take a.sz=(A.toList.drop ((ι id).base+off+i*a.sz)).take a.sz:=by
       rw[En,iS,iV,En,Dg];congr 1;omega
      rw[e]at J;exact J
     ·cases h
    ·cases h
   ·rename_i A
    split at h
    ·rename_i id O;rw[CV O]at s;obtain⟨a',l,cp,rfl,hD,hsv⟩:=FQ s
     split at h
     ·rename_i t R H3
      split at h
      ·rename_i he;subst he;cases h;have Y:=E id (by simp);obtain⟨g1, -, -,g4⟩:=hd id (.inl Y) _ (St.hdr_of H3);rw[hsv]at g1;exact⟨[_],_,rfl,⟨_,rfl,(g1.mono λb c h=>dB (.inl Y) g4 b c h)⟩,z⟩
      ·cases h
     ·rename_i t R el H3
      split at h
      ·rename_i he;subst he;cases h;have Y:=I id (by simp);obtain⟨-,g4,g5⟩:=hd id (.inr Y) _ (St.hdr_of H3);refine⟨[_],_,rfl,⟨_,rfl,?_⟩,z⟩;rw[<-hsv];refine g5.imp (λ⟨_,K,q,e2⟩=>⟨⟨_,_,e2⟩,K⟩) ?_;rintro⟨o1,o2,cap,Q,fr,s1,s2,s3,s4,s5,s6,s7,s8⟩;have hmul:=Gc t.sz s2;refine⟨_,_,_,Q,s1,Xh Y ⟨o1,rfl⟩ s3,(by show(ι id).base+R.length*t.sz<=Q.size;omega),s2,λi x hx=> ?_⟩
       have:=(s8 i x hx).2;rw[En]at this;exact Cw.mono (λb c h=>dB (.inr Y) g4 b c h) _ _ _ this
      ·cases h
     ·cases h
    ·cases h
   ·cases h
end
end
end Go.Eng
end
end
end
section
noncomputable section
noncomputable section
namespace Go.Eng
open Go
section
variable {P:Ao} {T:TE} (hT:T.OK P) {D:AB->Prop} {ι:AB->Reg} {σ:St} {w:AN}
def tb(T:TE)(σ:St)(a:AQ)(s:L8):AP R:=
 match T.inf a with
 |some i=>bif Af i.size 1 then AC ⟨dt σ.next,σ.new (.vec .byte s a),.nil⟩else AF
 |none=>AF
include hT
theorem dC{a:AQ}{s:L8}{r:R}(h:tb T σ a s=AC r):Ab P D ι σ w (bb a (bs s)) r:=by
 unfold tb at h
 split at h
 ·rename_i i v;cases e:Af i.size 1
  ·rw[e]at h;cases h
  ·rw[e,Ag]at h;have m:=Br e;cases h;refine⟨by simp[St.new],λp=>⟨St.new_wf p _,AFr.new _ _ _⟩,λp y _=> ?_⟩;have z:¬D σ.next:=y _ (by simp[St.rng,St.new]);let cap:=(Mx (bs s).size 0 a).cut (w.tape w.drawn (.appendCap (bs s).size 0 a));have f:(bs s).size<=cap:=cq _ _ _ _
   have A:(bs s).size=s.length:=rfl;let c:Aa AJ:=(bs s).data.map (λb=>Ht .u8 b.toNat)++Array.replicate (cap-(bs s).size) (.int .u8 0);have B:c.size=cap:=by
    have C:(bs s).data.size=(bs s).size:=rfl;simp only[c,ANM,Array.size_map,Array.size_replicate,C];omega
   let d:Reg:=DD w.heap.size 0 c.size 1 (λ_=>AF) (.slice (AC ⟨w.heap.size,0,AF⟩) s.length cap);refine⟨.slice (AC ⟨w.heap.size,0,AF⟩) s.length cap,FR ι σ.next d,{ w with drawn:=w.drawn+1,heap:=w.heap.push (.cells c a (c.size,c.size+1))},?_,?_,?_⟩
   ·have E:(Mx (bs s).size 0 a).forced=false:=rfl;have F:(w.heap.push (.cells c a (0,0)))[w.heap.size]?=AC (.cells c a (0,0)):=BN w _;simp only[bb,A7,run_choose,E,CI,BR,Ax,Mz,MD,A9,markStringish,run_shape,World.shape?]
    show((match(match(w.heap.push (.cells c a (0,0)))[w.heap.size]? with|some (.cells c a _)=>AC (a,c.size)|_=>AF)with|some (_,n)=>freeze { block:=w.heap.size,off:=n} 1|_=>Ck ()).run P _).andThen _=_;rw[F];simp only[run_freeze,Ax,World.freeze];rw[AY (by omega)];simp only[QV,beq_self_eq_true,if_true]
    rfl
   ·exact .dat _ _ _ _ (.inr (by simp[St.rng,St.new])) (by rw[Am];rfl)
   ·refine Fh (gs:=[]) (rc:=[]) (rh:=[]) p ?_ (by simp) rfl rfl (λb e _=>BD w _ e) (λid h=>by cases h) (λ_=>.inl ⟨Ak _,by simp[d,DD]⟩) (λb ⟨c,h⟩=>by cases h);simp only[BI,Am];refine⟨rfl,λb c h=>(by cases h),.inr ⟨rfl,λ⟨c,h⟩=>(by cases h),cap,c,(c.size,c.size+1),rfl,f,BN w _,by simp[d,DD],?_,λj t=> ?_,λo G g=> ?_,λk x g=> ?_⟩⟩
    ·simp only[Ty.sz,d,DD,Gd];omega
    ·rw[hT.inf _ _ v]at t;cases t;exact⟨m.symm,by rw[m];exact PK _,by rw[m];exact PK _⟩
    ·simp only[Ty.slk]at g G;omega
    ·have q:k<s.length:=by
      rcases Cf k s.length with h|h
      ·exact h
      ·rw[DA h]at g;cases g
     have l:c.toList[k]?=AC (.int .u8 x.toNat):=by
      rw[Bf];simp only[c];rw[Array.getElem?_append_left (by simpa[bs]using q),Array.getElem?_map,<-Bf];show Option.map _ (s[k]?)=_;rw[g];rfl
     have u:k<c.toList.length:=by simp[B];omega
     simp only[d,DD,Do,Ty.sz,Gd];refine⟨by omega,?_⟩;rw[B4 u,BJ]at l;rw[Ef u,iU,iW,l];rfl
 ·cases h
omit hT
def mo(σ:St)(x:AJ):AP R:=
 match x with
 | .tuple a=>match a.toList with
   |[.chan (AC 2),.pointer (AC ⟨id,0,AF⟩)]=>match JX (σ.heap.get id)with
    |some ⟨.byte,b⟩=>AC ⟨sy (.string (bs b)),σ,⟨[],[id],[],[]⟩⟩
    |_=>AF
   |_=>AF
 |_=>AF
theorem Qp{fz:AB->AP (Aa AJ)}:∀(a:L8) (us:AE AJ),us.length=a.length->(∀i x,a[i]?=AC x->Cw fz .byte x ((us.drop (i*1)).take 1))->us=Ee a
 |[],[],_,_=>rfl
 |[],_::_,h,_=>by simp at h
 |_::_,[],h,_=>by simp at h
 |x::a,u::us,h,b=>by
  have c:=b 0 x rfl;simp only[Cw,I6,Do,iU,iW,iX,iZ]at c;have:=Qp a us (by simpa using h) λi y d=>by
   have:=b (i+1) y (by simpa using d);rwa[show(i+1)*1=i*1+1 by omega,List.drop_succ_cons]at this
  rw[c,this];rfl
theorem Kg:∀(a:L8),Dk (Ee a)=AC a
 |[]=>rfl
 |x::a=>by simp[Ee,Dk,Rs,Kg a]
theorem NM{b o n:AB}{a:Aa AJ}{e:AQ}{fr:AB×AB}(h:w.heap[b]?=AC (.cells a e fr))(g:o+n<=a.size):
  ∃c:Aa AJ,(∀w':AN,w'.heap=w.heap->(iR ⟨b,o,AF⟩ n).run P w'=.ok c w')/\c.toList=(a.toList.drop o).take n:=by
 refine⟨_,λw' d=>run_loadCells w' _ n (λj=>a.getD (o+j) Bi) λj i=> ?_,?_⟩
 ·rw[CU,Vf d];simp only[C0,h,Df,CI,BR];rw[O9,CX (by omega)];rfl
 ·apply iT;intro k;simp only[Fe,CB];by_cases f:k<n
  ·rw[Ae f,List.getElem?_range f,CA,Bf,CX (by omega)];simp[O9,CX (show o+k<a.size by omega)]
  ·rw[AY f,DA (by simp;omega)];rfl
theorem dD{x p:AJ}{r:R}(h:mo σ x=AC r)(g:VR D ι x p):Ab P D ι σ w (Ui p) r:=by
 unfold mo at h
 split at h
 ·rename_i a
  split at h
  ·rename_i id B;rw[CV B]at g;obtain⟨q,l,c,rfl,N,j⟩:=FQ g
   split at h
   ·rename_i d C;cases h;refine Ab.same (w':=w) (v':=.string (bs d)) (λE=> ?_) rfl rfl;refine⟨?_,.sym _ rfl,rfl,rfl,rfl⟩;have m:=KF C (.inr (.inl (by simp))) E;rcases m.rd with⟨⟨O,F,e⟩,G⟩|⟨b,o,F,H,el,fr,g1,I,g3,g4,s,_⟩
    ·rw[j]at e;cases e;subst G;cases q with
     |none=>rfl
     |some Q=>rfl
    ·rw[j]at g1;cases g1;simp only[Ty.sz,Gd]at g3 s;obtain⟨t,J,u⟩:=NM (P:=P) I g3;have y:=Qp d t.toList (by rw[u];simp;omega) λi x g=>by
      have n:=s i x g;have K:i<d.length:=by
       rcases Cf i d.length with h|h
       ·exact h
       ·rw[DA h]at g;cases g
      rw[u,iS,iV,En,Gd];rwa[show min 1 (d.length-i)=1 by omega]
     have f:=N3 (D:=D) (ι:=ι) P w (Ee d) t.toList d .empty (Kg d) (by rw[y]) λk v v' n A=>by
      rw[y,n]at A;cases A;exact Bk 8 v (by
       rw[FD]at n;simp only[Fe,Option.map_eq_some_iff]at n;obtain⟨_,_,rfl⟩:=n;rfl)
     have L:(⟨(RI).data++d.toArray⟩:Cg)=bs d:=by apply Kp;simp[bs]
     rw[L]at f;simp only[Ui,A7,J w rfl,Ax];rw[<-zE];have:∀z:Result Cg,z=.ok (bs d) w->(z.andThen λa w'=>(Ck (E9 a):Sem AJ).run P w')=.ok (.string (bs d)) w:=λz M=>by rw[M];rfl
     exact this _ f
   ·cases h
  ·cases h
 ·cases h
end
open Go
section
variable {fz fz':AB->AP (Aa AJ)} {t:Ty}
theorem Et.mono(h:∀b c,fz b=AC c->fz' b=AC c){a:AE t.Den}{d:AE AJ}(e:Et fz t a d):Et fz' t a d:=λi x f=>⟨(e i x f).1,Cw.mono h _ _ _ (e i x f).2⟩
theorem GP{α:Type}{l:AE α}{i:AB}{x:α}(h:l[i]?=AC x):i<l.length:=by
 rcases Cf i l.length with a|a
 ·exact a
 ·rw[DA a]at h;cases h
theorem N9{n k s:AB}(h:k<n):k*s+s<=n*s:=by
 have:=Gc s (show k+1<=n from h);rwa[Wp]at this
theorem Et.congr{a:AE t.Den}{b ds:AE AJ}(d:Et fz t a b)(g:a.length*t.sz<=ds.length)(f:∀k,k<a.length*t.sz->ds[k]?=b[k]?):Et fz t a ds:=λi x c=>by
 have h:=N9 (s:=t.sz) (GP c);refine⟨by omega,?_⟩;have:=(d i x c).2;have e:(ds.drop (i*t.sz)).take t.sz=(b.drop (i*t.sz)).take t.sz:=by
  apply iT;intro k;rw[CB,CB]
  split
  ·rw[CA,CA,f _ (by omega)]
  ·rfl
 rw[e];exact this
theorem Et.app{a d:AE t.Den}{b ds:AE AJ}(g:Et fz t a b)(j:b.length=a.length*t.sz)(k:Et fz t d ds):Et fz t (a++d) (b++ds):=λi x h=>by
 by_cases f:i<a.length
 ·rw[EE f]at h;have c:=g i x h;have:=N9 (s:=t.sz) f;refine⟨by rw[BA];omega,?_⟩;rw[List.drop_append_of_le_length (by omega),zI (by rw[CC];omega)];exact c.2
 ·rw[Fw (by omega)]at h;have c:=k _ x h;have e:i*t.sz=b.length+(i-a.length)*t.sz:=by
   rw[j,<-DB];congr 1;omega
  refine⟨by rw[BA,e];omega,?_⟩;rw[e,<-En,RN];exact c.2
theorem Et.set{a:AE t.Den}{d ds us:AE AJ}{i:AB}{x:t.Den}(g:Et fz t a d)(o:i<a.length)(m:Cw fz t x us)(p:us.length=t.sz)(q:ds.length=d.length)(l:∀k,ds[k]?=if i*t.sz<=k/\k<i*t.sz+us.length then us[k-i*t.sz]? else d[k]?):Et fz t (a.set i x) ds:=λk y b=>by
 have f:k<a.length:=by have:=GP b;simpa using this
 have n:=N9 (s:=t.sz) f;have r:=(g k a[k] (B4 f)).1;refine⟨by omega,?_⟩;by_cases c:k=i
 ·subst c;rw[zH f]at b;cases b;have e:(ds.drop (k*t.sz)).take t.sz=us:=by
   apply iT;intro j;rw[CB]
   split
   ·rw[CA,l,Ae (by omega)];congr 1;omega
   ·rw[DA (by omega)]
  rw[e];exact m
 ·rw[r4 (ES c)]at b;have:=(g k y b).2;have e:(ds.drop (k*t.sz)).take t.sz=(d.drop (k*t.sz)).take t.sz:=by
   apply iT;intro j;rw[CB,CB]
   split
   ·rename_i u;rw[CA,CA,l,AY];rintro⟨q1,v⟩;rcases Cf k i with h|h
    ·have:=N9 (s:=t.sz) h;omega
    ·have:=N9 (s:=t.sz) (show i<k by omega);omega
   ·rfl
  rw[e];exact this
theorem Rv:∀(t:Ty) (x:t.Den) (e:AE AJ),Cw fz t x e->∀v,v∈e->kt v=true:=by
 intro t
 induction t with
 |int k=>intro x e h v d;simp only[Cw]at h;subst h;rw[Cn]at d;subst d;rfl
 |byte=>intro x e h v d;simp only[Cw]at h;subst h;rw[Cn]at d;subst d;rfl
 |bool=>intro x e h v d;simp only[Cw]at h;subst h;rw[Cn]at d;subst d;rfl
 |str=>intro x e h v d;simp only[Cw]at h;subst h;rw[Cn]at d;subst d;rfl
 |unit=>intro x e h v d;simp only[Cw]at h;subst h;cases d
 |pair a b g i=>
  intro x e h v d;simp only[Cw]at h;obtain⟨c1,c2,rfl,m,n⟩:=h;rcases CH.1 d with d|d
  ·exact g _ _ m v d
  ·exact i _ _ n v d
 |slice a l=>
  intro x e h v d;simp only[Cw]at h;obtain⟨sv,rfl,h⟩:=h;rw[Cn]at d;subst d;rcases h with⟨⟨q,c,rfl⟩,_⟩|⟨b,o,c,j,rfl,_⟩<;>rfl
 |err=>
  intro x e h v d;obtain⟨u,rfl,p⟩:=h;rw[Cn]at d;subst d;cases v<;>first|rfl|cases p
 |fn f=>intro x e h v d;simp only[Cw]at h;subst h;rw[Cn]at d;subst d;rfl
 |fv=>intro x e h v d;simp only[Cw]at h;subst h;rw[Cn]at d;subst d;rfl
 |f64=>intro x e h v d;simp only[Cw]at h;subst h;rw[Cn]at d;subst d;rfl
 |cx=>intro x e h v d;simp only[Cw]at h;subst h;rw[Cn]at d;subst d;rfl
 |ref a l=>intro x e h v d;simp only[Cw]at h;obtain⟨b,o,j,rfl,_⟩:=h;rw[Cn]at d;subst d;rfl
 |clo f a l=>intro x e h v d;simp only[Cw]at h;obtain⟨us,rfl,_⟩:=h;rw[Cn]at d;subst d;rfl
theorem J9{a:AE t.Den}{b:AE AJ}(h:Et fz t a b)(f:b.length=a.length*t.sz):∀v,v∈b->kt v=true:=by
 intro v g;obtain⟨k,i,rfl⟩:=List.mem_iff_getElem.1 g;have e:0<t.sz:=by
  rcases Nat.eq_zero_or_pos t.sz with c|c
  ·rw[c]at f;omega
  ·exact c
 have j:k/t.sz<a.length:=(Nat.div_lt_iff_lt_mul e).2 (by omega);have l:=(h _ _ (B4 j)).2;refine Rv t _ _ l _ ?_;have m:=Nat.div_add_mod k t.sz;have d:=Nat.mod_lt k e;rw[List.mem_iff_getElem?];refine⟨k%t.sz,?_⟩;rw[CB,Ae d,CA,show k/t.sz*t.sz+k%t.sz=k by rw[Nat.mul_comm];exact m,B4 i]
end
section
variable {P:Ao} {T:TE} (hT:T.OK P) {D:AB->Prop} {ι:AB->Reg} {σ:St} {w:AN}
def TI(T:TE)(σ:St)(t:AQ)(a v:AJ):AP R:=
 match a with
 | .pointer (AC ⟨id,i,AC 0⟩)=>match σ.heap.get id,T.inf t with
   |some (.vec d e b),AC f=>match v.cells.toList with
    |[]=>AF
    |y::c=>bif Af f.size (c.length+1)&&Af d.sz (c.length+1)&&(y::c).all oneC then match Bq σ d (y::c)with
      |some ⟨x,[],[],[],g⟩=>AC ⟨Bi,((σ.put id (AC (.vec d (e.set i x) b))).assumes g).assume (AG (i<e.length)),⟨[],[],[],[id]⟩⟩
      |_=>AF
     else AF
   |_,_=>AF
 |_=>AF
include hT
theorem Xj{t:AQ}{a Z v v':AJ}{r:R}(h:TI T σ t a v=AC r)(F:r.σ.Ok)(ha:VR D ι a Z)(hv:VR D ι v v'):Ab P D ι σ w (do Mw t Z v';Ck Bi) r:=by
 unfold TI at h
 split at h
 ·rename_i id i;obtain⟨b,o,l,c0,rfl,hD,G⟩:=OM ha
  split at h
  ·rename_i d xs n L M hi
   split at h
   ·cases h
   ·rename_i y E z;cases A:(Af L.size (E.length+1)&&Af d.sz (E.length+1)&&(y::E).all oneC)
    ·rw[A]at h;cases h
    rw[A,Ag]at h;rw[A0,A0]at A;obtain⟨⟨B,f⟩,H⟩:=A;have B:=Br B;have f:=Br f
    split at h
    ·rename_i x ps hc;cases h;have g:i<xs.length:=BL F.1;obtain⟨N, -⟩:=(Cs _ _).1 F.2;refine Ab.assume (Ab.assumes ps ⟨Ak _,λO=>⟨St.put_wf O (St.lv_lt O (St.lv_of M)) _,AFr.whole (by simp)⟩,λO hDn Q=> ?_⟩);obtain⟨K,e2,e3⟩:=Q.hd id _ (.inr (.inr (.inr (by simp)))) (St.hdr_of M)
     rcases e3 with⟨_,hn,_⟩|⟨g1,g2,cap,c,fr,g3,g4,g5,g6,g7,g8,g9,S⟩
     ·rw[hn]at g;simp at g
     obtain⟨rfl,rfl,rfl,rfl⟩:b=(ι id).blk/\o=(ι id).base/\l=xs.length/\cap=c0:=by
      rw[G]at g3;simp only[Wo,BJ,ry,iZ]at g3;exact⟨g3.1.1,g3.1.2,g3.2.1,g3.2.2.symm⟩
     have U:RX v=true:=by
      cases v with
      |chan r=>cases r with
       |none=>rfl
       |some r=>
        have V:[rz (AC r)]=y::E:=z;rw[<-V]at H;cases H
      |_=>rfl
     obtain⟨c1,c2⟩:=hv.cells U;have I:LR D ι (y::E) v'.cells.toList:=LR.of_AR ⟨by rw[<-z];simpa using c1,λk u u' h1 h2=>c2 k u u' (by rw[<-z]at h1;simpa using h1) (by simpa using h2)⟩;obtain⟨u1,u2,hu,m,W⟩:=G0 (is:=[]) (gs:=[]) (P:=P) (w:=w) (λid h=>by simp at h) (λid h=>by simp at h) d (y::E) v'.cells.toList _ hc (λid h=>by simp at h) (λid h=>by simp at h) N I
     cases W;rw[Ce]at hu;subst hu;have m:Cw (ι id).fz d x v'.cells.toList:=Cw.mono (λb c h=>by rcases JG h with⟨_,h,_⟩|⟨_,h,_⟩<;>cases h) _ _ _ m;have p:v'.cells.toList.length=d.sz:=by rw[f];exact I.len.symm
     have hle:=N9 (s:=d.sz) g;have hcap:=Gc d.sz g4;have q:=Ft P (ι id).blk ((ι id).base+i*(ι id).esz+0) n fr v'.cells.toList 0 c w g5 (by rw[K];omega) (Rv d _ _ m) (λo h=>g9 o (M1 _ h));rw[K]at q;refine⟨Bi,ι,_,?_,.tuple #[] #[] rfl (by simp),Post.setVec M (w':={ w with heap:=w.heap.setIfInBounds (ι id).blk (.cells (Cp c ((ι id).base+i*d.sz+0+0) v'.cells.toList) n fr)}) ?_ (by simp) rfl rfl λb A X=> ?_⟩
     ·have Y:¬v'.cells.size≠L.size:=by
       have:v'.cells.toList.length=L.size:=by rw[p,B,f]
       simpa using this
      simp only[Mw,Gs,rv,A7,A9,Ax,Bb hT hi];rw[AY Y,K,q];rfl
     ·have J:=BX g5;refine⟨K,e2.keep λb c' A=> ?_,.inr ⟨g1,g2,cap,Cp c ((ι id).base+i*d.sz+0+0) v'.cells.toList,fr,by rw[PL];exact G,by rw[PL];exact g4,by simp[J],by rw[Ad];exact g6,g7,λj hj=>by rw[Ad];exact g8 j hj,λo Q=>g9 o (by rwa[Ad]at Q),?_⟩⟩
      ·have C:(ι id).blk≠b:=λe=>g2 ⟨c',by rw[e];exact A⟩
       simp[C]
      ·refine Et.set S g m p (by simp[Ad]) λk=> ?_
       rw[CA,Bf,DL _ _ _ _ (by omega),CA,Bf];by_cases hk:i*d.sz<=k/\k<i*d.sz+v'.cells.toList.length
       ·rw[Ae (by omega),Ae hk,show(ι id).base+k-((ι id).base+i*d.sz+0+0)=k-i*d.sz by omega];exact(Bf).symm
       ·rw[AY (by omega),AY hk];exact(Bf).symm
     ·have C:(ι id).blk≠b:=λe=>X ⟨g1,e⟩
      simp[C]
    ·cases h
  ·cases h
 ·cases h
end
open Go
section
variable {P:Ao} {T:TE} (hT:T.OK P) {D:AB->Prop} {ι:AB->Reg} {σ:St} {w:AN}
def Fp(σ:St):AE AB->AH
 |[]=>AD
 |i::is=>match σ.heap.get i with
  |some _=>Fp σ is
  |none=>AK
def Me(σ:St):AE AB->AH
 |[]=>AD
 |i::is=>match σ.heap.get i with
  |some (.row _ _ AK)=>Me σ is
  |some (.vec _ _ _)=>Me σ is
  |_=>AK
def ZQ:AB->AE AB->AH
 |_,[]=>AK
 |n,x::a=>bif Af n x then AD else ZQ n a
def HA:AE AB->AE AB->AH
 |[],_=>AK
 |i::is,l=>ZQ i l||HA is l
theorem Ey:∀{l:AE AB},Fp σ l=AD->∀id,id∈l->Lv σ.H id
 |[],_,_,h=>by cases h
 |i::is,h,id,hm=>by
  simp only[Fp]at h
  split at h
  ·rename_i o a;rcases Dv.1 hm with rfl|hm
   ·exact St.lv_of a
   ·exact Ey h id hm
  ·cases h
theorem F3:∀{l:AE AB},Me σ l=AD->∀id,id∈l->Wr σ.H id
 |[],_,_,h=>by cases h
 |i::is,h,id,hm=>by
  simp only[Me]at h
  split at h
  ·rename_i b e a;rcases Dv.1 hm with rfl|hm
   ·exact⟨_,St.hdr_of a,rfl⟩
   ·exact F3 h id hm
  ·rename_i t c e a;rcases Dv.1 hm with rfl|hm
   ·exact⟨_,St.hdr_of a,A3⟩
   ·exact F3 h id hm
  ·cases h
theorem MV{n:AB}:∀{l:AE AB},ZQ n l=AK->n∉l
 |[],_=>by simp
 |x::c,h=>by
  simp only[ZQ]at h;cases a:Af n x
  ·rw[a,BZ]at h;have b:n≠x:=λe=>by rw[Ei e]at a;cases a
   simp only[Dv,not_or];exact⟨b,MV h⟩
  ·rw[a]at h;cases h
theorem F4:∀{l m:AE AB},HA l m=AK->∀id,id∈l->id∉m
 |[],_,_,_,h=>by cases h
 |i::is,m,h,id,hm=>by
  simp only[HA,Bool.or_eq_false_iff]at h;rcases Dv.1 hm with rfl|hm
  ·exact MV h.1
  ·exact F4 h.2 id hm
def fq(σ:St)(t:Ty)(b:AQ)(s:AJ):AP (AE t.Den×AE AB):=
 match s with
 | .slice AF 0 0=>AC ([],[])
 | .tuple a=>match a.toList with
   |[.chan (AC 2),.pointer (AC ⟨id,0,AF⟩)]=>match σ.heap.get id with
    |some (.vec c d e)=>if h:c=t then(bif Af e b then AC (h▸d,[id])else AF)else AF
    |_=>AF
   |_=>AF
 |_=>AF
def w6:AJ->AH
 | .tuple _=>AD
 |_=>AK
def dE(σ:St)(t:Ty)(a:AQ)(s x:AJ):AP (AE t.Den×AE AB):=
 match s with
 | .slice (AC ⟨_,_,AF⟩) 0 0=>bif w6 x then AC ([],[])else AF
 |s=>fq σ t a s
def AFj(t:Ty)(s:L8):AP (AE t.Den):=match t with
 | .byte=>AC s
 |_=>AF
def ABO(σ:St)(t:Ty)(x:AJ):AP (CD (AE t.Den)):=
 match DH x with
 |some (.string s)=>match AFj t (Fg s)with
  |some l=>AC ⟨l,[],[],[],[]⟩
  |none=>AF
 |_=>Bq σ (.slice t) [x]
def AN7(T:TE)(vt:AQ->AP Ty)(σ:St)(args:Aa AQ)(s x:AJ):AP R:=
 match args.toList with
 |f::xT::_=>match T.und f,T.und xT with
  |some (.slice a),AC d=>bif Pk d then AF else match vt a,T.inf a with
   |some t,AC e=>match e.zero,dE σ t a s x,ABO σ t x with
    |some z,AC (b,gs),AC ⟨c,_,i,g,h⟩=>
     bif Af e.size t.sz&&Af z.cells.size e.size&& !Nat.beq e.bytes 0&&Fp σ i&&Me σ g&& !HA gs (i++g)then
      AC ⟨dt σ.next,(((σ.puts (gs++g)).new (.vec t (b++c) a)).assumes h).assume (AG ((2*(b.length+c.length)+400)*e.bytes<=281474976710656)),⟨[],i,[],gs++g⟩⟩
     else AF
    |_,_,_=>AF
   |_,_=>AF
  |_,_=>AF
 |_=>AF
theorem mq{t:Ty}{x m:AJ}{c:CD (AE t.Den)}{is gs:AE AB}(h:ABO σ t x=AC c)(E:VR D ι x m)(G:∀id,id∈c.i->id∈is)(I:∀id,id∈c.g->id∈gs)(J:FZ c.p)(hd:∀id,id∈is\/id∈gs->∀x,σ.H.hdr id=AC x->BI P ι id w x)(u:∀id,id∈gs->∀k v,Lv σ.H id->σ.H.cell id k=AC v->Cl D ι id w k v):
  (∀w,(RK m).run P w=.ok c.x.length w)/\∃new:Aa AJ,(∀w':AN,w'.heap=w.heap->(GZ t.sz c.x.length m).run P w'=.ok new w')/\new.toList.length=c.x.length*t.sz/\Et (JT ι is gs w) t c.x new.toList:=by
 unfold ABO at h
 split at h
 ·rename_i s r;obtain⟨rfl,_⟩:=Ay r E;unfold AFj at h
  split at h
  ·rename_i l y
   split at y
   ·cases y;cases h;refine⟨λ_=>rfl,(Ee (Fg s)).toArray,λw' _=> ?_,by simp[IE,Ty.sz],λk x j=> ?_⟩
    ·simp only[GZ,A9];congr 1;apply Gr;rw[FD];show(bZ (λb=>Ht IntKind.u8 b.toNat) (s.extract 0 (Fg s).length).data).toList=_;have:s.extract 0 (Fg s).length=s:=by rw[<-GN];exact AJL
     rw[this];simp[Fg]
    ·have z:k<(Fg s).length:=GP j;simp only[Ty.sz,Gd];refine⟨by rw[IE];omega,?_⟩;have F:(Ee (Fg s))[k]?=AC (.int .u8 x.toNat):=by rw[FD,Fe,j];rfl
     have f:k<(Ee (Fg s)).length:=by rw[IE];exact z
     rw[B4 f,BJ]at F;rw[Ef f,iU,iW,F];rfl
   ·cases y
  ·cases h
 ·obtain⟨U,V,r,d, -⟩:=G0 (is:=is) (gs:=gs) hd u (.slice t) [x] [m] c h G I J (.cons E .nil);simp only[Cw]at d;obtain⟨sv,rfl,d⟩:=d;simp only[List.singleton_append,iX]at r;obtain⟨rfl, -⟩:=r;rcases d with⟨⟨q,K,rfl⟩,L⟩|⟨b,o,K,A,rfl,M,N,W,O⟩
  ·rw[L];refine⟨λ_=>rfl,#[],λw' _=> ?_,by simp,λk x j=>by simp at j⟩;cases q with
   |none=>rfl
   |some a=>simp[GZ,iR,ru]
  ·obtain⟨e,fr,Q⟩:=ANK b A M;obtain⟨R,S,B⟩:=NM (P:=P) (n:=c.x.length*t.sz) Q N;refine⟨λ_=>rfl,R,λw' C=>S w' C,by rw[B];simp;omega,λk x j=> ?_⟩;have T:=N9 (s:=t.sz) (GP j);refine⟨by rw[B];simp;omega,?_⟩;have:=O k x j;rw[B,iS,iV,En,show min t.sz (c.x.length*t.sz-k*t.sz)=t.sz by omega]
   exact this
theorem Vq{t:Ty}{b:AQ}{s d:AJ}{f:AE t.Den}{gs:AE AB}(h:fq σ t b s=AC (f,gs))(g:VR D ι s d):
  (gs=[]/\f=[]/\d=.slice AF 0 0)\/∃id q l c,gs=[id]/\σ.heap.get id=AC (.vec t f b)/\d=.slice q l c/\(ι id).sv=.slice q l c:=by
 unfold fq at h
 split at h
 ·cases h;cases g;exact .inl ⟨rfl,rfl,rfl⟩
 ·rename_i a
  split at h
  ·rename_i id k;rw[CV k]at g;obtain⟨q,l,c,rfl,p,i⟩:=FQ g
   split at h
   ·rename_i r m e n
    split at h
    ·rename_i o;subst o;cases j:Af e b
     ·rw[j]at h;cases h
     rw[j]at h;cases h;have:=Br j;subst this;exact .inr ⟨id,q,l,c,rfl,n,rfl,i⟩
    ·cases h
   ·cases h
  ·cases h
 ·cases h
theorem TJ{t:Ty}{a:AQ}{s b x:AJ}{d:AE t.Den}{gs:AE AB}(h:dE σ t a s x=AC (d,gs))(e:VR D ι s b):
  (gs=[]/\d=[]/\∃q,b=.slice q 0 0)\/∃id q l c,gs=[id]/\σ.heap.get id=AC (.vec t d a)/\b=.slice q l c/\(ι id).sv=.slice q l c:=by
 unfold dE at h
 split at h
 ·cases f:w6 x
  ·rw[f]at h;cases h
  rw[f]at h;cases h;cases e;exact .inl ⟨rfl,rfl,_,rfl⟩
 ·rcases Vq h e with⟨g,i,j⟩|h
  ·exact .inl ⟨g,i,_,j⟩
  ·exact .inr h
include hT
theorem dF{vt:AQ->AP Ty}{args:Aa AQ}{ty:AQ}{s s' x x':AJ}{r:R}(h:AN7 T vt σ args s x=AC r)(hok:r.σ.Ok)(hs:VR D ι s s')(hx:VR D ι x x'):
  Ab P D ι σ w (Eo args ty #[s',x']) r:=by
 unfold AN7 at h
 split at h
 ·rename_i sT xT rest G;have h0:args[0]?=AC sT:=by rw[<-Bf,G];rfl
  have h1:args[1]?=AC xT:=by rw[<-Bf,G];rfl
  split at h
  ·rename_i I d E F;cases hd:Pk d
   case true=>rw[hd]at h;cases h
   rw[hd,BZ]at h;have hd:=LW hd
   split at h
   ·rename_i t e hvt U
    split at h
    ·rename_i z p gs i r0 is g ps hz hl ha;cases u:(Af e.size t.sz&&Af z.cells.size e.size&& !Nat.beq e.bytes 0&&Fp σ is&&Me σ g&& !HA gs (is++g))
     ·rw[u]at h;cases h
     rw[u,Ag]at h;simp only[A0,Hr]at u;obtain⟨⟨⟨⟨⟨A,b2⟩,b3⟩,b4⟩,V⟩,b6⟩:=u;have A:=Br A;have b2:=Br b2;have b3:e.bytes≠0:=λe=>by rw[Ei e]at b3;cases b3
     have b4:=Ey b4;have V:=F3 V;have b6:=F4 b6;cases h;have J:(2*(p.length+i.length)+400)*e.bytes<=2^48:=BL hok.1;obtain⟨hps, -⟩:=(Cs _ _).1 hok.2;have hwrs:∀id,id∈gs->Wr σ.H id:=λid W=>by
      rcases TJ hl hs with⟨rfl, -⟩|⟨id0,q,l,c,rfl,h2, -⟩
      ·cases W
      ·rw[Cn]at W;subst W;exact⟨_,St.hdr_of h2,A3⟩
     have X:∀id,id∈gs++g->Wr σ.H id:=λid W=>(CH.1 W).elim (hwrs id) (V id)
     refine Ab.assume (Ab.assumes ps ⟨by simp[St.new,St.puts_next],λY=>(B6.puts (v:=Bi)).2 Y,λY hDn Z=> ?_⟩);obtain⟨m,new,hn,nl,y⟩:=mq (is:=is) (gs:=g) (P:=P) (w:=w) ha hx (λ_ h=>h) (λ_ h=>h) hps
      (λid W x=>Z.hd id x (W.elim (λh=>.inr (.inl h)) λh=>.inr (.inr (.inr (C3 _ h)))))
      (λid W k v=>Z.ce id k v (.inr (.inr (.inr (C3 _ W)))))
     have m:∀w,(RK x').run P w=.ok i.length w:=m;have nl:new.toList.length=i.length*t.sz:=nl;have hn:∀w':AN,w'.heap=w.heap->(GZ e.size i.length x').run P w'=.ok new w':=by rw[A];exact hn
     have y:Et (JT ι is g w) t i new.toList:=y;have K:∀b,(∃c,JT ι is g w b=AC c)->(w.heap.size<=b/\b<w.heap.size)\/(∃k,k∈gs++g/\Wr σ.H k/\(ι k).Own b)\/∃k,(k∈is\/k∈gs++g)/\Lv σ.H k/\(ι k).Fz b:=λb ⟨c,hc⟩=>by
      rcases JG hc with⟨k,k1,k2⟩|⟨k,k1,k2|k2⟩
      ·exact .inr (.inr ⟨k,.inl k1,b4 k k1,k2⟩)
      ·exact .inr (.inl ⟨k,C3 _ k1,V k k1,k2⟩)
      ·exact .inr (.inr ⟨k,.inr (C3 _ k1),(V k k1).lv,k2⟩)
     rcases TJ hl hs with⟨rfl,rfl,q,rfl⟩|⟨id,q,l,c,rfl,hg,rfl,hsv⟩
     ·
      by_cases hy:i.length=0
      ·have hy0:i=[]:=Gu.1 hy;subst hy0;refine⟨.slice q 0 0,FR ι σ.next ⟨0,0,0,t.sz,AK,λ_=>AF,.slice q 0 0⟩,w,?_,.dat _ _ _ _ (.inr (St.rng_puts.2 rfl)) (by rw[Am]),?_⟩
       ·rw[EP hT h0 h1 E F hd U m (Ak 0) (hn w rfl)];have L:new.toList=[]:=Gu.1 (by rw[nl];simp);rw[L];cases q<;>rfl
       ·exact Fh (gs:=g) (rc:=[]) (rh:=is) Y ⟨by rw[Am],λb c h=>(by rw[Am]at h;cases h),.inl ⟨by rw[Am],rfl,q,by rw[Am]⟩⟩ (Ak _) rfl rfl (λ_ _ _=>rfl) (λid h=>(V id h).lv) (λh=>by cases h) (λb ⟨c,h⟩=>by cases h)
      ·obtain⟨a,w',c1,c2,c3,c4,c5⟩:=FE hT (ty:=ty) (w:=w) (base:=q) (sLen:=0) (cap:=0) (old:=#[]) (n:=i.length) h0 h1 E F hd U hz b3 (by simpa using J) m (by omega) (λw' _=>by cases q<;>simp[GZ,iR,ru]) hn;rw[CJ]at c1 c2 c5;refine⟨_,FR ι σ.next (DD w.heap.size 0 (#[]++new++Ch z.cells (a-i.length)).size t.sz (JT ι is g w) (.slice (AC ⟨w.heap.size,0,AF⟩) i.length a)),w',c5,.dat _ _ _ _ (.inr (St.rng_puts.2 rfl)) (by rw[Am];rfl),?_⟩
       have f:(#[]++new++Ch z.cells (a-i.length)).size=a*t.sz:=by
        have:new.size=i.length*t.sz:=by simpa using nl
        simp only[iQ,ANM,BC,b2,A,this,<-DB];congr 1;omega
       refine Fh (gs:=g) (rc:=[]) (rh:=is) Y ?_ (by rw[c2];simp) c3 c4 (λb u _=>by rw[c2];exact BD w _ u) (λid h=>(V id h).lv) (λ_=>.inl ⟨Ak _,by rw[c2];simp[DD]⟩) (λb u=>(K b u).imp (λh=>by omega) λh=>h);simp only[BI,Am];refine⟨rfl,λb c h=> ?_,.inr ⟨rfl,λ⟨c,h⟩=> ?_,a,_,(0,0),rfl,by simpa using c1,by rw[c2];exact BN w _,by simp[DD],by simp only[DD];rw[f];exact Ak _,λj Q=> ?_,λo _ h=>by simp at h,?_⟩⟩
       ·obtain⟨e',fr,B⟩:=ANK b c h;exact⟨e',fr,by rw[c2,BD w _ (BX B)];exact B⟩
       ·obtain⟨e',fr,B⟩:=ANK _ c h;have:=BX B;simp only[DD]at this;omega
       ·rw[hT.inf _ _ U]at Q;cases Q;exact⟨A.symm,MF _,by rw[f,A];exact MC _ _⟩
       ·simp only[DN];refine y.congr ?_ λk M=> ?_
        ·simp only[DD,Do,D0];rw[f];exact Gc _ c1
        ·simp only[DD,Do,iQ,Kv];rw[EE (by omega)]
     ·obtain⟨k1,k2,k3⟩:=Z.hd id _ (.inr (.inr (.inr (by simp)))) (St.hdr_of hg);have N:∀k,k∈is\/k∈g->k≠id:=λk M e=>b6 id (by simp) (by subst e;exact CH.2 M)
      let MW:AB->AP (Aa AJ):=λb=>match(ι id).fz b with|some c=>AC c|none=>JT ι is g w b
      have u1:∀b c,(ι id).fz b=AC c->MW b=AC c:=λb c h=>by simp only[MW,h]
      have u2:∀b c,JT ι is g w b=AC c->MW b=AC c:=λb c h=>by
       simp only[MW]
       split
       ·rename_i c' hc';obtain⟨_,_,q1⟩:=ANK b c h;obtain⟨_,_,S⟩:=k2 b c' hc';rw[q1]at S;cases S;rfl
       ·exact h
      have u3:∀b c,MW b=AC c->(ι id).fz b=AC c\/JT ι is g w b=AC c:=λb c h=>by
       simp only[MW]at h
       split at h
       ·rename_i c' hc';cases h;exact .inl hc'
       ·exact .inr h
      have uok:DK MW w:=λb c h=>(u3 b c h).elim (k2 b c) (ANK b c)
      have uf:∀b,(∃c,MW b=AC c)->(∃k,k∈[id]++g/\Wr σ.H k/\(ι k).Own b)\/∃k,(k∈is\/k∈[id]++g)/\Lv σ.H k/\(ι k).Fz b:=λb ⟨c,hc⟩=>by
       rcases u3 b c hc with h|h
       ·exact .inr ⟨id,.inr (by simp),St.lv_of hg,c,h⟩
       ·exact(K b ⟨c,h⟩).elim (λh=>by omega) λh=>h
      rcases k3 with⟨j1,j2,q',j3⟩|⟨j1,j2,cap,c0,fr,j3,j4,j5,j6,j7,j8,j9,j10⟩
      ·
       rw[hsv]at j3;cases j3;have j2:p=[]:=j2;subst j2;by_cases hy:i.length=0
       ·have hy0:i=[]:=Gu.1 hy;subst hy0;refine⟨.slice q 0 0,FR ι σ.next ⟨0,0,0,t.sz,AK,λ_=>AF,.slice q 0 0⟩,w,?_,.dat _ _ _ _ (.inr (St.rng_puts.2 rfl)) (by rw[Am]),?_⟩
        ·rw[EP hT h0 h1 E F hd U m (Ak 0) (hn w rfl)];have L:new.toList=[]:=Gu.1 (by rw[nl];simp);rw[L];cases q<;>rfl
        ·exact Fh (gs:=[id]++g) (rc:=[]) (rh:=is) Y ⟨by rw[Am],λb c h=>(by rw[Am]at h;cases h),.inl ⟨by rw[Am],rfl,q,by rw[Am]⟩⟩ (Ak _) rfl rfl (λ_ _ _=>rfl) (λid h=>(X id h).lv) (λh=>by cases h) (λb ⟨c,h⟩=>by cases h)
       ·obtain⟨a,w',c1,c2,c3,c4,c5⟩:=FE hT (ty:=ty) (w:=w) (base:=q) (sLen:=0) (cap:=0) (old:=#[]) (n:=i.length) h0 h1 E F hd U hz b3 (by simpa using J) m (by omega) (λw' _=>by cases q<;>simp[GZ,iR,ru]) hn;rw[CJ]at c1 c2 c5;refine⟨_,FR ι σ.next (DD w.heap.size 0 (#[]++new++Ch z.cells (a-i.length)).size t.sz (JT ι is g w) (.slice (AC ⟨w.heap.size,0,AF⟩) i.length a)),w',c5,.dat _ _ _ _ (.inr (St.rng_puts.2 rfl)) (by rw[Am];rfl),?_⟩
        have f:(#[]++new++Ch z.cells (a-i.length)).size=a*t.sz:=by
         have:new.size=i.length*t.sz:=by simpa using nl
         simp only[iQ,ANM,BC,b2,A,this,<-DB];congr 1;omega
        refine Fh (gs:=[id]++g) (rc:=[]) (rh:=is) Y ?_ (by rw[c2];simp) c3 c4 (λb u _=>by rw[c2];exact BD w _ u) (λid h=>(X id h).lv) (λ_=>.inl ⟨Ak _,by rw[c2];simp[DD]⟩) (λb u=>(K b u).imp (λh=>by omega) λh=>h);simp only[BI,Am];refine⟨rfl,λb c h=> ?_,.inr ⟨rfl,λ⟨c,h⟩=> ?_,a,_,(0,0),rfl,by simpa using c1,by rw[c2];exact BN w _,by simp[DD],by simp only[DD];rw[f];exact Ak _,λj Q=> ?_,λo _ h=>by simp at h,?_⟩⟩
        ·obtain⟨e',fr,B⟩:=ANK b c h;exact⟨e',fr,by rw[c2,BD w _ (BX B)];exact B⟩
        ·obtain⟨e',fr,B⟩:=ANK _ c h;have:=BX B;simp only[DD]at this;omega
        ·rw[hT.inf _ _ U]at Q;cases Q;exact⟨A.symm,MF _,by rw[f,A];exact MC _ _⟩
        ·simp only[DN];refine y.congr ?_ λk M=> ?_
         ·simp only[DD,Do,D0];rw[f];exact Gc _ c1
         ·simp only[DD,Do,iQ,Kv];rw[EE (by omega)]
      ·
       obtain⟨rfl,rfl,rfl⟩:q=AC ⟨(ι id).blk,(ι id).base,AF⟩/\l=p.length/\cap=c:=by
        rw[hsv]at j3;simp only[Wo]at j3;exact⟨j3.1,j3.2.1,j3.2.2.symm⟩
       have hcap:=Gc t.sz j4;have C:∀b c,MW b=AC c->b≠(ι id).blk:=λb c h e=>by
        subst e;rcases u3 _ c h with h|h
        ·exact j2 ⟨c,h⟩
        ·rcases JG h with⟨k,q1,S⟩|⟨k,q1,S|S⟩
         ·exact(Z.inj id k (.inr (.inr (.inr (by simp)))) (.inr (.inl q1)) ⟨_,St.hdr_of hg,A3⟩ (b4 k q1) (λe=>N k (.inl q1) e.symm) _ ⟨j1,rfl⟩).2 S
         ·exact(Z.inj id k (.inr (.inr (.inr (by simp)))) (.inr (.inr (.inr (C3 _ q1)))) ⟨_,St.hdr_of hg,A3⟩ (V k q1).lv (λe=>N k (.inr q1) e.symm) _ ⟨j1,rfl⟩).1 S
         ·exact(Z.inj id k (.inr (.inr (.inr (by simp)))) (.inr (.inr (.inr (C3 _ q1)))) ⟨_,St.hdr_of hg,A3⟩ (V k q1).lv (λe=>N k (.inr q1) e.symm) _ ⟨j1,rfl⟩).2 S
       by_cases O:p.length+i.length<=cap
       ·
        have hcap2:=Gc t.sz O;rw[DB]at hcap2;have hrun:=Ft P (ι id).blk ((ι id).base+p.length*t.sz) I fr new.toList 0 c0 w j5 (by omega) (J9 y nl) (λo h=>j9 o (M1 _ h));refine⟨.slice (AC ⟨(ι id).blk,(ι id).base,AF⟩) (p.length+i.length) cap,FR ι σ.next (DD (ι id).blk (ι id).base (ι id).room t.sz MW (.slice (AC ⟨(ι id).blk,(ι id).base,AF⟩) (p.length+i.length) cap)),{ w with heap:=w.heap.setIfInBounds (ι id).blk (.cells (Cp c0 ((ι id).base+p.length*t.sz+0) new.toList) I fr)},?_,.dat _ _ _ _ (.inr (St.rng_puts.2 rfl)) (by rw[Am];rfl),?_⟩
        ·rw[EP hT h0 h1 E F hd U m O (hn w rfl)];simp only[CU,A,hrun,Ax]
        have hne:∀b,b≠(ι id).blk->(w.heap.setIfInBounds (ι id).blk (.cells (Cp c0 ((ι id).base+p.length*t.sz+0) new.toList) I fr))[b]?=w.heap[b]?:=λb u=>by simp[ES u]
        refine Fh (gs:=[id]++g) (rc:=[]) (rh:=is) Y ?_ (by simp) rfl rfl (λb u hx=>hne b λe=>hx id (by simp) ⟨_,St.hdr_of hg,A3⟩ ⟨j1,e.symm⟩) (λid h=>(X id h).lv) (λ_=>.inr ⟨id,by simp,⟨_,St.hdr_of hg,A3⟩,j1,rfl⟩) (λb u=>.inr (uf b u));simp only[BI,Am];refine⟨rfl,uok.keep λb c h=>hne b (C b c h),.inr ⟨rfl,λ⟨c,h⟩=>C _ c h rfl,cap,Cp c0 ((ι id).base+p.length*t.sz+0) new.toList,fr,by simp[DD],by simpa using O,by simp[DD,BX j5],by rw[Ad];exact j6,j7,λj Q=>by rw[Ad];exact j8 j Q,λo Z=>j9 o (by rwa[Ad]at Z),?_⟩⟩
        have hA:Et MW t p (((c0.toList.drop (ι id).base).take (p.length*t.sz))):=(j10.mono u1).congr (by simp;omega) λk M=>by rw[CB,Ae M]
        refine(hA.app (by simp;omega) (y.mono u2)).congr ?_ λk M=> ?_
        ·simp only[DD,BA,CC,D0,Ad,DB];omega
        ·simp only[BA,DB]at M;simp only[DD,CA,Bf];rw[DL _ _ _ _ (by omega)];by_cases hk2:k<p.length*t.sz
         ·rw[AY (by omega),EE (by simp;omega),CB,Ae hk2,CA,Bf]
         ·rw[Ae (by omega),Fw (by simp;omega)];congr 1;simp;omega
       ·
        obtain⟨oldc,o1,o2⟩:=NM (P:=P) (w:=w) (o:=(ι id).base) (n:=p.length*t.sz) j5 (by omega);obtain⟨a,w',c1,c2,c3,c4,c5⟩:=FE hT (ty:=ty) (w:=w) (base:=AC ⟨(ι id).blk,(ι id).base,AF⟩) (sLen:=p.length) (cap:=cap) (old:=oldc) (n:=i.length) h0 h1 E F hd U hz b3 J m (by omega) (λw' hw'=>by simp only[GZ,A];exact o1 w' hw') hn
        have hol:oldc.toList.length=p.length*t.sz:=by rw[o2];simp;omega
        refine⟨_,FR ι σ.next (DD w.heap.size 0 (oldc++new++Ch z.cells (a-(p.length+i.length))).size t.sz MW (.slice (AC ⟨w.heap.size,0,AF⟩) (p.length+i.length) a)),w',c5,.dat _ _ _ _ (.inr (St.rng_puts.2 rfl)) (by rw[Am];rfl),?_⟩;have f:(oldc++new++Ch z.cells (a-(p.length+i.length))).size=a*t.sz:=by
         have q1:new.size=i.length*t.sz:=by simpa using nl
         have S:oldc.size=p.length*t.sz:=by simpa using hol
         simp only[ANM,BC,b2,A,q1,S,<-DB];congr 1;omega
        refine Fh (gs:=[id]++g) (rc:=[]) (rh:=is) Y ?_ (by rw[c2];simp) c3 c4 (λb u _=>by rw[c2];exact BD w _ u) (λid h=>(X id h).lv) (λ_=>.inl ⟨Ak _,by rw[c2];simp[DD]⟩) (λb u=>.inr (uf b u));simp only[BI,Am];refine⟨rfl,λb c h=> ?_,.inr ⟨rfl,λ⟨c,h⟩=> ?_,a,_,(0,0),by simp[DD],by simpa using c1,by rw[c2];exact BN w _,by simp[DD],by simp only[DD];rw[f];exact Ak _,λj Q=> ?_,λo _ h=>by simp at h,?_⟩⟩
        ·obtain⟨e',fr',B⟩:=uok b c h;exact⟨e',fr',by rw[c2,BD w _ (BX B)];exact B⟩
        ·obtain⟨e',fr',B⟩:=uok _ c h;have:=BX B;simp only[DD]at this;omega
        ·rw[hT.inf _ _ U]at Q;cases Q;exact⟨A.symm,MF _,by rw[f,A];exact MC _ _⟩
        ·have hA:Et MW t p oldc.toList:=(j10.mono u1).congr (by omega) λk M=>by rw[o2,CB,Ae M]
         refine(hA.app hol (y.mono u2)).congr ?_ λk M=> ?_
         ·simp only[DD,Do,D0,BA];rw[f];exact Gc _ c1
         ·simp only[BA,DB]at M;simp only[DD,Do,Kv];rw[EE (by simp only[BA];omega)]
    ·cases h
   ·cases h
  ·cases h
 ·cases h
end
open Go
section
variable {P:Ao} {T:TE} (hT:T.OK P) {D:AB->Prop} {ι:AB->Reg} {σ:St} {w:AN}
theorem LR.append{a b c d:AE AJ}(h:LR D ι a b)(e:LR D ι c d):LR D ι (a++c) (b++d):=by
 induction h with
 |nil=>exact e
 |cons h _ f=>exact .cons h f
theorem LR.take:∀(n:AB) {vs us:AE AJ},LR D ι vs us->LR D ι (vs.take n) (us.take n)
 |0,_,_,_=>.nil
 |_+1,_,_,.nil=>.nil
 |n+1,_,_,.cons h t=>.cons h (LR.take n t)
def w7:AE DC->AP (AE AJ)
 |[]=>AC []
 | .v x::r=>match w7 r with
   |some l=>AC (x::l)
   |none=>AF
 |_::_=>AF
theorem ft{fz:AB->AP (Aa AJ)}:∀{l:AE DC} {vs us:AE AJ},w7 l=AC vs->l.length=us.length->(∀(k:AB) d u,l[k]?=AC d->us[k]?=AC u->DCR fz d u)->LR D ι vs us
 |[],vs,us,h,a,_=>by
  simp only[w7,BJ]at h;subst h;rw[Gu.1 a.symm];exact .nil
 | .v x::r,vs,us,h,a,hd=>by
   cases us with
   |nil=>simp at a
   |cons u us=>
    simp only[w7]at h
    split at h
    ·rename_i l b;cases h;obtain⟨rfl,c⟩:=hd 0 _ u rfl rfl;exact .cons (.sym u c) (ft b (by simpa using a) λk d f g i=>hd (k+1) d f (by simpa using g) (by simpa using i))
    ·cases h
 | .s _ _::r,vs,us,h,_,_=>by simp[w7]at h
 | .e _::r,vs,us,h,_,_=>by simp[w7]at h
 | .k _::r,vs,us,h,_,_=>by simp[w7]at h
def Rw(T:TE)(σ:St)(t:AQ)(a v:AJ):AP R:=
 match a with
 | .pointer (AC ⟨id,i,AC j⟩)=>match σ.heap.get id,T.inf t with
   |some (.vec b e c),AC f=>match v.cells.toList with
    |[]=>AF
    |y::d=>match w7 (gM b (e.getD i b.dflt))with
     |some old=>bif Af f.size (d.length+1)&&B8 (j+(d.length+1)) b.sz&&(y::d).all oneC then match Bq σ b (old.take j++((y::d)++old.drop (j+(d.length+1))))with
      |some ⟨x,[],[],[],g⟩=>AC ⟨Bi,((σ.put id (AC (.vec b (e.set i x) c))).assumes g).assume (AG (i<e.length)),⟨[],[],[],[id]⟩⟩
      |_=>AF
      else AF
     |none=>AF
   |_,_=>AF
 |_=>AF
include hT
theorem U5{t:AQ}{a a' v v':AJ}{r:R}(h:Rw T σ t a v=AC r)(K:r.σ.Ok)(ha:VR D ι a a')(hv:VR D ι v v'):Ab P D ι σ w (do Mw t a' v';Ck Bi) r:=by
 unfold Rw at h
 split at h
 ·rename_i id i j;obtain⟨b,o,l,c0,rfl,hD,L⟩:=OM ha
  split at h
  ·rename_i d J p ti hg hi
   split at h
   ·cases h
   ·rename_i y g C
    split at h
    ·rename_i old q;cases E:(Af ti.size (g.length+1)&&B8 (j+(g.length+1)) d.sz&&(y::g).all oneC)
     ·rw[E]at h;cases h
     rw[E,Ag]at h;rw[A0,A0]at E;obtain⟨⟨F,M⟩,N⟩:=E;have F:=Br F;have M:=GJ M
     split at h
     ·rename_i x ps hc;cases h;have f:i<J.length:=BL K.1;obtain⟨hps, -⟩:=(Cs _ _).1 K.2;refine Ab.assume (Ab.assumes ps ⟨Ak _,λhw=>⟨St.put_wf hw (St.lv_lt hw (St.lv_of hg)) _,AFr.whole (by simp)⟩,λhw hDn ho=> ?_⟩);obtain⟨Y,e2,e3⟩:=ho.hd id _ (.inr (.inr (.inr (by simp)))) (St.hdr_of hg)
      rcases e3 with⟨_,hn,_⟩|⟨g1,g2,cap,c,fr,g3,g4,g5,g6,g7,g8,g9,O⟩
      ·rw[hn]at f;simp at f
      obtain⟨rfl,rfl,rfl,rfl⟩:b=(ι id).blk/\o=(ι id).base/\l=J.length/\cap=c0:=by
       rw[L]at g3;simp only[Wo,BJ,ry,iZ]at g3;exact⟨g3.1.1,g3.1.2,g3.2.1,g3.2.2.symm⟩
      have hnj:RX v=true:=by
       cases v with
       |chan r=>cases r with
        |none=>rfl
        |some r=>
         have hx2:[rz (AC r)]=y::g:=C;rw[<-hx2]at N;cases N
       |_=>rfl
      obtain⟨c1,c2⟩:=hv.cells hnj;have Q:LR D ι (y::g) v'.cells.toList:=LR.of_AR ⟨by rw[<-C];simpa using c1,λk u u' Z h2=>c2 k u u' (by rw[<-C]at Z;simpa using Z) (by simpa using h2)⟩;have G:v'.cells.toList.length=g.length+1:=Q.len.symm;have hel:J.getD i d.dflt=J[i]:=by rw[List.getD_eq_getElem?_getD,B4 f];rfl
      obtain⟨f1,f2⟩:=O i J[i] (B4 f);obtain⟨d1,d2,d3⟩:=Lh d J[i] _ f2;rw[hel]at q;have H:=ft (D:=D) (ι:=ι) q (d2.trans d1.symm) d3;generalize hco:((c.toList.drop (ι id).base).drop (i*d.sz)).take d.sz=z at f2 d1 H;have S:=LR.append (LR.take j H) (LR.append Q (LR.drop (j+(g.length+1)) H))
      obtain⟨u1,u2,hu,n,hr2⟩:=G0 (is:=[]) (gs:=[]) (P:=P) (w:=w) (λid h=>by simp at h) (λid h=>by simp at h) d _ _ _ hc (λid h=>by simp at h) (λid h=>by simp at h) hps S;cases hr2;rw[Ce]at hu;subst hu;have n:Cw (ι id).fz d x (z.take j++(v'.cells.toList++z.drop (j+(g.length+1)))):=Cw.mono (λb c h=>by rcases JG h with⟨_,h,_⟩|⟨_,h,_⟩<;>cases h) _ _ _ n
      have A:(z.take j++(v'.cells.toList++z.drop (j+(g.length+1)))).length=d.sz:=by
       simp only[BA,Bw,CC,d1,G];omega
      have U:∀m,(z.take j++(v'.cells.toList++z.drop (j+(g.length+1))))[m]?=if j<=m/\m<j+v'.cells.toList.length then v'.cells.toList[m-j]? else z[m]?:=λm=>by
       by_cases Z:m<j
       ·rw[AY (by omega),EE (by rw[Bw];omega),CB,Ae Z]
       ·rw[Fw (by rw[Bw];omega),Bw,show min j z.length=j by omega];by_cases h2:m<j+v'.cells.toList.length
        ·rw[Ae ⟨by omega,h2⟩,EE (by omega)]
        ·rw[AY (by omega),Fw (by omega),CA,G];congr 1;omega
      have hle:=N9 (s:=d.sz) f;have hcap:=Gc d.sz g4;have V:∀u,u∈v'.cells.toList->kt u=true:=λu hu=>Rv d _ _ n u (C3 _ (List.mem_append_left _ hu))
      have B:=Ft P (ι id).blk ((ι id).base+i*(ι id).esz+j) p fr v'.cells.toList 0 c w g5 (by rw[Y];omega) V (λo h=>g9 o (M1 _ h));rw[Y]at B;refine⟨Bi,ι,_,?_,.tuple #[] #[] rfl (by simp),Post.setVec hg (w':={ w with heap:=w.heap.setIfInBounds (ι id).blk (.cells (Cp c ((ι id).base+i*d.sz+j+0) v'.cells.toList) p fr)}) ?_ (by simp) rfl rfl λb E hno=> ?_⟩
      ·have hsz:¬v'.cells.size≠ti.size:=by
        have:v'.cells.toList.length=ti.size:=by rw[G,F]
        simpa using this
       simp only[Mw,Gs,rv,A7,A9,Ax,Bb hT hi];rw[AY hsz,Y,B];rfl
      ·have W:=BX g5;refine⟨Y,e2.keep λb c' E=> ?_,.inr ⟨g1,g2,cap,Cp c ((ι id).base+i*d.sz+j+0) v'.cells.toList,fr,by rw[PL];exact L,by rw[PL];exact g4,by simp[W],by rw[Ad];exact g6,g7,λj hj=>by rw[Ad];exact g8 j hj,λo ho=>g9 o (by rwa[Ad]at ho),?_⟩⟩
       ·have I:(ι id).blk≠b:=λe=>g2 ⟨c',by rw[e];exact E⟩
        simp[I]
       ·refine Et.set O f n A (by simp[Ad]) λk=> ?_
        rw[A,U];rw[CA,Bf,DL _ _ _ _ (by omega),CA,Bf];by_cases hk:i*d.sz<=k/\k<i*d.sz+d.sz
        ·rw[Ae hk];by_cases X:j<=k-i*d.sz/\k-i*d.sz<j+v'.cells.toList.length
         ·rw[Ae X,Ae (by omega),show(ι id).base+k-((ι id).base+i*d.sz+j+0)=k-i*d.sz-j by omega];exact(Bf).symm
         ·rw[AY X,AY (by omega),<-hco,CB,Ae (by omega),CA,CA,Bf];congr 1;omega
        ·rw[AY hk,AY (by omega)];exact(Bf).symm
      ·have I:(ι id).blk≠b:=λe=>hno ⟨g1,e⟩
       simp[I]
     ·cases h
    ·cases h
  ·cases h
 ·cases h
omit hT
def tc(id:AB)(c:AJ):AH:=match c with
 | .tuple a=>match a.toList with
   |[.chan (AC 2),.pointer (AC ⟨n,0,AF⟩)]=>Af n id
   |_=>AK
 |_=>AK
theorem jg{id:AB}{c:AJ}(h:tc id c=AD):c=dt id:=by
 unfold tc at h
 split at h
 ·rename_i a
  split at h
  ·rename_i n b;rw[CV b,Br h]
  ·cases h
 ·cases h
def fu(id:AB):AE AJ->AB->AP AB
 |[],_=>AF
 |c::r,k=>bif tc id c then AC k else fu id r (k+1)
theorem TK{id:AB}:∀{b:AE AJ} {k n:AB},fu id b k=AC n->k<=n/\b[n-k]?=AC (dt id)
 |[],_,_,h=>by cases h
 |c::r,k,n,h=>by
  simp only[fu]at h;cases a:tc id c
  ·rw[a,BZ]at h;obtain⟨e,d⟩:=TK h;refine⟨by omega,?_⟩;rw[show n-k=(n-(k+1))+1 by omega,RL];exact d
  ·rw[a,Ag]at h;cases h;rw[jg a];exact⟨Ak _,by simp⟩
def ZR(σ:St)(id:AB):AB->AP (AB×AB×AE AJ×AQ)
 |0=>AF
 |j+1=>match σ.heap.get j with
  |some (.row a e AK)=>match fu id a 0 with
   |some k=>AC (j,k,a,e)
   |none=>ZR σ id j
  |_=>ZR σ id j
theorem KA{id:AB}:∀{n j k:AB} {a:AE AJ} {e:AQ},ZR σ id n=AC (j,k,a,e)->σ.heap.get j=AC (.row a e AK)/\a[k]?=AC (dt id)
 |0,_,_,_,_,h=>by cases h
 |n+1,j,k,a,e,h=>by
  simp only[ZR]at h
  split at h
  ·rename_i b g c
   split at h
   ·rename_i i d;cases h;obtain⟨_,f⟩:=TK d;exact⟨c,by simpa using f⟩
   ·exact KA h
  ·exact KA h
theorem KB{gs:AE AB}{o:AO}{j:AB}{d a:AE AJ}{e:AQ}(g:σ.heap.get j=AC (.row d e AK))(h:a.length=d.length)(x:AB):
  (((σ.put j (AC (.row a e AK))).puts gs).new o).H.hdr x=if x=σ.next then AC o.hd else if x∈gs then AF else σ.H.hdr x:=by
 rw[St.new_hdr,St.puts_next,St.puts_hdr,St.put_hdr];by_cases b:x=σ.next
 ·rw[Ae b,Ae (show x=(σ.put j (AC (.row a e AK))).next from b)]
 ·rw[AY b,AY (show ¬x=(σ.put j (AC (.row a e AK))).next from b)];by_cases c:x∈gs
  ·rw[Ae c,Ae c]
  ·rw[AY c,AY c];by_cases f:x=j
   ·subst f;rw[Ae rfl,St.hdr_of g];show AC (Hd.row a.length e AK)=AC (Hd.row d.length e AK);rw[h]
   ·rw[AY f]
theorem TL{gs:AE AB}{o:AO}{j:AB}{a:AE AJ}{e:AQ}(x q:AB):
  (((σ.put j (AC (.row a e AK))).puts gs).new o).H.cell x q=if x=σ.next then Fs (AC o) q else if x∈gs then AF else if x=j then a[q]? else σ.H.cell x q:=by
 rw[St.new_cell,St.puts_next,St.puts_cell,St.put_cell];rfl
theorem Da{gs:AE AB}{o:AO}{j id:AB}{r:AP AO}:σ.rng (((σ.put j r).puts gs).new o) id↔id=σ.next:=by
 simp only[St.rng,St.new,St.puts_next,St.put];omega
theorem mr{gs:AE AB}{rh:AE AB}{t:Ty}{B:AE t.Den}{f:AQ}{r:Reg}{w':AN}{j k:AB}{u:AE AJ}{e:AQ}{v0:AJ}(C:σ.wf)(g:σ.heap.get j=AC (.row u e AK))(F:j∉gs)(p:Cl (λi=>D i\/i=σ.next) (FR ι σ.next r) j w' k v0)(L:BI P (FR ι σ.next r) σ.next w' (.vec t B f))(M:w.heap.size<=w'.heap.size)(G:w'.os=w.os)(z:w'.output=w.output)(N:∀b,b<w.heap.size->(∀id,id∈gs->Wr σ.H id->¬(ι id).Own b)->w'.heap[b]?=w.heap[b]?)(O:∀id,id∈gs->Lv σ.H id)(Q:r.own=AD->(w.heap.size<=r.blk/\r.blk<w'.heap.size)\/∃k,k∈gs/\Wr σ.H k/\(ι k).Own r.blk)(R:∀b,r.Fz b->(w.heap.size<=b/\b<w'.heap.size)\/(∃k,k∈gs/\Wr σ.H k/\(ι k).Own b)\/∃k,(k∈rh\/k∈gs)/\Lv σ.H k/\(ι k).Fz b):
  Post P D (σ.rng (((σ.put j (AC (.row (u.set k v0) e AK))).puts gs).new (.vec t B f))) ι σ.H w ⟨[],rh,[(j,k)],gs⟩ (FR ι σ.next r) (((σ.put j (AC (.row (u.set k v0) e AK))).puts gs).new (.vec t B f)).H w' where
 io:=λid a=>FS _ _ λe=>a (Da.2 e)
 size:=M
 os:=G
 out:=z
 hdr:=by
  intro id x hx c;rw[KB g (by simp)]at c;by_cases m:id=σ.next
  ·subst m;rw[Ae rfl]at c;cases c;exact L
  ·rcases hx with hx|hx
   ·have hx:id∈gs:=hx;rw[AY m,Ae hx]at c;cases c
   ·exact Aq (Da.1 hx) m
 cel:=by
  intro id q v hx lv c;rw[TL]at c;have hN:∀i,(λi=>D i\/i=σ.next) i->(λi=>D i\/σ.rng (((σ.put j (AC (.row (u.set k v0) e AK))).puts gs).new (.vec t B f)) i) i:=λi h=>h.imp (λx=>x) Da.2
  by_cases m:id=σ.next
  ·subst m;rw[Ae rfl]at c;cases c
  ·rcases hx with(hx|hx)|hx
   ·have hx:(id,q)=(j,k):=by simpa using hx
    cases hx;rw[AY m,AY F,Ae rfl]at c;have S:k<(u.set k v0).length:=GP c;rw[zH (by simpa using S)]at c;cases c;obtain⟨T,v',U,E⟩:=p;exact⟨T,v',U,E.mono hN λ_ _=>rfl⟩
   ·have hx:id∈gs:=hx;rw[AY m,Ae hx]at c;cases c
   ·exact Aq (Da.1 hx) m
 ahdr:=λid a hx=>by rw[KB g (by simp),AY λe=>a (Da.2 e),AY (show ¬id∈gs from hx)]
 acel:=λid q a hx=>by
  rw[TL,AY λe=>a (Da.2 e),AY λh=>hx (.inr h)];by_cases E:id=j
  ·subst E;rw[Ae rfl,St.cell_of g];by_cases J:q=k
   ·subst J;exact Aq (.inl (by simp)) hx
   ·rw[r4 (ES J)]
  ·rw[AY E]
 cfr:=λb l hx=>by rw[N b l hx];exact CR.refl _ _
 fresh:=λid a lv b l=>by
  obtain rfl:=Da.1 a;rw[Am]at l;rcases Q l.1 with h|⟨q,s,n,A⟩
  ·left;rw[<-l.2];exact h
  ·have d:q≠σ.next:=λe=>by have:=St.lv_lt C n.lv;omega
   refine .inr ⟨q,s,λh=>d (Da.1 h),n,λ⟨y,o⟩=> ?_,by rw[<-l.2];exact A⟩;rw[KB g (by simp),AY d,Ae s]at o;cases o
 freshF:=λid a lv b l=>by
  obtain rfl:=Da.1 a;rw[Am]at l;rcases R b l with h|⟨q,s,n,A⟩|⟨q,s,n,A⟩
  ·exact .inl h
  ·have d:q≠σ.next:=λe=>by have:=St.lv_lt C n.lv;omega
   refine .inr (.inl ⟨q,s,λh=>d (Da.1 h),n,λ⟨y,o⟩=> ?_,A⟩);rw[KB g (by simp),AY d,Ae s]at o;cases o
  ·have d:q≠σ.next:=λe=>by have:=St.lv_lt C n;omega
   exact .inr (.inr ⟨q,s.elim (λh=>.inr (.inl h)) λh=>.inr (.inr (.inr h)),λh=>d (Da.1 h),n,A⟩)
 dist:=λi j V g _ _ I=>by
  obtain rfl:=Da.1 V;exact Aq (Da.1 g).symm I
 nl:=λid a=>by
  obtain rfl:=Da.1 a;exact St.hdr_none C _ (Ak _)
 wl:=λid q hx _=>by
  rcases hx with hx|hx
  ·have hx:(id,q)=(j,k):=by simpa using hx
   cases hx;exact St.lv_of g
  ·exact O id hx
 wrm:=λid a hx=>by
  by_cases K:id∈gs
  ·obtain⟨y,o,_⟩:=hx;rw[KB g (by simp),AY λe=>a (Da.2 e),Ae K]at o;cases o
  ·exact hx.of_hdr (by rw[KB g (by simp),AY λe=>a (Da.2 e),AY K])
 wrow:=λid q hx a _=>by
  rcases hx with hx|hx
  ·have hx:(id,q)=(j,k):=by simpa using hx
   cases hx;exact⟨_,_,_,St.hdr_of g⟩
  ·exact Aq hx a
def Rx(T:TE)(σ:St)(t:AQ)(a v:AJ):AP R:=
 match a with
 | .pointer (AC ⟨id,i,AC 0⟩)=>match σ.heap.get id,T.inf t with
   |some (.vec d f b),AC h=>match v.cells.toList with
    |[]=>AF
    |y::c=>bif Af h.size (c.length+1)&&Af d.sz (c.length+1)&&(y::c).all oneC then match Bq σ d (y::c)with
      |some ⟨x,[],is,g,l⟩=>match ZR σ id σ.next with
       |some (j,k,m,e)=>bif Fp σ is&&Me σ g&&(!HA [id] (j::(is++g))&& !HA [j] (is++g))then
        AC ⟨Bi,((((σ.put j (AC (.row (m.set k (dt σ.next)) e AK))).puts (id::g)).new (.vec d (f.set i x) b)).assumes l).assume (AG (i<f.length)),⟨[],is,[(j,k)],id::g⟩⟩
        else AF
       |none=>AF
      |_=>AF
     else AF
   |_,_=>AF
 |_=>AF
theorem B6.rep{gs:AE AB}{o:AO}{v:AJ}{rh:AE AB}{j k:AB}{b:AE AJ}{e:AQ}{v0:AJ}(d:σ.heap.get j=AC (.row b e AK)):
  B6 σ ⟨v,((σ.put j (AC (.row (b.set k v0) e AK))).puts gs).new o,⟨[],rh,[(j,k)],gs⟩⟩:=
 ⟨by simp[St.new,St.puts_next,St.put],λg=>⟨St.new_wf (St.puts_wf (St.put_wf g (St.lv_lt g (St.lv_of d)) _) _) _,{
  h:=λid f a=>by rw[KB d (by simp),AY λe=>f (Da.2 e),AY (show ¬id∈gs from a)]
  c:=λid q f a=>by
   rw[TL,AY λe=>f (Da.2 e),AY λh=>a (.inr h)];by_cases i:id=j
   ·subst i;rw[Ae rfl,St.cell_of d];by_cases l:q=k
    ·subst l;exact Aq (.inl (by simp)) a
    ·rw[r4 (ES l)]
   ·rw[AY i]
  ok:=λh=>by
   unfold St.Ok at h⊢;rwa[show(((σ.put j (AC (.row (b.set k v0) e AK))).puts gs).new o).pc=σ.pc from St.puts_pc gs]at h}⟩⟩
include hT
theorem U6{t:AQ}{a a' v v':AJ}{r:R}(h:Rx T σ t a v=AC r)(W:r.σ.Ok)(ha:VR D ι a a')(hv:VR D ι v v'):Ab P D ι σ w (do Mw t a' v';Ck Bi) r:=by
 unfold Rx at h
 split at h
 ·rename_i id i;obtain⟨b,o,l,c0,rfl,hD,X⟩:=OM ha
  split at h
  ·rename_i d xs n ti A hi
   split at h
   ·cases h
   ·rename_i y U M;cases B:(Af ti.size (U.length+1)&&Af d.sz (U.length+1)&&(y::U).all oneC)
    ·rw[B]at h;cases h
    rw[B,Ag]at h;rw[A0,A0]at B;obtain⟨⟨N,C⟩,Y⟩:=B;have N:=Br N;have C:=Br C
    split at h
    ·rename_i x is g ps hc
     split at h
     ·rename_i j k cs e Z;obtain⟨E,hjk⟩:=KA Z;cases F:(Fp σ is&&Me σ g&&(!HA [id] (j::(is++g))&& !HA [j] (is++g)))
      ·rw[F]at h;cases h
      rw[F,Ag]at h;simp only[A0,Hr]at F;obtain⟨⟨b4,O⟩,b6,b7⟩:=F;have b4:=Ey b4;have O:=F3 O;have b6:=F4 b6;have b7:=F4 b7;cases h;have G:i<xs.length:=BL W.1;obtain⟨hps, -⟩:=(Cs _ _).1 W.2;refine Ab.assume (Ab.assumes ps ⟨by simp[St.new,St.puts_next,St.put],λhw=>(B6.rep (v:=Bi) E).2 hw,λhw hDn p=> ?_⟩)
      have J:j≠id:=λe=>b6 id (by simp) (by rw[e];simp)
      have z:∀q,q∈is\/q∈g->q≠id:=λq hq e=>b6 id (by simp) (by subst e;exact GC _ (CH.2 hq))
      have hjg:j∉id::g:=λh=>by
       rcases Dv.1 h with h|h
       ·exact J h
       ·exact b7 j (by simp) (C3 _ h)
      obtain⟨e1,e2,e3⟩:=p.hd id _ (.inr (.inr (.inr (by simp)))) (St.hdr_of A);rcases e3 with⟨_,hn,_⟩|⟨g1,g2,cap,c,fr,g3,g4,g5,g6,g7,g8,g9,g10⟩
      ·rw[hn]at G;simp at G
      obtain⟨rfl,rfl,rfl,rfl⟩:b=(ι id).blk/\o=(ι id).base/\l=xs.length/\cap=c0:=by
       rw[X]at g3;simp only[Wo,BJ,ry,iZ]at g3;exact⟨g3.1.1,g3.1.2,g3.2.1,g3.2.2.symm⟩
      have hnj:RX v=true:=by
       cases v with
       |chan r=>cases r with
        |none=>rfl
        |some r=>
         have hx2:[rz (AC r)]=y::U:=M;rw[<-hx2]at Y;cases Y
       |_=>rfl
      obtain⟨c1,c2⟩:=hv.cells hnj;have hlr:LR D ι (y::U) v'.cells.toList:=LR.of_AR ⟨by rw[<-M];simpa using c1,λk u u' h1 h2=>c2 k u u' (by rw[<-M]at h1;simpa using h1) (by simpa using h2)⟩;obtain⟨u1,u2,hu,I,hr2⟩:=G0 (is:=is) (gs:=g) (P:=P) (w:=w) (λq hm x=>p.hd q x (hm.elim (λh=>.inr (.inl h)) λh=>.inr (.inr (.inr (GC _ h)))))
       (λq hm k v=>p.ce q k v (.inr (.inr (.inr (GC _ hm))))) d (y::U) v'.cells.toList _ hc (λ_ h=>h) (λ_ h=>h) hps hlr
      cases hr2;rw[Ce]at hu;subst hu;have I:Cw (JT ι is g w) d x v'.cells.toList:=I;let MW:AB->AP (Aa AJ):=λb=>match(ι id).fz b with|some c=>AC c|none=>JT ι is g w b
      have u1:∀b c,(ι id).fz b=AC c->MW b=AC c:=λb c h=>by simp only[MW,h]
      have u2:∀b c,JT ι is g w b=AC c->MW b=AC c:=λb c h=>by
       simp only[MW]
       split
       ·rename_i V Q;obtain⟨_,_,q1⟩:=ANK b c h;obtain⟨_,_,f⟩:=e2 b V Q;rw[q1]at f;cases f;rfl
       ·exact h
      have u3:∀b c,MW b=AC c->(ι id).fz b=AC c\/JT ι is g w b=AC c:=λb c h=>by
       simp only[MW]at h
       split at h
       ·rename_i V Q;cases h;exact .inl Q
       ·exact .inr h
      have uok:DK MW w:=λb c h=>(u3 b c h).elim (e2 b c) (ANK b c)
      have uf:∀b,(∃c,MW b=AC c)->(∃q,q∈id::g/\Wr σ.H q/\(ι q).Own b)\/∃q,(q∈is\/q∈id::g)/\Lv σ.H q/\(ι q).Fz b:=λb ⟨c,hc⟩=>by
       rcases u3 b c hc with h|h
       ·exact .inr ⟨id,.inr (by simp),St.lv_of A,c,h⟩
       ·rcases JG h with⟨q,q1,f⟩|⟨q,q1,f|f⟩
        ·exact .inr ⟨q,.inl q1,b4 q q1,f⟩
        ·exact .inl ⟨q,GC _ q1,O q q1,f⟩
        ·exact .inr ⟨q,.inr (GC _ q1),(O q q1).lv,f⟩
      have m:∀b c,MW b=AC c->b≠(ι id).blk:=λb c h e=>by
       subst e;rcases u3 _ c h with h|h
       ·exact g2 ⟨c,h⟩
       ·rcases JG h with⟨q,q1,f⟩|⟨q,q1,f|f⟩
        ·exact(p.inj id q (.inr (.inr (.inr (by simp)))) (.inr (.inl q1)) ⟨_,St.hdr_of A,A3⟩ (b4 q q1) (λe=>z q (.inl q1) e.symm) _ ⟨g1,rfl⟩).2 f
        ·exact(p.inj id q (.inr (.inr (.inr (by simp)))) (.inr (.inr (.inr (GC _ q1)))) ⟨_,St.hdr_of A,A3⟩ (O q q1).lv (λe=>z q (.inr q1) e.symm) _ ⟨g1,rfl⟩).1 f
        ·exact(p.inj id q (.inr (.inr (.inr (by simp)))) (.inr (.inr (.inr (GC _ q1)))) ⟨_,St.hdr_of A,A3⟩ (O q q1).lv (λe=>z q (.inr q1) e.symm) _ ⟨g1,rfl⟩).2 f
      have K:v'.cells.toList.length=d.sz:=by rw[C];exact hlr.len.symm
      have hle:=N9 (s:=d.sz) G;have hcap:=Gc d.sz g4;have L:=Ft P (ι id).blk ((ι id).base+i*(ι id).esz+0) n fr v'.cells.toList 0 c w g5 (by rw[e1];omega) (Rv d _ _ I) (λo h=>g9 o (M1 _ h));rw[e1]at L;have hblk:=BX g5;have S:∀b,b≠(ι id).blk->(w.heap.setIfInBounds (ι id).blk (.cells (Cp c ((ι id).base+i*d.sz+0+0) v'.cells.toList) n fr))[b]?=w.heap[b]?:=λb B=>by simp[ES B]
      have hnj2:σ.next≠j:=λe=>by have:=St.lv_lt hw (St.lv_of E);omega
      refine⟨Bi,FR ι σ.next (DD (ι id).blk (ι id).base (ι id).room d.sz MW (ι id).sv),{ w with heap:=w.heap.setIfInBounds (ι id).blk (.cells (Cp c ((ι id).base+i*d.sz+0+0) v'.cells.toList) n fr)},?_,.tuple #[] #[] rfl (by simp),?_⟩
      ·have hsz:¬v'.cells.size≠ti.size:=by
        have:v'.cells.toList.length=ti.size:=by rw[K,N,C]
        simpa using this
       simp only[Mw,Gs,rv,A7,A9,Ax,Bb hT hi];rw[AY hsz,e1,L];rfl
      ·refine mr (gs:=id::g) (rh:=is) hw E hjg ?_ ?_ (by simp) rfl rfl (λb B hx=>S b λe=>hx id (by simp) ⟨_,St.hdr_of A,A3⟩ ⟨g1,e.symm⟩) (λq h=>by
         rcases Dv.1 h with rfl|h
         ·exact St.lv_of A
         ·exact(O q h).lv) (λ_=>.inr ⟨id,by simp,⟨_,St.hdr_of A,A3⟩,g1,rfl⟩) (λb B=>.inr (uf b B))
       ·
        obtain⟨p1,v1,p2,p3⟩:=p.ce j k (dt id) (.inr (.inr (.inl (by simp)))) (St.lv_of E) (by rw[St.cell_of E];exact hjk);obtain⟨q1,f,q3,rfl,q4,q5⟩:=FQ p3;have hjb:(ι j).blk≠(ι id).blk:=λe=>by
         have hr:=(p.hd j _ (.inr (.inr (.inl ⟨k,by simp⟩))) (St.hdr_of E)).own_row;exact(p.inj id j (.inr (.inr (.inr (by simp)))) (.inr (.inr (.inl ⟨k,by simp⟩))) ⟨_,St.hdr_of A,A3⟩ (St.lv_of E) (λe=>J e.symm) _ ⟨g1,rfl⟩).1 (by rw[<-e];exact hr)
        unfold Cl;rw[FS _ _ (ES hnj2)];refine⟨p1,_,?_,.dat _ _ _ _ (.inr rfl) (by rw[Am];exact q5)⟩;have:=S _ hjb;simp only[C0]at p2⊢;rw[this];exact p2
       ·simp only[BI,Am];refine⟨rfl,uok.keep λb V h=>S b (m b V h),.inr ⟨rfl,λ⟨V,h⟩=>m _ V h rfl,cap,Cp c ((ι id).base+i*d.sz+0+0) v'.cells.toList,fr,by rw[PL];exact X,by rw[PL];exact g4,by simp[DD,hblk],by rw[Ad];exact g6,g7,λj E=>by rw[Ad];exact g8 j E,λo p=>g9 o (by rwa[Ad]at p),?_⟩⟩
        refine Et.set (g10.mono u1) G (Cw.mono u2 _ _ _ I) K (by simp[Ad,DD]) λk=> ?_
        show((Cp c ((ι id).base+i*d.sz+0+0) v'.cells.toList).toList.drop (ι id).base)[k]?=_;rw[CA,Bf,DL _ _ _ _ (by omega),CA,Bf];by_cases hk:i*d.sz<=k/\k<i*d.sz+v'.cells.toList.length
        ·rw[Ae (by omega),Ae hk,show(ι id).base+k-((ι id).base+i*d.sz+0+0)=k-i*d.sz by omega];exact(Bf).symm
        ·rw[AY (by omega),AY hk];exact(Bf).symm
     ·cases h
    ·cases h
  ·cases h
 ·cases h
omit hT
def OA(T:TE)(σ:St)(t:AQ)(a v:AJ):AP R:=match TI T σ t a v with
 |some r=>AC r
 |none=>match Rw T σ t a v with
  |some r=>AC r
  |none=>Rx T σ t a v
include hT
theorem U7{t:AQ}{a f v v':AJ}{r:R}(h:OA T σ t a v=AC r)(b:r.σ.Ok)(c:VR D ι a f)(d:VR D ι v v'):Ab P D ι σ w (do Mw t f v';Ck Bi) r:=by
 unfold OA at h
 split at h
 ·rename_i g e;cases h;exact Xj hT e b c d
 ·split at h
  ·rename_i g e;cases h;exact U5 hT e b c d
  ·exact U6 hT h b c d
omit hT
def isZ(z:AJ):AP ((t:Ty)×t.Den):=match z.cells.toList with
 |[.int .u8 (.ofNat 0)]=>AC ⟨.byte,(0:UInt8)⟩
 |[.int .i64 (.ofNat 0)]=>AC ⟨.int .i64,(0:AA)⟩
 |[.bool AK]=>AC ⟨.bool,AK⟩
 |_=>AF
theorem AN8{z:AJ}{t:Ty}{x:t.Den}(h:isZ z=AC ⟨t,x⟩):t.sz=1/\∃v,z.cells.toList=[v]/\∀fz,Cw fz t x [v]:=by
 unfold isZ at h
 split at h
 ·rename_i a;cases h;exact⟨rfl,_,a,λ_=>rfl⟩
 ·rename_i a;cases h;exact⟨rfl,_,a,λ_=>rfl⟩
 ·rename_i a;cases h;exact⟨rfl,_,a,λ_=>rfl⟩
 ·cases h
def dG(n:AA):Prop:=n<=1099511627776
noncomputable instance(n:AA):Decidable (dG n):=PI _
def tyB:Ty->AH
 | .byte=>AD
 |_=>AK
def ZS(T:TE)(σ:St)(t:AQ)(l c:AJ):AP R:=
 match DH l,DH c,T.und t with
 |some (.int _ n),AC (.int _ m),AC (.slice a)=>match T.inf a with
  |some e=>match e.zero with
   |some z=>match isZ z with
    |some ⟨b,x⟩=>bif (Af e.size 1&&B8 e.bytes 8)&&(tyB b||ABL l)then
     AC ⟨dt σ.next,(((σ.new (.vec b (Hj n.toNat x) a)).assume (AG (n=m))).assume (AG (dG n))).assume (AG (0<=n)),.nil⟩else AF
    |none=>AF
   |none=>AF
  |none=>AF
 |_,_,_=>AF
include hT
theorem ZU{t:AQ}{l S c U:AJ}{r:R}(h:ZS T σ t l c=AC r)(s:r.σ.Ok)(X:VR D ι l S)(Y:VR D ι c U):Ab P D ι σ w (ANY t S U) r:=by
 unfold ZS at h
 split at h
 ·rename_i k1 n k2 m q Z h2 hu;obtain⟨rfl, -⟩:=Ay Z X;obtain⟨rfl, -⟩:=Ay h2 Y
  split at h
  ·rename_i e J
   split at h
   ·rename_i z hz;rcases a:isZ z with _|⟨M,y⟩
    ·rw[a]at h;cases h
    rw[a]at h;have h:(bif (Af e.size 1&&B8 e.bytes 8)&&(tyB M||ABL l)then AC (⟨dt σ.next,(((σ.new (.vec M (Hj n.toNat y) q)).assume (AG (n=m))).assume (AG (dG n))).assume (AG (0<=n)),.nil⟩:R)else AF)=AC r:=h;cases A:((Af e.size 1&&B8 e.bytes 8)&&(tyB M||ABL l))
    ·rw[A]at h;cases h
    ·rw[A,Ag]at h;rw[A0,A0]at A;obtain⟨⟨u,V⟩, -⟩:=A;have u:=Br u;have V:=GJ V;obtain⟨g,v0,K,N⟩:=AN8 a;cases h;have g0:0<=n:=BL s.1;have g1:n<=1099511627776:=BL (p:=dG n) s.2.1
     have g2:n=m:=BL s.2.2.1;subst g2;obtain⟨k,rfl⟩:=Int.eq_ofNat_of_zero_le g0;have g1:k<=1099511627776:=by omega
     refine Ab.assume (Ab.assume (Ab.assume ⟨by simp[St.new],λO=>⟨St.new_wf O _,AFr.new _ _ _⟩,λO hD _=> ?_⟩));have hDn:¬D σ.next:=hD _ (by simp[St.rng,St.new]);have B:(IF k z.cells.toList).length=k:=by rw[IG,K];simp
     let c:Aa AJ:=(IF k z.cells.toList).toArray;have C:c.size=k:=by simp only[c];rw[Hx,B]
     have E:(Hj ((k:AA)).toNat y).length=k:=by rw[Un];rfl
     let d:Reg:=DD w.heap.size 0 c.size 1 (λ_=>AF) (.slice (AC ⟨w.heap.size,0,AF⟩) (Hj ((k:AA)).toNat y).length k);refine⟨.slice (AC ⟨w.heap.size,0,AF⟩) (Hj ((k:AA)).toNat y).length k,FR ι σ.next d,{ w with heap:=w.heap.push (.cells c q (0,0))},?_,?_,?_⟩
     ·have e3:¬((e.bytes:AA)*(k:AA)>2^48):=by
       have:(e.bytes:AA)*(k:AA)<=8*(k:AA):=Int.mul_le_mul_of_nonneg_right (by omega) (by omega);omega
      have v:((((k:AA)<0||AG ((e.bytes:AA)*(k:AA)>2^48))||AG ((k:AA)<0)||AG ((k:AA)>(k:AA)))=AD)=False:=by
       simp only[Bool.or_eq_true,decide_eq_true_eq,eq_iff_iff,iff_false];omega
      simp only[ANY,A7,Ah hT hu,Ax,asInt,asIntOf,A9,MR hT J,J8 g1,v,BR,zF,Bb hT J,Int.toNat_natCast,Un];by_cases L:k*e.size=0
      ·rw[Ae L];have h0:c=#[]:=PG (by rw[C];rw[u]at L;omega);rw[h0,L];have hr:∀f:AB->AJ,bZ f (Array.range 0)=#[]:=λf=>PG (by simp)
       simp only[A7,A9,Ax,Mz,MD,hr]
      ·rw[AY L];have Q:z.cells.size=e.size:=by rw[u,<-D0,K];rfl
       simp only[A7,HT hT J hz,Ax,A9,Mz,MD];rw[<-Q,Rt]
     ·exact .dat _ _ _ _ (.inr (by simp[St.rng,St.new])) (by rw[Am];rfl)
     ·refine Fh (gs:=[]) (rc:=[]) (rh:=[]) O ?_ (by simp) rfl rfl (λb A _=>BD w _ A) (λid h=>by cases h) (λ_=>.inl ⟨Ak _,by simp[d,DD]⟩) (λb ⟨c,h⟩=>by cases h);simp only[BI,Am];refine⟨g.symm,λb c h=>(by cases h),.inr ⟨rfl,λ⟨c,h⟩=>(by cases h),k,c,(0,0),rfl,by rw[E];exact Ak _,BN w _,by simp[d,DD],?_,λj W=> ?_,λo ho F=> ?_,λi x F=> ?_⟩⟩
      ·simp only[g,d,DD,Gd];omega
      ·rw[hT.inf _ _ J]at W;cases W;exact⟨g.trans u.symm,by rw[u];exact PK _,by rw[u];exact PK _⟩
      ·simp only at F;omega
      ·have G:i<k:=by
        rcases Cf i (Hj ((k:AA)).toNat y).length with h|h
        ·rw[E]at h;exact h
        ·rw[DA h]at F;cases F
       have a:x=y:=by
        have:=List.mem_of_getElem? F;exact(List.mem_replicate.1 this).2
       subst a;have H:c.toList[i]?=AC v0:=by
        show(IF k z.cells.toList)[i]?=_;rw[LZ _ _ _ (by rw[K];simpa using G),K];show [v0][i%1]?=_;rw[PK];rfl
       have I:i<c.toList.length:=by rw[D0,C];exact G
       simp only[d,DD,Do,g,Gd];refine⟨by omega,?_⟩;rw[B4 I,BJ]at H;rw[Ef I,iU,iW,H];exact N _
   ·cases h
  ·cases h
 ·cases h
omit hT
def TM(T:TE)(vt:AQ->AP Ty)(σ:St)(t:AQ)(len:AB)(d:AE (AB×AJ)):AP R:=
 match T.und t with
 |some (.slice a)=>match vt a with
  |some b=>match T.inf a with
   |some e=>match e.zero with
    |some z=>bif (B8 6 b.sz&&Af len 1)&&(Af b.sz e.size&&(Au 8 z&&(Af z.cells.size e.size&&B8 (len*e.size) 16777216)))then
     (match QX (λk=>AC (k*e.size,e.size)) (IF len z.cells.toList) d with
     |some c=>match Bq σ b c with
      |some ⟨x,[],[],[],[]⟩=>bif Af c.length e.size then AC ⟨dt σ.next,σ.new (.vec b [x] a),.nil⟩else AF
      |_=>AF
     |none=>AF)else AF
    |none=>AF
   |none=>AF
  |none=>AF
 |_=>AF
include hT
theorem Xk{vt:AQ->AP Ty}{t:AQ}{len:AB}{K:AE (AB×AJ)}{L:Aa (AB×AJ)}{r:R}(h:TM T vt σ t len K=AC r)(W:PR D ι K L.toList):Ab P D ι σ w (bc t len L) r:=by
 unfold TM at h
 split at h
 ·rename_i k X
  split at h
  ·rename_i g _
   split at h
   ·rename_i e v
    split at h
    ·rename_i z Y;cases d:((B8 6 g.sz&&Af len 1)&&(Af g.sz e.size&&(Au 8 z&&(Af z.cells.size e.size&&B8 (len*e.size) 16777216))))
     ·rw[d]at h;cases h
     rw[d,Ag]at h;simp only[A0]at d;obtain⟨⟨M,A⟩,p,N,q,O⟩:=d;have M:=GJ M;have A:=Br A;have p:=Br p;have q:=Br q;have O:=GJ O;subst A
     split at h
     ·rename_i Q Z
      split at h
      ·rename_i x B;cases s:Af Q.length e.size
       ·rw[s]at h;cases h
       rw[s,Ag]at h;have s:=Br s;cases h;have C:AR D ι z.cells z.cells:=(Bk 8 z N:VR D ι z z).cells (ID N);obtain⟨c,S,U⟩:=MT _ W _ _ _ Z (fh C 1);have l:c.size=e.size:=by have:=U.1;simp at this;omega
       obtain⟨u1,u2,f,E,F⟩:=G0 (is:=[]) (gs:=[]) (P:=P) (w:=w) (D:=D) (ι:=ι) (λid hid=>by rcases hid with h|h<;>cases h) (λid h=>by cases h) g Q c.toList _ B (λ_ h=>by cases h) (λ_ h=>by cases h) trivial (LR.of_AR (by simpa using U));have G:u2=[]:=by cases F;rfl
       rw[G,Ce]at f;have m:Cw (λ_=>AF) g x c.toList:=by
        rw[f];refine Cw.mono (λb cc d=> ?_) _ _ _ E;unfold JT at d;rw[AY (by rintro(⟨_,h,_⟩|⟨_,h,_⟩)<;>cases h)]at d;cases d
       refine⟨by simp[St.new],λH=>⟨St.new_wf H _,AFr.new _ _ _⟩,λH hD _=> ?_⟩;have hDn:¬D σ.next:=hD _ (by simp[St.rng,St.new]);let a:Reg:=DD w.heap.size 0 c.size g.sz (λ_=>AF) (.slice (AC ⟨w.heap.size,0,AF⟩) 1 1);refine⟨.slice (AC ⟨w.heap.size,0,AF⟩) 1 1,FR ι σ.next a,{ w with heap:=w.heap.push (.cells c k (0,0))},?_,?_,?_⟩
       ·have I:¬(1*e.size>2^24):=by omega
        have hn:¬(1*e.size=0):=by omega
        simp only[bc,A7,Ah hT X,Ax,Bb hT v];rw[AY I,AY hn];rw[<-Rt,q]at S;simp only[A7,HT hT v Y,A9,Ax,Mz,MD,q,S]
       ·exact .dat _ _ _ _ (.inr (by simp[St.rng,St.new])) (by rw[Am];rfl)
       ·refine Fh (gs:=[]) (rc:=[]) (rh:=[]) H ?_ (by simp) rfl rfl (λb d _=>BD w _ d) (λid h=>by cases h) (λ_=>.inl ⟨Ak _,by simp[a,DD]⟩) (λb ⟨c,h⟩=>by cases h);simp only[BI,Am];refine⟨rfl,λb c h=>(by cases h),.inr ⟨rfl,λ⟨c,h⟩=>(by cases h),1,c,(0,0),rfl,Ak _,BN w _,by simp[a,DD],?_,λj V=> ?_,λo ho u=> ?_,λi y u=> ?_⟩⟩
        ·simp only[a,DD,Nat.one_mul];omega
        ·rw[hT.inf _ _ v]at V;cases V;exact⟨p,MF _,by rw[l];exact Nat.mod_self _⟩
        ·simp only at u;omega
        ·have J:i=0:=by
          rcases i with _|i
          ·rfl
          ·cases u
         subst J;obtain rfl:x=y:=Dw u;have n:c.toList.length=g.sz:=by rw[D0,l,p]
         refine⟨by simp only[a,DD,Do,n];omega,?_⟩;simp only[a,DD,Do,I6];rw[GB (by omega)];exact m
      ·cases h
     ·cases h
    ·cases h
   ·cases h
  ·cases h
 ·cases h
end
end Go.Eng
end
end
end
section
noncomputable section
noncomputable section
namespace Go.Eng
open Go
def OB(σ:St):AP SV->AP OpR
 |some (v,a)=>AC (.val ⟨sy v,σ.assumes a,.nil⟩)
 |none=>AF
def w8(T:TE)(op:DO)(t:AQ)(a b:AJ):AP SV:=
 match DH a,DH b with
 |some (.bool x),AC (.bool y)=>match T.und t with
  |some .bool=>mj op (.bool x) (.bool y)
  |_=>AF
 |some a,AC b=>mj op a b
 |_,_=>AF
def AN9:Bp->AH
 | .const _=>AD
 |_=>AK
def ABP(T:TE)(op:DO)(t:AQ)(oy:Bp)(a b:AJ):AP SV:=
 match je a,b,T.und t with
 |some e,.nilIface,AC (.interface _)=>bif AN9 oy then match op with
   | .eql=>AC (.bool e,[])
   | .neq=>AC (.bool (!e),[])
   |_=>AF
  else AF
 |_,_,_=>AF
def w9(T:TE)(op:DO)(t:AQ)(oy:Bp)(a b:AJ):AP SV:=
 match w8 T op t a b with
 |some r=>AC r
 |none=>ABP T op t oy a b
def xA(E:Env)(op:DO)(t:AQ)(oy:Bp)(a b:AJ):AP SV:=
 match w9 E.T op t oy a b with
 |some r=>AC r
 |none=>ABn E.T E.cmp op t a b
def fw:AP AJ->AP (AP AJ)
 |none=>AC AF
 |some v=>match DH v with
  |some u=>AC (AC u)
  |none=>AF
def Le:AE AJ->AP (AE AJ)
 |[]=>AC []
 |v::vs=>match DH v,Le vs with
  |some u,AC us=>AC (u::us)
  |_,_=>AF
def TN(T:TE)(σ:St)(t:AQ)(x:AJ)(lo a:AP AJ):AP OpR:=
 match Zt T σ t x lo a with
 |some r=>AC (.val r)
 |none=>match DH x,fw lo,fw a with
  |some u,AC l,AC h=>OB σ (ABN T t u l h)
  |_,_,_=>AF
def Lf(T:TE)(σ:St)(args:Aa AQ)(x y:AJ):AP R:=
 match x with
 | .slice (AC ⟨id,off,AC 0⟩) 0 c=>bif Af c IX then match jW y with
   |some (_+1)=>J6 T σ args (.slice (AC ⟨id,off,AF⟩) 0 IX) y
   |_=>AF
   else AF
 |_=>AF
def TP(T:TE)(σ:St)(b:Uj)(argTypes:AE AQ)(args:AE AJ):AP OpR:=
 match b,args with
 | .append,[x,y]=>DV (Lf T σ argTypes.toArray x y)
 | .len,[x]=>match sLen T σ argTypes x with
   |some r=>AC (.val r)
   |none=>match Le args with
    |some us=>OB σ (sBI T b argTypes us)
    |none=>AF
 |_,_=>match Le args with
  |some us=>OB σ (sBI T b argTypes us)
  |none=>AF
def jh(E:Env)(σ:St)(g:BT)(args:AE AJ):AP OpR:=
 match E.mnz g,args with
 |some a,[v]=>match DH v,E.T.inf a with
  |some (.int .i64 (.ofNat n)),AC e=>bif Af e.size 1&&B8 n 281474976710656 then AC (.val ⟨.slice (AC ⟨σ.next,0,AF⟩) n IX,σ.new (.row (Hj n junk) a AK),.nil⟩)else AF
  |_,_=>AF
 |_,_=>AF
def td(σ:St)(x:AJ):AP R:=
 match x with
 | .slice (AC ⟨id,off,AF⟩) len _=>match σ.heap.get id with
   |some (.row a _ _)=>match Fm a off len with
    |some l=>match Le l with
     |some us=>match Dk us with
      |some b=>AC ⟨sy (.string (bs b)),σ,⟨J3 id off len,[],[],[]⟩⟩
      |none=>AF
     |none=>AF
    |none=>AF
   |_=>AF
 |_=>AF
def ZV(T:TE)(σ:St)(src dst:AQ)(x:AJ):AP R:=
 match T.und src,T.und dst with
 |some (.slice e),AC .string=>bif Rc (T.und e)then td σ x else AF
 |_,_=>AF
def HE(T:TE)(σ:St)(t:AQ)(v u:AJ):AP R:=
 match Fq T σ t v u with
 |some r=>AC r
 |none=>match DH u with
  |some i=>Dr T σ t v i
  |none=>AF
def OD(E:Env)(s:Tr AJ)(σ:St)(o:Az):AP OpR:=
 match o.op with
 | .load t a=>match av E.G s a with
   |some v=>DV (Zr E.T σ t v)
   |none=>AF
 | .binOp op t x y _=>match av E.G s x,av E.G s y with
   |some a,AC b=>OB σ (xA E op t y a b)
   |_,_=>AF
 | .unOp op _ x=>match av E.G s x with
   |some v=>match DH v with
    |some u=>OB σ (sUn op u)
    |none=>AF
   |none=>AF
 | .convert src dst x=>match av E.G s x with
   |some v=>match DH v with
    |some u=>OB σ (ml E.T src dst u)
    |none=>DV (ZV E.T σ src dst v)
   |none=>AF
 | .slice t x lo d AF=>match av E.G s x,lW E.G s lo,lW E.G s d with
   |some v,AC l,AC h=>TN E.T σ t v l h
   |_,_,_=>AF
 | .fieldAddr t x f=>match av E.G s x with
   |some v=>DV (IM E.T σ t v f)
   |none=>AF
 | .indexAddr t x i=>match av E.G s x,av E.G s i with
   |some v,AC u=>DV (HE E.T σ t v u)
   |_,_=>AF
 | .index t x i=>match av E.G s x,av E.G s i with
   |some v,AC u=>match DH v,DH u with
    |some a,AC b=>OB σ (ABM E.T t a b)
    |_,_=>AF
   |_,_=>AF
 | .call c=>match lV E.G s c.args.toList with
   |some args=>match c.callee with
    | .builtin b=>TP E.T σ b c.argTypes.toList args
    | .value f=>match av E.G s f with
      |some (.func (.func g) first captured)=>jh E σ g (first.toList++args++captured.toList)
      |_=>AF
    |_=>AF
   |none=>AF
 |_=>AF
def ZX(T:TE)(vt:AQ->AP Ty)(σ:St)(src dst:AQ)(x:AJ):AP R:=
 match x with
 | .tuple a=>match T.und src,T.und dst,a.toList with
   |some _,AC (.slice e),[.chan (AC 1),.string s]=>match vt e with
    |some .byte=>bif Rc (T.und e)then tb T σ e (Fg s)else AF
    |_=>AF
   |some (.slice e),AC .string,[.chan (AC 2),_]=>bif Rc (T.und e)then mo σ x else AF
   |_,_,_=>AF
 |_=>AF
def ZY(T:TE)(σ:St)(t:AQ)(x:AJ)(lo f:AP AJ):AP R:=
 match x with
 | .tuple a=>match T.und t,a.toList with
   |some (.slice b),[.chan (AC 2),.pointer (AC ⟨id,0,AF⟩)]=>match σ.heap.get id,T.inf b with
    |some (.vec d c e),AC i=>bif Af e b&&Af i.size d.sz then match lo,f with
     |none,AC h=>match DH h with
      |some (.int _ m)=>AC ⟨pf id m.toNat,σ.assumes [AG (0<=m),AG (m<=c.length)],⟨[],[id],[],[]⟩⟩
      |_=>AF
     |some l,AF=>match DH l with
      |some (.int _ n)=>AC ⟨dt σ.next,((σ.puts [id]).new (.vec d (c.drop n.toNat) b)).assumes [AG (0<=n),AG (n<=c.length)],⟨[],[],[],[id]⟩⟩
      |_=>AF
     |_,_=>AF
     else AF
    |_,_=>AF
   |_,_=>AF
 |_=>AF
def TQ(T:TE)(σ:St)(op:DO)(t:AQ)(x y:AJ):AP R:=
 match x,y with
 | .tuple a,.slice AF 0 0=>match T.und t,a.toList with
   |some (.slice _),[.chan (AC 2),.pointer (AC ⟨id,0,AF⟩)]=>match JX (σ.heap.get id)with
    |some ⟨_,b⟩=>match op with
     | .eql=>AC ⟨.bool AK,σ.assume (AG (0<b.length)),⟨[],[id],[],[]⟩⟩
     | .neq=>AC ⟨.bool AD,σ.assume (AG (0<b.length)),⟨[],[id],[],[]⟩⟩
     |_=>AF
    |none=>AF
   |_,_=>AF
 |_,_=>AF
def ji(E:Env)(s:Tr AJ)(σ:St)(o:Az):AP OpR:=
 match o.op with
 | .call c=>match c.callee with
   | .builtin .append=>match lV E.G s c.args.toList with
     |some [x,y]=>DV (AN7 E.T E.vt σ c.argTypes x y)
     |_=>AF
   |_=>AF
 | .store t a x=>match av E.G s a,av E.G s x with
   |some v,AC u=>DV (OA E.T σ t v u)
   |_,_=>AF
 | .convert src dst x=>match av E.G s x with
   |some v=>DV (ZX E.T E.vt σ src dst v)
   |none=>AF
 | .makeSlice t l c=>match av E.G s l,av E.G s c with
   |some a,AC b=>DV (ZS E.T σ t a b)
   |_,_=>AF
 | .buildSlice t n d=>match uG E.G s d.toList with
   |some l=>DV (TM E.T E.vt σ t n l)
   |none=>AF
 | .binOp op t x y _=>match av E.G s x,av E.G s y with
   |some a,AC b=>DV (TQ E.T σ op t a b)
   |_,_=>AF
 | .slice t x lo e AF=>match av E.G s x,lW E.G s lo,lW E.G s e with
   |some v,AC l,AC h=>DV (ZY E.T σ t v l h)
   |_,_,_=>AF
 |_=>AF
def TR(P:Ao)(E:Env)(s:Tr AJ)(σ:St)(o:Az):AP OpR:=
 match gN P E s σ o with
 |some r=>AC r
 |none=>OD E s σ o
def K3(P:Ao)(E:Env)(s:Tr AJ)(σ:St)(o:Az):AP OpR:=
 match ji E s σ o with
 |some r=>AC r
 |none=>TR P E s σ o
section
variable {P:Ao} {E:Env} (hE:E.OK P) {D:AB->Prop} {ι:AB->Reg} {σ:St} {w:AN} {s:Tr AJ} {ρ:Bp->AJ}
theorem Pq{x:AP SV}{r:R}(h:OB σ x=AC (.val r)):∃v a,x=AC (v,a)/\r=⟨sy v,σ.assumes a,.nil⟩:=by
 unfold OB at h
 split at h
 ·cases h;exact⟨_,_,rfl,rfl⟩
 ·cases h
theorem Qq:∀(a:AE AH) (σ:St) (φ:Foot),σ.next<=(σ.assumes a).next/\(σ.wf->(σ.assumes a).wf/\AFr σ (σ.assumes a) φ)
 |[],σ,φ=>⟨Ak _,λb=>⟨b,AFr.refl _ _⟩⟩
 |p::a,σ,φ=>by
  obtain⟨d,c⟩:=Qq a σ φ;exact⟨d,λb=>⟨(c b).1,(c b).2.assume p⟩⟩
theorem OE{x:AP SV}{r:R}(h:OB σ x=AC (.val r)):B6 σ r:=by
 obtain⟨v,a,_,rfl⟩:=Pq h;exact Qq a σ .nil
theorem B6.assumes{v:AJ}{σ':St}{φ:Foot}:∀(a:AE AH),B6 σ ⟨v,σ',φ⟩->B6 σ ⟨v,σ'.assumes a,φ⟩
 |[],h=>h
 |p::a,h=>by
  obtain⟨d,b⟩:=B6.assumes a h;exact⟨d,λc=>⟨(b c).1,(b c).2.assume p⟩⟩
theorem B6.assume{v:AJ}{σ':St}{φ:Foot}{p:AH}(h:B6 σ ⟨v,σ',φ⟩):B6 σ ⟨v,σ'.assume p,φ⟩:=B6.assumes [p] h
theorem jj{T:TE}{t:AQ}{a:AJ}{r:R}(h:Zr T σ t a=AC r):B6 σ r:=by
 unfold Zr at h;simp only[Dn]at h
 split at h
 ·split at h
  ·split at h
   ·split at h
    ·split at h
     ·split at h
      ·rcases b:Gm _ σ with⟨vs,σ1⟩
       rw[b]at h;cases h;exact B6.assume (D5 b)
      ·cases h
     ·cases h
    ·split at h
     ·split at h
      ·rename_i b;cases h;exact B6.assume (D5 b)
      ·cases h
     ·cases h
   ·cases h
  ·cases h
 ·cases h
theorem TS{T:TE}{t:AQ}{x i:AJ}{r:R}(h:Fq T σ t x i=AC r):B6 σ r:=by
 unfold Fq at h;simp only[Dn]at h
 repeat' split at h
 all_goals first|(cases h;exact B6.assume (B6.assume (B6.same _ _)))|cases h
theorem jk{T:TE}{src dst:AQ}{x:AJ}{r:R}(h:ZV T σ src dst x=AC r):B6 σ r:=by
 unfold ZV td at h;simp only[Dn]at h
 repeat' split at h
 all_goals first|(cases h;exact B6.same _ _)|cases h
theorem TT{T:TE}{t:AQ}{x i:AJ}{r:R}(h:HE T σ t x i=AC r):B6 σ r:=by
 unfold HE at h
 split at h
 ·rename_i a;cases h;exact TS a
 ·split at h
  ·exact Ld h
  ·cases h
theorem TU{T:TE}{t:AQ}{x:AJ}{f:AB}{r:R}(h:IM T σ t x f=AC r):B6 σ r:=by
 unfold IM at h;simp only[Dn]at h
 repeat' split at h
 all_goals first|(cases h;exact B6.same _ _)|cases h
theorem mu{T:TE}{ts:AE AQ}{x:AJ}{r:R}(h:sLen T σ ts x=AC r):B6 σ r:=by
 unfold sLen at h
 repeat' split at h
 all_goals first|(cases h;exact B6.same _ _)|cases h
theorem jl{T:TE}{t:AQ}{x:AJ}{lo a:AP AJ}{r:R}(h:Zt T σ t x lo a=AC r):B6 σ r:=by
 unfold Zt at h;simp only[Dn]at h
 repeat' split at h
 all_goals first|(cases h;exact B6.assumes _ (B6.new _ _ _))|cases h
theorem dH{T:TE}{t:AQ}{x:AJ}{lo a:AP AJ}{r:R}(h:TN T σ t x lo a=AC (.val r)):B6 σ r:=by
 unfold TN at h
 split at h
 ·rename_i b;cases h;exact jl b
 ·split at h
  ·exact OE h
  ·cases h
theorem Xl{T:TE}{ts:Aa AQ}{x y:AJ}{r:R}(h:Lf T σ ts x y=AC r):B6 σ r:=by
 unfold Lf at h;simp only[Dn]at h
 repeat' split at h
 all_goals first|exact Qo h|cases h
theorem dI{T:TE}{b:Uj}{ts:AE AQ}{args:AE AJ}{r:R}(h:TP T σ b ts args=AC (.val r)):B6 σ r:=by
 unfold TP at h
 split at h
 ·exact Xl (Av h)
 ·split at h
  ·rename_i a;cases h;exact mu a
  ·split at h
   ·exact OE h
   ·cases h
 ·split at h
  ·exact OE h
  ·cases h
theorem mw{g:BT}{args:AE AJ}{r:R}(h:jh E σ g args=AC (.val r)):B6 σ r:=by
 unfold jh at h;simp only[Dn]at h
 repeat' split at h
 all_goals first|(cases h;exact B6.new _ _ _)|cases h
theorem jm{o:Az}{r:R}(h:OD E s σ o=AC (.val r)):B6 σ r:=by
 unfold OD at h
 repeat' split at h
 all_goals first
  |exact OE h
  |exact jj (Av h)
  |exact TU (Av h)
  |exact TT (Av h)
  |exact jk (Av h)
  |exact dH h
  |exact dI h
  |exact mw h
  |cases h
theorem jn{T:TE}{vt:AQ->AP Ty}{src dst:AQ}{x:AJ}{r:R}(h:ZX T vt σ src dst x=AC r):B6 σ r:=by
 unfold ZX tb mo at h;simp only[Dn]at h
 repeat' split at h
 all_goals first|(cases h;exact B6.new _ _ _)|(cases h;exact B6.same _ _)|cases h
theorem dJ{T:TE}{t:AQ}{a v:AJ}{r:R}(h:TI T σ t a v=AC r):B6 σ r:=by
 unfold TI at h;simp only[Dn]at h
 repeat' split at h
 all_goals first
  |(rename_i c _ _ _ _ _ _ _;cases h;exact B6.assume (B6.assumes _ ⟨Ak _,λb=>⟨St.put_wf b (St.lv_lt b (St.lv_of (by assumption))) _,AFr.whole (by simp)⟩⟩))
  |(cases h;exact B6.assume (B6.assumes _ ⟨Ak _,λb=>⟨St.put_wf b (St.lv_lt b (St.lv_of (by assumption))) _,AFr.whole (by simp)⟩⟩))
  |cases h
theorem ZZ{T:TE}{t:AQ}{a v:AJ}{r:R}(h:OA T σ t a v=AC r):B6 σ r:=by
 unfold OA at h
 split at h
 ·rename_i d b;cases h;exact dJ b
 ·split at h
  ·rename_i d b;cases h;unfold Rw at b;simp only[Dn]at b
   repeat' split at b
   all_goals first
    |(cases b;exact B6.assume (B6.assumes _ ⟨Ak _,λc=>⟨St.put_wf c (St.lv_lt c (St.lv_of (by assumption))) _,AFr.whole (by simp)⟩⟩))
    |cases b
  ·unfold Rx at h;simp only[Dn]at h
   repeat' split at h
   all_goals first
    |(cases h;exact B6.assume (B6.assumes _ (B6.rep (KA (by assumption)).1)))
    |cases h
theorem my{T:TE}{vt:AQ->AP Ty}{ts:Aa AQ}{x y:AJ}{r:R}(h:AN7 T vt σ ts x y=AC r):B6 σ r:=by
 unfold AN7 at h;simp only[Dn]at h
 repeat' split at h
 all_goals first|(cases h;exact B6.assume (B6.assumes _ B6.puts))|cases h
theorem dK{T:TE}{vt:AQ->AP Ty}{t:AQ}{n:AB}{a:AE (AB×AJ)}{r:R}(h:TM T vt σ t n a=AC r):B6 σ r:=by
 unfold TM at h;simp only[Dn]at h
 repeat' split at h
 all_goals first|(cases h;exact B6.new _ _ _)|cases h
theorem jo{T:TE}{t:AQ}{x y:AJ}{r:R}(h:ZS T σ t x y=AC r):B6 σ r:=by
 unfold ZS at h;simp only[Dn]at h
 repeat' split at h
 all_goals first|(cases h;exact B6.assume (B6.assume (B6.assume (B6.new _ _ _))))|cases h
theorem dL{T:TE}{op:DO}{t:AQ}{x y:AJ}{r:R}(h:TQ T σ op t x y=AC r):B6 σ r:=by
 unfold TQ at h
 repeat' split at h
 all_goals first|(cases h;exact B6.assume (B6.same _ _))|cases h
theorem AN0{T:TE}{t:AQ}{x:AJ}{lo a:AP AJ}{r:R}(h:ZY T σ t x lo a=AC r):B6 σ r:=by
 unfold ZY at h;simp only[Dn]at h
 repeat' split at h
 all_goals first|(cases h;exact B6.assumes _ (B6.same _ _))|(cases h;exact B6.assumes _ B6.puts)|cases h
theorem tf{o:Az}{r:R}(h:ji E s σ o=AC (.val r)):B6 σ r:=by
 unfold ji at h
 repeat' split at h
 all_goals first
  |exact my (Av h)
  |exact ZZ (Av h)
  |exact jn (Av h)
  |exact jo (Av h)
  |exact dK (Av h)
  |exact dL (Av h)
  |exact AN0 (Av h)
  |cases h
theorem mz{o:Az}{r:R}(h:K3 P E s σ o=AC (.val r)):B6 σ r:=by
 unfold K3 TR at h
 split at h
 ·rename_i a;cases h;exact tf a
 ·split at h
  ·rename_i a;cases h;exact ta a
  ·exact jm h
theorem OG{op:DO}{t:AQ}{ox oy:Bp}{x y:AJ}(h:Mi x=AD)(w:AN):(I7 op t ox oy x y).run P w=.ok () w:=
 F6 (by rintro rfl;cases h) (by rintro c rfl;cases h) w
theorem IJ{e:Sem AJ}{x:AP SV}{r:R}(h:OB σ x=AC (.val r))(b:r.σ.Ok)(c:∀v a,x=AC (v,a)->FZ a->e.run P w=.ok v w/\Mi v=AD):De P D ι σ w (do Ck (.value (<-e))) r:=by
 obtain⟨v,a,d,rfl⟩:=Pq h;obtain⟨f, -⟩:=(Cs _ _).1 b;obtain⟨g,i⟩:=c v a d f;exact Ab.next (Ab.assumes a (Ab.pure g (.sym v i)))
theorem TV:∀(vs us:AE AJ) (as:Aa AJ),Le vs=AC us->AR D ι vs.toArray as->as=us.toArray
 |[],us,as,h,b=>by
  simp only[Le,BJ]at h;subst h;have:as.size=0:=by simpa using b.1.symm
  exact PG this
 |v::vs,us,as,h,b=>by
  simp only[Le]at h
  split at h
  ·rename_i u c e d;cases h;obtain⟨l⟩:=as;cases l with
   |nil=>have:=b.1;simp at this
   |cons a l=>
    have f:=(Ay e (b.2 0 v a (by simp) (by simp))).1;have:=TV vs c l.toArray d ⟨by have:=b.1;simp at this;simpa using this,λi x y g j=>b.2 (i+1) x y (by simpa using g) (by simpa using j)⟩;have k:l=c:=by simpa using this
    rw[f,k]
  ·cases h
theorem TW{x a:AP AJ}{u:AP AJ}(h:fw x=AC u)(c:OR D ι x a):a=u:=by
 unfold fw at h
 split at h
 ·cases h;cases c;rfl
 ·split at h
  ·rename_i f d;cases h;cases c with
   |some _ b e=>rw[(Ay d e).1]
  ·cases h
theorem jq{b:AH}{x:AJ}(h:pT b x=AD):(x=.nilIface/\b=AD)\/∃t u,x=.iface t u/\b=false:=by
 cases x<;>first|(cases h;done)|skip
 ·exact .inr ⟨_,_,rfl,by simpa[pT]using h⟩
 ·exact .inl ⟨rfl,h⟩
theorem Za{op:DO}{t:AQ}{ox oy:Bp}{x y:AJ}(a:AN9 oy=AD)(b:∀c,x≠ .agg c)(w:AN):(I7 op t ox oy x y).run P w=.ok () w:=by
 have:I7 op t ox oy x y=Ck ():=by
  cases oy<;>first|(cases a;done)|skip
  cases op<;>first
   |rfl
   |(cases x<;>first
    |rfl
    |exact Aq rfl (b _)
    |(cases y<;>first|rfl|(simp only[I7];cases ox<;>rfl)))
 rw[this];rfl
theorem AOA{T:TE}(hT:T.OK P){op:DO}{t:AQ}{ox oy:Bp}{a b c f v:AJ}{m:AE AH}(h:ABP T op t oy a b=AC (v,m))(n:VR D ι a c)(o:VR D ι b f)(w:AN):
  (do I7 op t ox oy c f;binOp op t c f).run P w=.ok v w/\Mi v=true:=by
 unfold ABP at h
 split at h
 ·rename_i e i p q;cases o;cases g:AN9 oy
  ·rw[g]at h;cases h
  rw[g,Ag]at h;have hE:=jq (MU p n);have d:(Ks t c .nilIface).run P w=.ok e w:=by
   have j:Ks t c .nilIface=Ku (9999+1) t c .nilIface:=rfl;rw[j,Ku];rcases hE with⟨rfl,rfl⟩|⟨_,_,rfl,rfl⟩<;>
   ·simp only[A7,Ah hT q,Ax,A9]<;>rfl
  have k:notNum c=true:=by rcases hE with⟨rfl,_⟩|⟨_,_,rfl,_⟩<;>rfl
  have l:∀op,(I7 op t ox oy c .nilIface).run P w=.ok () w:=λop=>Za g (by rcases hE with⟨rfl,_⟩|⟨_,_,rfl,_⟩<;>simp) w
  split at h
  ·cases h;exact⟨by simp only[A7,l,Ax,Py k,d,A9],rfl⟩
  ·cases h;exact⟨by simp only[A7,l,Ax,Pz k,d,A9],rfl⟩
  ·cases h
 ·cases h
include hE in
theorem dM{g:BT}{args:AE AJ}{as:Aa AJ}{r:R}(h:jh E σ g args=AC (.val r))(q:AR D ι args.toArray as):De P D ι σ w (callFunc g as) r:=by
 unfold jh at h
 split at h
 ·rename_i a v s
  split at h
  ·rename_i n e t u;cases b:(Af e.size 1&&B8 n 281474976710656)
   ·rw[b]at h;cases h
   rw[b,Ag,]at h;rw[A0]at b;have m:=Br b.1;have x:=GJ b.2;cases h;obtain⟨v',rfl,y⟩:=q.one;obtain⟨rfl, -⟩:=Ay t y;obtain⟨d,z,c⟩:=hE.mnz _ _ s n w x;refine⟨by simp[St.new],λj=>⟨St.new_wf j _,AFr.new _ _ _⟩,λj A _=> ?_⟩
   have l:¬D σ.next:=A _ (by simp[St.rng,St.new]);refine⟨_,_,FR ι σ.next (rg w.heap.size 0 d.size 1),_,z,.inl rfl,?_,Post.new j l (by simpa using c) (λi p=> ?_) (fr:=(0,0)) (λo _ h=>by omega) (λk v f=> ?_) rfl rfl rfl rfl rfl⟩
   ·have:=VR.slU (D:=λi=>D i\/σ.rng (σ.new (.row (Hj n junk) a AK)) i) (ι:=FR ι σ.next (rg w.heap.size 0 d.size 1)) σ.next 0 n d.size (.inr (St.rng_new.2 rfl)) c (by rw[Am];simp);rw[Am]at this;exact this
   ·rw[hE.T.inf _ _ u]at p;cases p;exact⟨m.symm,by rw[m];exact PK _⟩
   ·rw[List.getElem?_replicate]at f
    split at f
    ·cases f;exact⟨d[k]'(by omega),CX _,.junk _⟩
    ·cases f
  ·cases h
 ·cases h
theorem Zb{size m n:AB}{y:AJ}{l:AE AJ}{rc:AE (AB×AB)}(b:jW y=AC m)(a:S5 σ size y=AC (l,n,rc)):n=m:=by
 unfold S5 at a;simp only[Dn]at a
 repeat' split at a
 all_goals first|(cases a;cases b;rfl)|cases a
 all_goals (rename_i c;cases b;exact(Br c).symm)
theorem Zc{T:TE}(hT:T.OK P){j xT:AQ}{args:Aa AQ}{d:TypeDesc}{c:AQ}{e:TypeInfo}{z:AJ}{a b:Addr}{n:AB}{x:AJ}{ty:AQ}(m:args[0]?=AC j)(o:args[1]?=AC xT)(p:T.und j=AC (.slice c))(q:T.und xT=AC d)(hd:∀k,d≠ .int k)(l:T.inf c=AC e)(_hz:e.zero=AC z)(g:e.bytes≠0)(t:(2*(0+n)+400)*e.bytes<=2^48)(f:∀w,(RK x).run P w=.ok n w)(H3:0<n)(w:AN):
  (Eo args ty #[.slice (AC a) 0 0,x]).run P w=(Eo args ty #[.slice (AC b) 0 0,x]).run P w:=by
 have r:(Mx (0+n) 0 c).forced=false:=rfl;have h:¬(Builtin.nextslicecap (0+n) 0*e.bytes>2^48):=by
  have:=Gc e.bytes (S6 (show 0<0+n by omega));omega
 have i:¬(0+n<=0):=by omega
 have s:∀(a:Addr) (w:AN),(GZ e.size 0 (.slice (AC a) 0 0)).run P w=.ok #[] w:=λa w=>by
  simp only[GZ,I6];rfl
 unfold Eo;simp only[m,o,ANI,EM,RL,A7,Ah hT p,Ax,Bb hT l,Ah hT q,A9,CI,BR,f,AY i,
  MR hT l,g,false_or,and_false,AY h,run_choose,r,zF,Bool.not_false,if_true,s]
theorem TX{T:TE}(hT:T.OK P){args:Aa AQ}{ty:AQ}{x s y g:AJ}{r:R}(h:Lf T σ args x y=AC r)(B:VR D ι x s)(i:VR D ι y g):
  Ab P D ι σ w (Eo args ty #[s,g]) r:=by
 unfold Lf at h
 split at h
 ·rename_i id off c;cases b:Af c IX
  ·rw[b]at h;cases h
  rw[b,Ag]at h;have b:=Br b;subst b
  split at h
  ·rename_i n t;cases B with
   |slE _ _ C c u v j=>
    rcases j with rfl|⟨rfl,j⟩
    ·obtain⟨E,F,G⟩:=JF hT (w:=w) (ty:=ty) h (.slU id off 0 0 u (Ak _) (by omega)) i;refine⟨E,F,λH I J=> ?_⟩;have k:(Eo args ty #[.slice (AC ⟨(ι id).blk,(ι id).base+C,AF⟩) 0 0,g]).run P w=(Eo args ty #[.slice (AC ⟨(ι id).blk,(ι id).base+off,AF⟩) 0 0,g]).run P w:=by
      unfold J6 at h
      split at h
      ·rename_i K xT A a;have L:args[0]?=AC K:=by rw[<-Bf,a];rfl
       have v:args[1]?=AC xT:=by rw[<-Bf,a];rfl
       split at h
       ·rename_i f d l o;cases hd:Pk d
        ·rw[hd,BZ]at h
         split at h
         ·rename_i e M
          split at h
          ·rename_i z new m rc N p;have O:=Zb t p;subst O;dsimp only at h
           split at h
           ·rename_i X el Q Y;rw[Ei (rfl:IX=IX),Ag,aP (show Nat.succ n≠0 by omega),BZ]at h;cases q:(Af el f&& !Q&&LV e z (0+(n+1))&&new.all oneC&&Af (Nat.mod off e.size) 0)
            ·rw[q]at h;cases h
            ·rw[A0,A0,A0]at q;obtain⟨g1,S,g3⟩:=Im q.1.1.2;exact Zc hT L v l o (LW hd) M N S g3 (S9 t i) (by omega) w
           ·cases h
          ·cases h
         ·cases h
        ·rw[hd]at h;cases h
       ·cases h
      ·cases h
     obtain⟨v',ι',w',U,V,W⟩:=G H I J;exact⟨v',ι',w',k.trans U,V,W⟩
    ·exact JF hT h (.slU id _ 0 c u (Nat.zero_le _) j) i
  ·cases h
 ·cases h
theorem fx{v:AJ}(h:Mi v=AD):VR D ι v v:=by
 cases v<;>first|(cases h;done)|constructor
theorem TY:∀(vs us:AE AJ),Le vs=AC us->us.length=vs.length/\∀(k:AB) v u,vs[k]?=AC v->us[k]?=AC u->DH v=AC u
 |[],us,h=>by
  simp only[Le,BJ]at h;subst h;exact⟨rfl,λk v u b=>by simp at b⟩
 |v::vs,us,h=>by
  simp only[Le]at h
  split at h
  ·rename_i u c e d;cases h;obtain⟨f,g⟩:=TY vs c d;refine⟨by simp[f],λk v' i b a=> ?_⟩;rcases k with _|k
   ·simp only[EM,BJ]at b a;subst b a;exact e
   ·exact g k v' i (by simpa using b) (by simpa using a)
  ·cases h
theorem dN{x f:AJ}{r:R}(h:td σ x=AC r)(q:VR D ι x f):Ab P D ι σ w (Ui f) r/\∃a l c,f=.slice a l c:=by
 unfold td at h
 split at h
 ·rename_i id off len cap
  split at h
  ·rename_i J e K s
   split at h
   ·rename_i l t
    split at h
    ·rename_i us g
     split at h
     ·rename_i b y;cases h;obtain⟨L,rfl,_⟩:=q.sl_inv;refine⟨Ab.same (w':=w) (v':=.string (bs b)) (λA=> ?_) rfl rfl,_,_,_,rfl⟩;obtain⟨c,B,m⟩:=Dj s t A λj M=>.inl (Di.2 ⟨rfl,Nat.le_add_right _ _,by omega⟩)
      refine⟨?_,.sym _ rfl,rfl,rfl,rfl⟩;obtain⟨n,C⟩:=TY _ _ g;have d:=N3 (D:=D) (ι:=ι) P w us c.toList b .empty y (by rw[n];simpa using m.1) λk u v' o E=>by
       have F:k<l.length:=by rw[<-n];exact(List.getElem?_eq_some_iff.1 o).1
       obtain⟨v,p⟩:∃v,l[k]?=AC v:=⟨_,B4 F⟩
       have i:=m.2 k v v' (by simpa using p) (by simpa using E);obtain⟨rfl,G⟩:=Ay (C k _ u p o) i;exact fx G
      have H:(⟨(RI).data++b.toArray⟩:Cg)=bs b:=by apply Kp;simp[bs]
      rw[H]at d;simp only[Ui,A7,B w rfl,Ax];rw[<-zE];have:∀z:Result Cg,z=.ok (bs b) w->(z.andThen λa w'=>(Ck (E9 a):Sem AJ).run P w')=.ok (.string (bs b)) w:=λz I=>by rw[I];rfl
      exact this _ d
     ·cases h
    ·cases h
   ·cases h
  ·cases h
 ·cases h
theorem Zd{T:TE}(hT:T.OK P){src dst:AQ}{x f:AJ}{r:R}(h:ZV T σ src dst x=AC r)(g:VR D ι x f):Ab P D ι σ w (FB src dst f) r:=by
 unfold ZV at h
 split at h
 ·rename_i e i j;cases d:Rc (T.und e)
  ·rw[d]at h;cases h
  rw[d,Ag]at h;have k:=JZ d;obtain⟨⟨g1,l,g3⟩,p,q,s,rfl⟩:=dN (P:=P) (w:=w) (D:=D) (ι:=ι) h g;refine⟨g1,l,λa b c=> ?_⟩;obtain⟨v',ι',w',m,n,o⟩:=g3 a b c;refine⟨v',ι',w',?_,n,o⟩;simp only[FB,A7,Ah hT i,Ah hT j,Ax,Ah hT k]
  exact m
 ·cases h
theorem Pr{T:TE}(hT:T.OK P){t:AQ}{x d e a:AJ}{r:R}(h:HE T σ t x e=AC r)(c:r.σ.Ok)(f:VR D ι x d)(b:VR D ι e a):Ab P D ι σ w (Instr.indexAt t d a) r:=by
 unfold HE at h
 split at h
 ·rename_i g;cases h;exact Pw hT g c f b
 ·split at h
  ·rename_i i j;obtain⟨rfl,k⟩:=Ay j b;exact JS hT h f (fx k)
  ·cases h
include hE in
theorem jr{o:Az}{r:R}(h:OD E s σ o=AC (.val r))(n:r.σ.Ok)(k:∀x,x∈o.op.operands->gO E.G D ι s ρ x):De P D ι σ w (ME ρ o) r:=by
 unfold OD at h;unfold ME
 split at h
 ·rename_i t a m;simp only[m,D1]at k⊢
  split at h
  ·rename_i v j;exact Ab.next (Zs hE.T (Av h) n (k a (by simp) v j))
  ·cases h
 ·rename_i op t x y ty m;simp only[m,D1]at k⊢
  split at h
  ·rename_i a b X Y;have q:=k x (by simp) a X;have K:=k y (by simp) b Y;refine IJ h n λv Q j C=> ?_
   unfold xA at j
   split at j
   case h_2=>exact nU hE.T hE.cmp j q K w
   rename_i Z;cases j;have j:=Z;unfold w9 at j
   split at j
   case h_2=>exact AOA hE.T j q K w
   rename_i hv2;cases j;have j:=hv2;unfold w8 at j
   split at j
   ·rename_i x' y' H I
    split at j
    ·rename_i z;obtain⟨F,L⟩:=Ay H q;obtain⟨S,e4⟩:=Ay I K;rw[F,S];obtain⟨M,N⟩:=ZN (P:=P) (t:=t) hE.T (λ_ _=>z) j C w;exact⟨by simp only[A7,OG L,Ax];exact M,N⟩
    ·cases j
   ·rename_i u1 u2 hno H I;obtain⟨F,L⟩:=Ay H q;obtain⟨S,e4⟩:=Ay I K;rw[F,S];have hnb:∀b,u1=.bool b->E.T.und t=AC .bool:=by
     rintro b rfl;unfold mj at j
     split at j
     ·rename_i p;cases p
     ·rename_i p;cases p
     ·exact(hno _ _ rfl rfl).elim
     ·rename_i p;cases p
     ·rename_i p;cases p
     ·cases j
    obtain⟨M,N⟩:=ZN (P:=P) (t:=t) hE.T hnb j C w;exact⟨by simp only[A7,OG L,Ax];exact M,N⟩
   ·cases j
  ·cases h
 ·rename_i op t x m;simp only[m,D1]at k⊢
  split at h
  ·rename_i v j
   split at h
   ·rename_i u z;obtain⟨F,L⟩:=Ay z (k x (by simp) v j);rw[F];exact IJ h n λv Q j C=>tX j C w
   ·cases h
  ·cases h
 ·rename_i src dst x m;simp only[m,D1]at k⊢
  split at h
  ·rename_i v j
   split at h
   ·rename_i u z;obtain⟨F,L⟩:=Ay z (k x (by simp) v j);rw[F];exact IJ h n λv Q j C=>jY hE.T j C w
   ·exact Ab.next (Zd hE.T (Av h) (k x (by simp) v j))
  ·cases h
 ·rename_i t x lo hi m;simp only[m,D1]at k⊢
  split at h
  ·rename_i v l h' j hl hh;have p:=KH hl λy e=>k y (by subst e;simp)
   have W:=KH hh λy e=>k y (by subst e;simp)
   unfold TN at h
   split at h
   ·rename_i O;cases h;exact Ab.next (Zu hE.T O n (k x (by simp) v j) p W)
   ·split at h
    ·rename_i u l2 h2' z hl2 hh2;obtain⟨F,L⟩:=Ay z (k x (by simp) v j);have S:=TW hl2 p;have e4:=TW hh2 W;rw[F,S,e4];exact IJ h n λv Q j C=>mn hE.T j C w
    ·cases h
  ·cases h
 ·rename_i t x f m;simp only[m,D1]at k⊢
  split at h
  ·rename_i v j;exact Ab.next (Px hE.T (Av h) (k x (by simp) v j))
  ·cases h
 ·rename_i t x i m;simp only[m,D1]at k⊢
  split at h
  ·rename_i v u j z;exact Ab.next (Pr hE.T (Av h) n (k x (by simp) v j) (k i (by simp) u z))
  ·cases h
 ·rename_i t x i m;simp only[m,D1]at k⊢
  split at h
  ·rename_i v u j z
   split at h
   ·rename_i a b X Y;rw[(Ay X (k x (by simp) v j)).1,(Ay Y (k i (by simp) u z)).1];exact IJ h n λv Q j C=>mm hE.T j C w
   ·cases h
  ·cases h
 ·rename_i c m;simp only[m,D1,bj]at k⊢
  split at h
  ·rename_i args J;have U:=KG (ρ:=ρ) _ _ J λx q=>k x (by simp at q⊢;exact .inr q)
   have q1:(c.args.toList.map ρ).toArray=c.args.map ρ:=by apply Gr;simp
   rw[q1]at U
   split at h
   ·rename_i b O;have e:(do let d<-resolve ρ c o.type;invoke d.target d.args:Sem Next)=Um b c.argTypes o.type (c.args.map λ| .const _=>AD|_=>AK) (c.args.map ρ):=by
     simp only[resolve,O];rfl
    rw[e];have A:∀us,Le args=AC us->OB σ (sBI E.T b c.argTypes.toList us)=AC (.val r)->De P D ι σ w (Um b c.argTypes o.type (c.args.map λ| .const _=>AD|_=>AK) (c.args.map ρ)) r:=by
     intro us B hsv;rw[TV args us _ B U];obtain⟨v,Q,q,rfl⟩:=Pq hsv;obtain⟨M,N,r3⟩:=tZ (P:=P) hE.T q w (ty:=o.type) (consts:=c.args.map λ| .const _=>AD|_=>AK);simp only at M N r3;subst r3;exact De.value M (.sym v N)
    unfold TP at h
    split at h
    ·rename_i x y;obtain⟨x',y',hxy,q,K⟩:=U.two;rw[hxy];have:=TX hE.T (w:=w) (ty:=o.type) (Av h) q K;simp only[Array.toArray_toList]at this;exact Ab.next this
    ·rename_i x
     split at h
     ·rename_i r' hl;cases h;obtain⟨x',hx',hxx⟩:=U.one;rw[hx'];exact Ab.next (dp hE.T hl hxx)
     ·split at h
      ·rename_i us B;exact A us B h
      ·cases h
    ·split at h
     ·rename_i us B;exact A us B h
     ·cases h
   ·rename_i f O
    split at h
    ·rename_i g first captured hf
     have ef:=k f (by simp[O]) _ hf;generalize hrf:ρ f=rf at ef;cases ef with
     |func _ _ a' _ b' p W h3 h4=>
      have V:AR D ι (first.toList++args++captured.toList).toArray (a'++c.args.map ρ++b'):=AR.catN ⟨by simpa using p,by simpa using h3⟩ U ⟨by simpa using W,by simpa using h4⟩;obtain⟨s1,s2,s3⟩:=dM hE (w:=w) h V;refine⟨s1,s2,λhw hD m=> ?_⟩;rw[KK O hrf];exact s3 hw hD m
    ·cases h
   ·cases h
  ·cases h
 ·cases h
omit hE in
theorem Ze{T:TE}(hT:T.OK P){t:AQ}{x S:AJ}{lo hi o p:AP AJ}{r:R}(h:ZY T σ t x lo hi=AC r)(J:r.σ.Ok)(hx:VR D ι x S)(h1:OR D ι lo o)(h2:OR D ι hi p):Ab P D ι σ w (FA t S o p AF) r:=by
 have s:∀e,T.und t=AC (.slice e)->∀w,(FA t S o p AF).run P w=(FN t S o p AF).run P w:=λe u w=>by
  simp only[FA,A7,Ah hT u,Ax]
 unfold ZY at h
 split at h
 ·rename_i a
  split at h
  ·rename_i K id u ha;rw[CV ha]at hx;obtain⟨q,l,c,rfl,hD,d⟩:=FQ hx
   split at h
   ·rename_i g B e i L he;cases C:(Af e K&&Af i.size g.sz)
    ·rw[C]at h;cases h
    rw[C,Ag]at h;rw[A0]at C;have b1:=Br C.1;have b2:=Br C.2;subst b1
    split at h
    ·rename_i h0
     split at h
     ·rename_i k m U;cases h;cases h1;cases h2 with
      |some _ b E=>
       obtain⟨rfl, -⟩:=Ay U E;obtain⟨M, -⟩:=(Cs _ _).1 J;have V:(0:AA)<=m:=BL M.1;have F:m<=B.length:=BL M.2.1;refine Ab.assumes _ (Ab.same (w':=w) (v':=.slice q m.toNat c) (λW=> ?_) rfl rfl);have run:∀(l c:AB),m<=(c:AA)->(FN t (.slice q l c) AF (AC (.int k m)) AF).run P w=.ok (.slice (if c=0 then q else q.map (·.add (0*i.size))) (m.toNat-0) (c-0)) w:=λl c z=>by
        have e:=λcode=>Ed (P:=P) (k:=k) (code:=code) V (y:=c) z w
        have X:(Ga AD l c AF (AC (.int k m)) AF).run P w=.ok (0,m.toNat,c) w:=by simp[Ga,e]
        simp only[FN,A7,Ah hT u,Ax,X,Bb hT he,A9]
       obtain⟨-, -,Y⟩:=W.hd id _ (.inr (.inl (by simp))) (St.hdr_of L);rw[s _ u];rcases Y with⟨-,I,q',f⟩|⟨-, -,cap,c0,fr,f,j4, -⟩
       ·rw[d]at f;cases f;have hm:m<=((0:AB):AA):=by rw[I]at F;exact F
        refine⟨by rw[run _ _ hm,Ae rfl];rfl,.pfx id _ _ _ _ hD d (by omega),rfl,rfl,rfl⟩
       ·rw[d]at f;simp only[Wo]at f;obtain⟨rfl,rfl,rfl⟩:=f;refine⟨?_,.pfx id _ _ _ _ hD d (by omega),rfl,rfl,rfl⟩;rw[run _ _ (by omega)]
        split
        ·rename_i z;rw[iY,iY]
        ·rw[Ib,CU,I6,Nat.add_zero,iY,iY]
     ·cases h
    ·rename_i l0
     split at h
     ·rename_i k n Z;cases h;cases h2;cases h1 with
      |some _ b E=>
       obtain⟨rfl, -⟩:=Ay Z E;obtain⟨M, -⟩:=(Cs _ _).1 J;have V:(0:AA)<=n:=BL M.1;have F:n<=B.length:=BL M.2.1;refine Ab.assumes _ ⟨by simp[St.new,St.puts_next],λN=>(B6.puts (v:=Bi)).2 N,λN hDn W=> ?_⟩;have run:∀(l c:AB),n<=(l:AA)->(FN t (.slice q l c) (AC (.int k n)) AF AF).run P w=.ok (.slice (if c=n.toNat then q else q.map (·.add (n.toNat*i.size))) (l-n.toNat) (c-n.toNat)) w:=λl c z=>by
        have e:=λcode=>Ed (P:=P) (k:=k) (code:=code) V (y:=l) z w
        have X:(Ga AD l c (AC (.int k n)) AF AF).run P w=.ok (n.toNat,l,c) w:=by simp[Ga,e]
        simp only[FN,A7,Ah hT u,Ax,X,Bb hT he,A9]
       obtain⟨-,k2,Y⟩:=W.hd id _ (.inr (.inr (.inr (by simp)))) (St.hdr_of L);have G:∀k,k∈[id]->Lv σ.H k:=λk O=>by rw[Cn]at O;subst O;exact St.lv_of L
       rcases Y with⟨j1,I,q',f⟩|⟨j1,I,cap,c0,fr,f,j4,j5,j6,j7,j8,j9,j10⟩
       ·rw[d]at f;cases f;have hn:n<=((0:AB):AA):=by rw[I]at F;exact F
        have hn0:n.toNat=0:=by omega
        refine⟨.slice q 0 0,FR ι σ.next ⟨0,0,0,g.sz,AK,λ_=>AF,.slice q 0 0⟩,w,?_,.dat _ _ _ _ (.inr (St.rng_puts.2 rfl)) (by rw[Am]),?_⟩
        ·rw[s _ u,run _ _ hn,hn0,Ae rfl]
        ·exact Fh (gs:=[id]) (rc:=[]) (rh:=[]) N ⟨by rw[Am],λb c h=>(by rw[Am]at h;cases h),.inl ⟨by rw[Am],by rw[I];simp,q,by rw[Am]⟩⟩ (Ak _) rfl rfl (λ_ _ _=>rfl) G (λh=>by cases h) (λb ⟨c,h⟩=>by cases h)
       ·rw[d]at f;simp only[Wo]at f;obtain⟨rfl,rfl,rfl⟩:=f;by_cases z:c=n.toNat
        ·refine⟨.slice (AC ⟨(ι id).blk,(ι id).base,AF⟩) 0 0,FR ι σ.next ⟨0,0,0,g.sz,AK,λ_=>AF,.slice (AC ⟨(ι id).blk,(ι id).base,AF⟩) 0 0⟩,w,?_,.dat _ _ _ _ (.inr (St.rng_puts.2 rfl)) (by rw[Am]),?_⟩
         ·rw[s _ u,run _ _ F,Ae z,z,Nat.sub_self,show B.length-n.toNat=0 by omega]
         ·exact Fh (gs:=[id]) (rc:=[]) (rh:=[]) N ⟨by rw[Am],λb c h=>(by rw[Am]at h;cases h),.inl ⟨by rw[Am],List.drop_eq_nil_of_le (by omega),_,by rw[Am]⟩⟩ (Ak _) rfl rfl (λ_ _ _=>rfl) G (λh=>by cases h) (λb ⟨c,h⟩=>by cases h)
        ·have A:(B.drop n.toNat).length=B.length-n.toNat:=CC;have hmul:n.toNat*g.sz+(c-n.toNat)*g.sz=c*g.sz:=by rw[<-DB];congr 1;omega
         refine⟨.slice (AC ⟨(ι id).blk,(ι id).base+n.toNat*g.sz,AF⟩) (B.length-n.toNat) (c-n.toNat),FR ι σ.next (DD (ι id).blk ((ι id).base+n.toNat*g.sz) ((ι id).room-n.toNat*g.sz) g.sz (ι id).fz (.slice (AC ⟨(ι id).blk,(ι id).base+n.toNat*g.sz,AF⟩) (B.length-n.toNat) (c-n.toNat))),w,?_,.dat _ _ _ _ (.inr (St.rng_puts.2 rfl)) (by rw[Am];rfl),?_⟩
         ·rw[s _ u,run _ _ F,AY z,Ib,CU,b2]
         ·refine Fh (gs:=[id]) (rc:=[]) (rh:=[]) N ?_ (Ak _) rfl rfl (λ_ _ _=>rfl) G (λ_=>.inr ⟨id,by simp,⟨_,St.hdr_of L,A3⟩,j1,rfl⟩) (λb C=>.inr (.inr ⟨id,.inr (by simp),St.lv_of L,C⟩));simp only[BI,Am];refine⟨rfl,k2,.inr ⟨rfl,I,c-n.toNat,c0,fr,by rw[A];rfl,by rw[A];omega,j5,by simp only[DD];omega,by simp only[DD];omega,λj hj=> ?_,j9,λk y O=> ?_⟩⟩
          ·obtain⟨Q,a2,a3⟩:=j8 j hj;refine⟨Q,?_,a3⟩;simp only[DD];rw[Q,Nat.add_mul_mod_self_right];exact a2
          ·rw[CA]at O;obtain⟨Q,a2⟩:=j10 (n.toNat+k) y O;simp only[DD,CC,D0]at Q⊢;rw[DB]at Q;refine⟨by omega,?_⟩;rw[En,DB]at a2;rw[En,Dg];exact a2
     ·cases h
    ·cases h
   ·cases h
  ·cases h
 ·cases h
include hE in
theorem Xm{op:DO}{t:AQ}{ox oy:Bp}{x y m k:AJ}{r:R}(h:TQ E.T σ op t x y=AC r)(d:r.σ.Ok)(u:VR D ι x m)(v:VR D ι y k):
  Ab P D ι σ w (do I7 op t ox oy m k;binOp op t m k) r:=by
 unfold TQ at h
 split at h
 ·rename_i a
  split at h
  ·rename_i e id z A;rw[CV A]at u;obtain⟨q,l,c,rfl,I,n⟩:=FQ u;obtain rfl:k=.slice AF 0 0:=by cases v;rfl
   split at h
   ·rename_i ty p B;have key:AG (0<p.length)=AD->HOn P D ι σ.H ⟨[],[id],[],[]⟩ w->(Ks t (.slice q l c) (.slice AF 0 0)).run P w=.ok AK w:=λf g=>by
     have i:=KF B (.inr (.inl (by simp))) g;rcases i.rd with⟨⟨J,C,e⟩,F⟩|⟨b,o,C,G,el,fr,g1,_⟩
     ·subst F;exact Aq (BL f) (Nat.lt_irrefl 0)
     ·rw[n]at g1;cases g1;have s:Ks t (.slice (AC ⟨b,o,AF⟩) p.length c) (.slice AF 0 0)=Ku (9999+1) t (.slice (AC ⟨b,o,AF⟩) p.length c) (.slice AF 0 0):=rfl;rw[s,Ku];simp only[A7,Ah hE.T z,Ax,A9]
    have j:=λop w=>F6 (P:=P) (op:=op) (t:=t) (ox:=ox) (oy:=oy) (x:=.slice q l c) (y:=.slice AF 0 0) (by simp) (by simp) w
    split at h
    ·cases h;have f:=(St.assume_ok.1 d).1;exact Ab.assume (Ab.same (w':=w) (v':=.bool AK) (λg=>⟨by simp only[A7,j,Ax,Py (x:=.slice q l c) rfl,key f g,A9],.bool _,rfl,rfl,rfl⟩) rfl rfl)
    ·cases h;have f:=(St.assume_ok.1 d).1;exact Ab.assume (Ab.same (w':=w) (v':=.bool AD) (λg=>⟨by simp only[A7,j,Ax,Pz (x:=.slice q l c) rfl,key f g,A9];rfl,.bool _,rfl,rfl,rfl⟩) rfl rfl)
    ·cases h
   ·cases h
  ·cases h
 ·cases h
include hE in
theorem Zf{src dst:AQ}{x i:AJ}{r:R}(h:ZX E.T E.vt σ src dst x=AC r)(g:VR D ι x i):Ab P D ι σ w (FB src dst i) r:=by
 unfold ZX at h
 split at h
 ·rename_i a
  split at h
  ·rename_i d e A j k z
   split at h
   ·cases f:Rc (E.T.und e)
    ·rw[f]at h;cases h
    rw[f,Ag]at h;have l:=JZ f;rw[CV z]at g;obtain⟨rfl,_⟩:=mg g;obtain⟨g1,m,g3⟩:=dC (w:=w) (D:=D) (ι:=ι) hE.T h;rw[NJ]at g3;refine⟨g1,m,λa b c=> ?_⟩;obtain⟨v',ι',w',n,o,p⟩:=g3 a b c;refine⟨v',ι',w',?_,o,p⟩;simp only[FB,A7,Ah hE.T j,Ah hE.T k,Ax,Ah hE.T l]
    exact n
   ·cases h
  ·rename_i e u j k z;cases f:Rc (E.T.und e)
   ·rw[f]at h;cases h
   rw[f,Ag]at h;have l:=JZ f;obtain⟨g1,m,g3⟩:=dD (P:=P) (w:=w) (D:=D) (ι:=ι) h g;refine⟨g1,m,λa b c=> ?_⟩;obtain⟨v',ι',w',n,o,p⟩:=g3 a b c;refine⟨v',ι',w',?_,o,p⟩;have q:∃s t v,i=.slice s t v:=by
    unfold mo at h;dsimp only at h
    split at h
    ·rename_i id y;rw[CV y]at g;obtain⟨s,t,v,rfl,_⟩:=FQ g;exact⟨_,_,_,rfl⟩
    ·cases h
   obtain⟨s,t,v,rfl⟩:=q;simp only[FB,A7,Ah hE.T j,Ah hE.T k,Ax,Ah hE.T l];exact n
  ·cases h
 ·cases h
include hE in
theorem tg{o:Az}{r:R}(h:ji E s σ o=AC (.val r))(i:r.σ.Ok)(f:∀x,x∈o.op.operands->gO E.G D ι s ρ x):De P D ι σ w (ME ρ o) r:=by
 unfold ji at h;unfold ME
 split at h
 ·rename_i c g;simp only[g,D1,bj]at f⊢
  split at h
  ·rename_i B
   split at h
   ·rename_i x y k;have A:=KG (ρ:=ρ) _ _ k λx j=>f x (by simp at j⊢;exact .inr j)
    have q1:(c.args.toList.map ρ).toArray=c.args.map ρ:=by apply Gr;simp
    rw[q1]at A;have e:(do let d<-resolve ρ c o.type;invoke d.target d.args:Sem Next)=Um .append c.argTypes o.type (c.args.map λ| .const _=>AD|_=>AK) (c.args.map ρ):=by
     simp only[resolve,B];rfl
    rw[e];obtain⟨J,K,p,j,C⟩:=A.two;rw[p];exact Ab.next (dF hE.T (w:=w) (ty:=o.type) (Av h) i j C)
   ·cases h
  ·cases h
 ·rename_i t a x g;simp only[g,D1]at f⊢
  split at h
  ·rename_i v u m F;exact Ab.nextU (U7 hE.T (Av h) i (f a (by simp) v m) (f x (by simp) u F))
  ·cases h
 ·rename_i src dst x g;simp only[g,D1]at f⊢
  split at h
  ·rename_i v m;exact Ab.next (Zf hE (Av h) (f x (by simp) v m))
  ·cases h
 ·rename_i t l c g;simp only[g,D1]at f⊢
  split at h
  ·rename_i a b k q;exact Ab.next (ZU hE.T (Av h) i (f l (by simp) a k) (f c (by simp) b q))
  ·cases h
 ·rename_i t n L g;simp only[g,D1]at f⊢
  split at h
  ·rename_i l z;have H:=R9 _ _ z λx j=>f x (by simpa using j)
   exact Ab.next (Xk hE.T (Av h) (by simpa using H))
  ·cases h
 ·rename_i op t x y ty g;simp only[g,D1]at f⊢
  split at h
  ·rename_i a b k q;exact Ab.next (Xm hE (Av h) i (f x (by simp) a k) (f y (by simp) b q))
  ·cases h
 ·rename_i t x lo M g;simp only[g,D1]at f⊢
  split at h
  ·rename_i v l N m z I;exact Ab.next (Ze hE.T (Av h) i (f x (by simp) v m) (KH z λy e=>f y (by subst e;simp)) (KH I λy e=>f y (by subst e;simp)))
  ·cases h
 ·cases h
include hE in
theorem AOB{o:Az}{r:R}(h:K3 P E s σ o=AC (.val r))(a:r.σ.Ok)(b:∀x,x∈o.op.operands->gO E.G D ι s ρ x):De P D ι σ w (ME ρ o) r:=by
 unfold K3 TR at h
 split at h
 ·rename_i c;cases h;exact tg hE c a b
 ·split at h
  ·rename_i c;cases h;exact uJ hE c a b
  ·exact jr hE h a b
theorem js{o:Az}{f:BT}{args:AE AJ}:ji E s σ o≠AC (.enter f args):=by
 have a:∀x:AP R,DV x≠AC (.enter f args):=λx=>KJ
 intro h;unfold ji at h
 repeat' split at h
 all_goals first
  |exact a _ h
  |cases h
theorem Zg{o:Az}{f:BT}{args:AE AJ}:OD E s σ o≠AC (.enter f args):=by
 have a:∀x,OB σ x≠AC (.enter f args):=λx=>by unfold OB;split<;>simp
 have b:∀x:AP R,DV x≠AC (.enter f args):=λx=>KJ
 intro h;unfold OD at h
 repeat' split at h
 all_goals first
  |exact a _ h
  |exact b _ h
  |(unfold TN at h;repeat' split at h
    all_goals first|exact a _ h|cases h)
  |(unfold TP at h;repeat' split at h
    all_goals first|exact a _ h|exact b _ h|cases h)
  |(simp only[jh,Dn]at h;repeat' split at h
    all_goals cases h)
  |cases h
include hE in
theorem dO{o:Az}{f:BT}{args:AE AJ}(h:K3 P E s σ o=AC (.enter f args))(c:∀x,x∈o.op.operands->gO E.G D ι s ρ x):
  ∃a fn,AR D ι args.toArray a/\E.fn f=AC fn/\(ME ρ o).run P w=.ok (.enter f a) w:=by
 unfold K3 TR at h
 split at h
 ·rename_i b;cases h;exact Aq b js
 ·split at h
  ·rename_i b;cases h;exact kR hE b c
  ·exact Aq h Zg
end
end Go.Eng
end
end
end
section
noncomputable section
noncomputable section
namespace Go.Eng
open Go
def B0(σ:St):(t:Ty)->AE AJ->AP (t.Den×AE AJ×AE AB×AE AH)
 | .int k,v::r=>match DH v with
   |some (.int e n)=>bif AG (e=k)then AC (n,r,[],[])else AF
   |_=>AF
 | .byte,v::r=>match DH v with
   |some (.int .u8 n)=>AC (Cj n.toNat,r,[],[AG (A4 .u8 n)])
   |_=>AF
 | .bool,v::r=>match DH v with
   |some (.bool b)=>AC (b,r,[],[])
   |_=>AF
 | .f64,v::r=>match DH v with
   |some (.float .f64 b)=>AC (b,r,[],[])
   |_=>AF
 | .cx,v::r=>match DH v with
   |some (.complex .f64 a b)=>AC ((a,b),r,[],[])
   |_=>AF
 | .str,v::r=>match DH v with
   |some (.string s)=>AC (Fg s,r,[],[])
   |_=>AF
 | .unit,c=>AC ((),c,[],[])
 | .pair a b,c=>match B0 σ a c with
   |some (x,r,i,p)=>match B0 σ b r with
    |some (y,l,j,q)=>AC ((x,y),l,i++j,p++q)
    |none=>AF
   |none=>AF
 | .slice a,v::r=>match v with
   | .slice AF 0 0=>AC ([],r,[],[])
   | .slice (AC ⟨_,_,AC 0⟩) 0 _=>AC ([],r,[],[])
   | .tuple d=>match d.toList with
     |[.chan (AC 2),.pointer (AC ⟨id,0,AF⟩)]=>match σ.heap.get id with
      |some (.dat t m)=>if h:t=a then AC (h▸m,r,[id],[])else AF
      |_=>AF
     |_=>AF
   |_=>AF
 | .err,v::r=>match je v with
   |some b=>AC (b,r,[],[])
   |none=>AF
 | .fn f,v::r=>match ZP v with
   |some g=>bif Af g f then AC ((),r,[],[])else AF
   |none=>AF
 | .fv,v::r=>match ZP v with
   |some g=>AC (g,r,[],[])
   |none=>AF
 | .ref _,_::_=>AF
 | .clo _ _,_::_=>AF
 |_,[]=>AF
def Lg(σ:St):(ts:AE Ty)->AE AJ->AP (AM ts×AE AB×AE AH)
 |[],[]=>AC ((),[],[])
 |t::ts,v::vs=>match(bif t.agg then(match v with| .agg a=>AC a.toList|_=>AF)else AC [v])with
  |some a=>match B0 σ t a with
   |some (x,[],i,p)=>match Lg σ ts vs with
    |some (y,j,q)=>AC ((x,y),i++j,p++q)
    |none=>AF
   |_=>AF
  |none=>AF
 |_,_=>AF
def IK:(rs:AE Ty)->AM rs->AE DC
 |[],_=>[]
 |r::rs,y=>gM r y.1++IK rs y.2
def Ry:AE Ty->AE AJ->AE AJ
 |[],_=>[]
 |r::rs,vs=>(bif r.agg then .agg (vs.take r.sz).toArray else(match vs with|v::_=>v|[]=>Bi))::Ry rs (vs.drop r.sz)
section
variable {P:Ao} {D:AB->Prop} {ι:AB->Reg} {σ σ':St} {w:AN} {φ:Foot}
open Classical in
def MW(ι:AB->Reg)(a:AE AB)(w:AN):AB->AP (Aa AJ):=λb=>
 if ∃id,id∈a/\(ι id).Fz b then(match w.heap[b]? with|some (.cells c _ _)=>AC c|_=>AF)else AF
theorem ABQ{a:AE AB}{id:AB}(d:id∈a)(f:DK (ι id).fz w)(b:AB)(c:Aa AJ)(h:(ι id).fz b=AC c):MW ι a w b=AC c:=by
 unfold MW;rw[Ae ⟨id,d,c,h⟩];obtain⟨e,fr,g⟩:=f b c h;rw[g]
theorem ABR(a:AE AB):DK (MW ι a w) w:=by
 intro b c h;unfold MW at h
 split at h
 ·split at h
  ·rename_i f e fr d;cases h;exact⟨e,fr,d⟩
  ·cases h
 ·cases h
theorem ABS{a:AE AB}{b:AB}{c:Aa AJ}(h:MW ι a w b=AC c):∃id,id∈a/\(ι id).Fz b:=by
 unfold MW at h
 split at h
 ·assumption
 ·cases h
theorem Vr{q:AE AB}(K:∀id,id∈q->∀x,σ.H.hdr id=AC x->BI P ι id w x):∀(t:Ty) (m us:AE AJ) (x:t.Den) (r:AE AJ) (i:AE AB) (p:AE AH),B0 σ t m=AC (x,r,i,p)->(∀id,id∈i->id∈q)->FZ p->LR D ι m us->
  ∃s u,us=s++u/\Cw (MW ι q w) t x s/\LR D ι r u:=by
 intro t
 induction t with
 |int k=>
  intro m us x r i p h _ _ d;cases d with
  |nil=>simp[B0]at h
  |cons e j=>
   simp only[B0]at h
   split at h
   ·rename_i L n o;cases y:AG (L=k)
    ·rw[y]at h;cases h
    ·rw[y]at h;cases h;have:=BL y;subst this;exact⟨[_],_,rfl,by rw[(Ay o e).1];rfl,j⟩
   ·cases h
 |byte=>
  intro m us x r i p h _ z d;cases d with
  |nil=>simp[B0]at h
  |cons e j=>
   simp only[B0]at h
   split at h
   ·rename_i n o;cases h;refine⟨[_],_,rfl,?_,j⟩;rw[(Ay o e).1];simp only[Cw];rw[<-Ru (BL z.1)]
   ·cases h
 |bool=>
  intro m us x r i p h _ _ d;cases d with
  |nil=>simp[B0]at h
  |cons e j=>
   simp only[B0]at h
   split at h
   ·rename_i b o;cases h;exact⟨[_],_,rfl,by rw[(Ay o e).1];rfl,j⟩
   ·cases h
 |ref a F=>
  intro m us x r i p h _ _ d;cases d<;>simp[B0]at h
 |clo f a F=>
  intro m us x r i p h _ _ d;cases d<;>simp[B0]at h
 |f64=>
  intro m us x r i p h _ _ d;cases d with
  |nil=>simp[B0]at h
  |cons e j=>
   simp only[B0]at h
   split at h
   ·rename_i b o;cases h;exact⟨[_],_,rfl,by rw[(Ay o e).1];rfl,j⟩
   ·cases h
 |cx=>
  intro m us x r i p h _ _ d;cases d with
  |nil=>simp[B0]at h
  |cons e j=>
   simp only[B0]at h
   split at h
   ·rename_i a b o;cases h;exact⟨[_],_,rfl,by rw[(Ay o e).1];rfl,j⟩
   ·cases h
 |str=>
  intro m us x r i p h _ _ d;cases d with
  |nil=>simp[B0]at h
  |cons e j=>
   simp only[B0]at h
   split at h
   ·rename_i b o;cases h;exact⟨[_],_,rfl,by rw[(Ay o e).1];simp only[Cw,NJ],j⟩
   ·cases h
 |unit=>
  intro m us x r i p h _ _ d;simp only[B0,BJ,Prod.mk.injEq]at h;obtain⟨-,rfl, -⟩:=h;exact⟨[],us,rfl,rfl,d⟩
 |err=>
  intro m us x r i p h _ _ d;cases d with
  |nil=>simp[B0]at h
  |cons e j=>
   simp only[B0]at h
   split at h
   ·rename_i b o;cases h;exact⟨[_],_,rfl,⟨_,rfl,MU o e⟩,j⟩
   ·cases h
 |fv=>
  intro m us x r i p h _ _ d;cases d with
  |nil=>simp[B0]at h
  |cons e j=>
   simp only[B0]at h
   split at h
   ·rename_i g o;cases h;exact⟨[_],_,rfl,by rw[H5 o e];rfl,j⟩
   ·cases h
 |fn f=>
  intro m us x r i p h _ _ d;cases d with
  |nil=>simp[B0]at h
  |cons e j=>
   simp only[B0]at h
   split at h
   ·rename_i g o;cases A:Af g f
    ·rw[A]at h;cases h
    ·rw[A]at h;cases h;have:=Br A;subst this;exact⟨[_],_,rfl,by rw[H5 o e];rfl,j⟩
   ·cases h
 |pair a b B C=>
  intro m us x r i p h v z d;simp only[B0]at h
  split at h
  ·rename_i M G N O Q
   split at h
   ·rename_i R r2 i2 S T;cases h;obtain⟨q1,U⟩:=Ci z;obtain⟨s,u,rfl,g1,V⟩:=B m us M G N O Q (λid hid=>v id (by simp[hid])) q1 d;obtain⟨I,v2,rfl,g3,g4⟩:=C G u R r i2 S T (λid hid=>v id (by simp[hid])) U V;exact⟨s++I,v2,by simp,⟨s,I,rfl,g1,g3⟩,g4⟩
   ·cases h
  ·cases h
 |slice a F=>
  intro m us x r i p h v _ d;cases d with
  |nil=>simp[B0]at h
  |cons e j=>
   simp only[B0]at h
   split at h
   ·cases h;cases e;exact⟨[_],_,rfl,⟨_,rfl,.inl ⟨⟨_,_,rfl⟩,rfl⟩⟩,j⟩
   ·cases h;cases e;exact⟨[_],_,rfl,⟨_,rfl,.inl ⟨⟨_,_,rfl⟩,rfl⟩⟩,j⟩
   ·rename_i W
    split at h
    ·rename_i id X;rw[CV X]at e;obtain⟨a',l,c,rfl,hD,E⟩:=FQ e
     split at h
     ·rename_i t xs Y
      split at h
      ·rename_i Z;subst Z;cases h;have J:=v id (by simp);obtain⟨g1, -, -,g4⟩:=K id J _ (St.hdr_of Y);rw[E]at g1;exact⟨[_],_,rfl,⟨_,rfl,(g1.mono λb c h=>ABQ J g4 b c h)⟩,j⟩
      ·cases h
     ·cases h
    ·cases h
   ·cases h
theorem Zh{c:AE AB}(e:∀id,id∈c->∀x,σ.H.hdr id=AC x->BI P ι id w x):∀(ts:AE Ty) (vs us:AE AJ) (x:AM ts) (i:AE AB) (p:AE AH),Lg σ ts vs=AC (x,i,p)->(∀id,id∈i->id∈c)->FZ p->LR D ι vs us->CN (MW ι c w) ts x us
 |[],vs,us,x,i,p,h,_,_,f=>by
  cases f with
  |nil=>rfl
  |cons _ _=>simp[Lg]at h
 |t::ts,vs,us,x,i,p,h,g,s,f=>by
  cases f with
  |nil=>simp[Lg]at h
  |cons l z=>
   rename_i v u vs us;simp only[Lg]at h
   split at h
   ·rename_i I b
    split at h
    ·rename_i m n o r
     split at h
     ·rename_i y j q A;cases h;obtain⟨q1,B⟩:=Ci s;refine⟨u,us,rfl,?_,Zh e ts vs us y j q A (λid hid=>g id (by simp[hid])) B z⟩;cases a:t.agg
      ·rw[a]at b;cases b;obtain⟨C,E,d,g1,k⟩:=Vr e t [v] [u] m [] n o r (λid hid=>g id (by simp[hid])) q1 (.cons l .nil);cases k;rw[Ce]at d;rw[<-d]at g1;exact .inr ⟨a,g1⟩
      ·rw[a,Ag]at b
       split at b
       ·rename_i as;cases b;cases l with
        |agg _ bs F G=>
         obtain⟨C,E,d,g1,k⟩:=Vr e t as.toList bs.toList m [] n o r (λid hid=>g id (by simp[hid])) q1 (LR.of_AR ⟨by simpa using F,by simpa using G⟩);cases k;rw[Ce]at d;rw[<-d]at g1;exact .inl ⟨a,bs,rfl,g1⟩
       ·cases b
     ·cases h
    ·cases h
   ·cases h
theorem Ps{fz:AB->AP (Aa AJ)}:∀(rs:AE Ty) (y:AM rs) (o:AE AJ),CN fz rs y o->∃us:AE AJ,(IK rs y).length=us.length/\(∀(k:AB) d u,(IK rs y)[k]?=AC d->us[k]?=AC u->DCR fz d u)/\
  ∀(vs:AE AJ) (D:AB->Prop) (ι:AB->Reg),vs.length=us.length->(∀(k:AB) v u,vs[k]?=AC v->us[k]?=AC u->VR D ι v u)->LR D ι (Ry rs vs) o
 |[],y,o,h=>by
  simp only[CN]at h;subst h;exact⟨[],rfl,λk d u h=>by simp[IK]at h,λvs D ι _ _=>.nil⟩
 |r::rs,y,o,h=>by
  obtain⟨v,l,rfl,A,B⟩:=h;obtain⟨q,C,a2,a3⟩:=Ps rs y.2 l B;obtain⟨c,s,t⟩:∃c:AE AJ,((r.agg=AD/\v=.agg ⟨c⟩)\/(r.agg=AK/\c=[v]))/\Cw fz r y.1 c:=by
   rcases A with⟨e,E,rfl,g⟩|⟨e,g⟩
   ·exact⟨E.toList,.inl ⟨e,rfl⟩,g⟩
   ·exact⟨[v],.inr ⟨e,rfl⟩,g⟩
  obtain⟨m,x,F⟩:=Lh r y.1 c t;refine⟨c++q,by simp[IK,m,x,C],λk d u hd f=> ?_,λvs D ι z w=> ?_⟩
  ·simp only[IK]at hd;by_cases I:k<r.sz
   ·rw[EE (by omega)]at hd f;exact F k d u hd f
   ·rw[Fw (by omega)]at hd f;rw[x]at hd;rw[m]at f;exact a2 _ d u hd f
  ·simp only[BA,m]at z;refine .cons ?_ (a3 _ D ι (by rw[CC];omega) λk v u n f=> ?_)
   ·rcases s with⟨e,rfl⟩|⟨e,rfl⟩
    ·rw[e,Ag];refine .agg _ _ ?_ λi a b p G=> ?_
     ·simp only[Hx,Bw];show min r.sz vs.length=c.length;omega
     ·simp only[ANI,CB]at p
      split at p
      ·rename_i J;refine w i a b p ?_;rw[EE (by omega)];simpa using G
      ·cases p
    ·rw[e,BZ];have H:r.sz=1:=by rw[<-m];rfl
     cases vs with
     |nil=>simp only[List.length_nil]at z;omega
     |cons a vs=>exact w 0 a v rfl rfl
   ·rw[CA]at n;refine w _ v u n ?_;rw[Fw (by omega),m];rw[Nat.add_sub_cancel_left];exact f
