/-
  The engine, part 11: an abstract evaluator over the model's code, proved sound. No condition.
-/
import Derived.Test.YtkgejlchafionaaGreatDoorEng10
import Derived.ChangeArms
import Derived.ReadAgain
import Derived.ProofKit
import Derived.WalkKit
import Derived.OpenShut
open Array renaming getElem?_toList->Bf,replicate->PA
open Bool renaming and_eq_true->A0,cond_eq_ite->Dn,false->AK,false_eq_true->CI,true->AD
open Classical renaming choose->AJe,choose_spec->AJf
open Decidable renaming byContradiction->AJg
open Go renaming DataW->Hk,Exit->Dx,Func->Dq,FuncId->BT,MemPlace->Ih,Oper->Az,Operand->Bp,Program->Ao,TypeId->AQ,Value->AJ,World->AN,calls_of_wp->AAT,reachBytes->RV
open Go.Addr renaming add->sW
open Go.Cell renaming okWide->AAU
open Go.DataW renaming TrodAll->Ux,trod->Uy,trod_int->AAV,weights->jE,weightsAll->jF,weightsEach->jG
open Go.DataW.TrodAll renaming lt->AJh,respare->AJi
open Go.Exit renaming inBlock->Ug
open Go.Value renaming okWide->sX
open Go.World renaming cell?->C0
open Int renaming ofNat->jH
open List renaming append_assoc->C9,drop_drop->En,drop_of_length_le->AAW,getElem?_drop->CA,getElem?_eq_getElem->B4,getElem?_eq_none->DA,getElem?_take->CB,length_append->BA,length_cons->B7,length_drop->CC,length_range->RQ,length_take->Bw,map_cons->PM,mem_append->CH,mem_append_left->Du,mem_append_right->C3,mem_cons->Dv,mem_map->Ju,mem_map_of_mem->Wd,mem_singleton->Cn,nodup_append->I0,take_append_drop->Wt
open List.cons renaming injEq->iX
open Nat renaming add_zero->FK,beq->Af,ble->B8,eq_of_beq_eq_true->Br,le_refl->Ak,lt_or_ge->Cf,succ_mul->Wp
open Option renaming isSome_iff_exists->Wy,isSome_none->Df,none->AF,some->AC
open Option.some renaming injEq->BJ
open _root_ renaming Array->Aa,Bool->AH,List->AE,Nat->AB,Option->AP,absurd->Aq,cond_false->BZ,cond_true->Ag,decide_eq_true_eq->A6,if_false->BR,if_neg->AY,if_pos->Ae,trivial->A3
section
noncomputable section
noncomputable section
namespace Go.Eng
open Go
def RC:Code->AE Kt->AE Pl
 | .seq a b,c=>RC a (.seq b::c)++RC b c
 | .cond _ a b,c=>RC a c++RC b c
 | .block id b,c=>RC b (.block id::c)
 | .loop b,c=>.head b c::RC b (.loop b::c)
 | .scope b,c=>RC b (.scope b::c)
 |_,_=>[]
def hdN(fn:Dq)(n:AB):Pl:=(RC (GW fn) []).getD n (.out .normal [])
def Pl.enter:Pl->Pl
 | .head b a=>.run b (.loop b::a)
 |p=>p
open Go
def O1:AE (AB×PSpec)->BT->AP PSpec
 |[],_=>AF
 |(g,S)::r,f=>bif Af g f then AC S else O1 r f
def Ke(P:Ao)(gl:AE (AB×AE AJ)):AE (AB×PSpec)->Prop
 |[]=>True
 |(g,S)::r=>Kh P gl g S/\Ke P gl r
theorem O2{P:Ao}{gl:AE (AB×AE AJ)}:∀{l:AE (AB×PSpec)},Ke P gl l->∀f S,O1 l f=AC S->Kh P gl f S
 |[],_,f,S,h=>by cases h
 |(g,T)::r,b,f,S,h=>by
  simp only[O1]at h;cases a:Af g f
  ·rw[a]at h;exact O2 b.2 f S h
  ·rw[a]at h;have:=Br a;subst this;cases h;exact b.1
end Go.Eng
end
end
end
section
noncomputable section
noncomputable section
namespace Go.Eng
open Go
theorem VR.weak{D:AB->Prop}{ι ι':AB->Reg}{v v':AJ}(h:VR D ι v v')(d:∀id,D id->(ι' id).blk=(ι id).blk/\(ι' id).base=(ι id).base/\(ι' id).room=(ι id).room/\(ι' id).esz=(ι id).esz/\(ι' id).sv=(ι id).sv):VR D ι' v v':=by
 induction h with
 |junk v=>exact .junk v
 |sym v h=>exact .sym v h
 |err b v h=>exact .err b v h
 |aint k n=>exact .aint k n
 |dat id a l c h e=>exact .dat id a l c h ((d id h).2.2.2.2.trans e)
 |pfx id m a l c h e g=>exact .pfx id m a l c h ((d id h).2.2.2.2.trans e) g
 |pel id i j b o l c h e=>
  rw[<-(d id h).2.2.2.1];exact .pel id i j b o l c h ((d id h).2.2.2.2.trans e)
 |bool b=>exact .bool b
 |int k n=>exact .int k n
 |float k n=>exact .float k n
 |complex k a b=>exact .complex k a b
 |string s=>exact .string s
 |ptrN=>exact .ptrN
 |ptr id off h=>
  rw[<-(d id h).1,<-(d id h).2.1];exact .ptr id off h
 |slN l c=>exact .slN l c
 |slK id off l c h w=>
  rw[<-(d id h).1,<-(d id h).2.1];exact .slK id off l c h w
 |slU id off l c h g p=>
  rw[<-(d id h).2.2.1,<-(d id h).2.2.2.1]at p;rw[<-(d id h).1,<-(d id h).2.1];exact .slU id off l c h g p
 |slE id off x c h g p=>
  rw[<-(d id h).2.2.1]at g;rw[<-(d id h).2.2.1,<-(d id h).2.2.2.1]at p;rw[<-(d id h).1,<-(d id h).2.1];exact .slE id off x c h g p
 |mapN=>exact .mapN
 |chanN=>exact .chanN
 |nilFunc=>exact .nilFunc
 |nilIface=>exact .nilIface
 |iface t v v' _ f=>exact .iface t v v' f
 |agg as bs q _ f=>exact .agg as bs q f
 |tuple as bs q _ f=>exact .tuple as bs q f
 |func fn as bs y ds q r _ _ f u=>exact .func fn as bs y ds q r f u
def frz1(E:Env)(pins:AE AB)(s:Tr AJ)(t:AB)(sh:Sh)(σ:St):St:=match sh with
 | .one (.dat _)=>match s.get t with
   |some (.tuple a)=>match a.toList with
    |[.chan (AC 2),.pointer (AC ⟨id,0,AF⟩)]=>match σ.heap.get id with
     |some (.vec ty b _)=>bif B8 E.G id&& !ZQ id pins then σ.put id (AC (.dat ty b))else σ
     |_=>σ
    |_=>σ
   |_=>σ
 |_=>σ
def frzS(E:Env)(pins:AE AB)(s:Tr AJ):AE (AB×Sh)->St->St
 |[],σ=>σ
 |(t,sh)::r,σ=>frzS E pins s r (frz1 E pins s t sh σ)
def wI(E:Env)(pins:AE AB)(s:Tr AJ)(id:AB)(σ:St):St:=frzS E pins s ((E.frz id).map λt=>(t,.one (.dat .unit))) σ
section
variable {P:Ao} {E:Env} {nt:AB} {pin:AE (AB×Reg)} {w0 w:AN} {own0 z0:AB->Prop} {s:Tr AJ} {σ:St} {a:Act}
open Classical in
theorem Hl.frz{id:AB}{ty:Ty}{K:AE ty.Den}{e:AQ}(W:σ.heap.get id=AC (.vec ty K e))(hG0:E.G<=id)(hp:id∉pin.map (·.1))(hs:Hl P E nt pin w0 own0 z0 s σ a w):
  Hl P E nt pin w0 own0 z0 s (σ.put id (AC (.dat ty K))) a w:=by
 obtain⟨D,ι,L,hG,hD,z,hall,X,q1,q2,q3,q4,q5,q6,q7⟩:=hs;have A:Lv σ.H id:=St.lv_of W;have Y:Wr σ.H id:=⟨_,St.hdr_of W,A3⟩
 have Z:BI P ι id w (.vec ty K e):=hall.hd id _ (St.hdr_of W);obtain⟨M,hfz,hv⟩:=Z;let r:Reg:={ ι id with own:=AK,fz:=λb=>if(ι id).Own b then(match w.heap[b]? with|some (.cells c _ _)=>AC c|_=>AF)else(ι id).fz b}
 have hi:∀k,D k->(FR ι id r k).blk=(ι k).blk/\(FR ι id r k).base=(ι k).base/\(FR ι id r k).room=(ι k).room/\(FR ι id r k).esz=(ι k).esz/\(FR ι id r k).sv=(ι k).sv:=λk _=>by
  by_cases h:k=id
  ·subst h;rw[Am];exact⟨rfl,rfl,rfl,rfl,rfl⟩
  ·rw[FS _ _ h];exact⟨rfl,rfl,rfl,rfl,rfl⟩
 have l:∀k,k≠id->FR ι id r k=ι k:=λk h=>FS _ _ h
 have m:∀k x,(σ.put id (AC (.dat ty K))).H.hdr k=AC x->(k=id/\x=.dat ty K)\/(k≠id/\σ.H.hdr k=AC x):=λk x f=>by
  rw[St.put_hdr]at f;by_cases h:k=id
  ·rw[Ae h]at f;cases f;exact .inl ⟨h,rfl⟩
  ·rw[AY h]at f;exact .inr ⟨h,f⟩
 have B:DK r.fz w:=λb c d=>by
  simp only[r]at d;by_cases C:(ι id).Own b
  ·rw[Ae C]at d
   split at d
   ·rename_i c' e' fr Z;cases d;exact⟨e',fr,Z⟩
   ·cases d
  ·rw[AY C]at d;exact hfz b c d
 have N:∀b,r.Fz b->(ι id).Own b\/(ι id).Fz b:=λb ⟨c,d⟩=>by
  simp only[r]at d;by_cases C:(ι id).Own b
  ·exact .inl C
  ·rw[AY C]at d;exact .inr ⟨c,d⟩
 have O:∀b,¬r.Own b:=λb h=>by cases h.1
 refine⟨D,FR ι id r,St.put_wf L (St.lv_lt L A) _,λg hg'=> ?_,hD,⟨z.1,λt v ht=>⟨(z.2 t v ht).1,(z.2 t v ht).2.weak hi⟩⟩,⟨λk x f=> ?_,λk n v hl Q=> ?_,λi j li lj R b d=> ?_⟩,X,q1,q2,q3,q4,λk hw b d=> ?_,λk hl b d=> ?_,λp S=> ?_⟩
 ·rw[l g (by omega)];exact hG g hg'
 ·rcases m k x f with⟨rfl,rfl⟩|⟨h,f⟩
  ·have he:FR ι k r k=r:=Am ..;refine BI.at (ι:=λ_=>r) (k:=0) ⟨?_,M,rfl,B⟩ he;rcases hv with⟨_,hx0,q,F⟩|⟨C,I,cap,c,fr,F,u,T,hroom,hfit,_,_,hrl⟩
   ·exact .inl ⟨⟨q,0,F⟩,hx0⟩
   ·have J:∀b V,(ι k).fz b=AC V->r.fz b=AC V:=λb V d=>by
     simp only[r];rw[AY λh=>I ⟨V,by rw[h.2];exact d⟩];exact d
    refine .inr ⟨(ι k).blk,(ι k).base,cap,c,F,?_,?_,u,λi x f=> ?_⟩
    ·simp only[r];rw[Ae ⟨C,rfl⟩,T]
    ·have:=Nat.mul_le_mul_right ty.sz u;omega
    ·have h2:=(hrl i x f).2;rw[En]at h2;exact Cw.mono J _ _ _ h2
  ·exact(hall.hd k x f).at (l k h)
 ·rw[St.put_cell]at Q;by_cases h:k=id
  ·rw[Ae h]at Q;cases Q
  ·rw[AY h]at Q;have hl':Lv σ.H k:=by
    obtain⟨x,f⟩:=hl;rcases m k x f with⟨h',_⟩|⟨_,f⟩
    ·exact Aq h' h
    ·exact⟨x,f⟩
   obtain⟨o1,v',o2,o3⟩:=hall.ce k n v hl' Q;exact⟨by rw[l k h];exact o1,v',by rw[l k h];exact o2,o3.weak hi⟩
 ·obtain⟨x,f,o⟩:=li;obtain⟨y,hy⟩:=lj;rcases m i x f with⟨rfl,rfl⟩|⟨hi',hx2⟩
  ·cases o
  ·rw[l i hi']at d;have U:Wr σ.H i:=⟨x,hx2,o⟩
   rcases m j y hy with⟨rfl,rfl⟩|⟨hj',hy⟩
   ·rw[Am];refine⟨O b,λhf=> ?_⟩;have:=hall.inj i j U A R b d;rcases N b hf with h|h
    ·exact this.1 h
    ·exact this.2 h
   ·rw[l j hj'];exact hall.inj i j U ⟨y,hy⟩ R b d
 ·obtain⟨x,f,o⟩:=hw;rcases m k x f with⟨rfl,rfl⟩|⟨h,f⟩
  ·cases o
  ·rw[l k h]at d;exact q5 k ⟨x,f,o⟩ b d
 ·obtain⟨x,f⟩:=hl;rcases m k x f with⟨rfl,rfl⟩|⟨h,f⟩
  ·rw[Am]at d;rcases N b d with h|h
   ·exact(q5 k Y b h).imp_right .inl
   ·exact q6 k A b h
  ·rw[l k h]at d;exact q6 k ⟨x,f⟩ b d
 ·rw[l p.1 λh=>hp (by rw[<-h];exact Wd S)];exact q7 p S
theorem Hl.frz1{t:AB}{sh:Sh}(b:Hl P E nt pin w0 own0 z0 s σ a w):Hl P E nt pin w0 own0 z0 s (Eng.frz1 E (pin.map (·.1)) s t sh σ) a w:=by
 unfold Eng.frz1
 split
 ·split
  ·split
   ·rename_i id _
    split
    ·rename_i ty f e d;cases c:(B8 E.G id&& !ZQ id (pin.map (·.1)))
     ·exact b
     ·rw[A0]at c;exact b.frz d (Nat.le_of_ble_eq_true c.1) (MV (by simpa using c.2))
    ·exact b
   ·exact b
  ·exact b
 ·exact b
theorem Hl.frzS:∀{l:AE (AB×Sh)} {σ:St},Hl P E nt pin w0 own0 z0 s σ a w->Hl P E nt pin w0 own0 z0 s (Eng.frzS E (pin.map (·.1)) s l σ) a w
 |[],_,h=>h
 |(t,sh)::r,σ,h=>by
  unfold Eng.frzS;exact Hl.frzS (l:=r) h.frz1
end
end Go.Eng
end
end
end
section
noncomputable section
noncomputable section
namespace Go.Eng
open Go
def gd{α:Type}:AE AH->AP α->AP α
 |[],r=>r
 |b::bs,r=>gd bs (bif b then r else AF)
theorem Mb{α:Type}{y:α}:∀{l:AE AH} {r:AP α},gd l r=AC y->FZ l/\r=AC y
 |[],_,h=>⟨A3,h⟩
 |b::bs,r,h=>by
  obtain⟨c,a⟩:=Mb (l:=bs) h;cases b
  ·cases a
  ·exact⟨⟨rfl,c⟩,a⟩
section
variable (P:Ao) (E:Env) (call:Eh) (nt:AB) {α:Type}
def asB:AJ->AP AH
 | .tuple a=>match a.toList with
   |[.chan (AC 1),.bool b]=>AC b
   |_=>AF
 |_=>AF
def wJ(o:Az)(s:Tr AJ)(v:AJ)(σ:St)(φ:Foot)(k:Tr AJ->St->Foot->AP α):AP α:=
 match asB v with
 |some b=>bif b then(match Nq nt s o.dst (.bool AD)with
   |some a=>k a σ φ
   |none=>AF)
  else(match Nq nt s o.dst (.bool AK)with
   |some a=>k a σ φ
   |none=>AF)
 |none=>match Nq nt s o.dst v with
  |some a=>k a σ φ
  |none=>AF
def UY(o:Az)(s:Tr AJ)(σ:St)(r:AP OpR)(k:Tr AJ->St->Foot->AP α):AP α:=
 match r with
 |some (.val r)=>wJ nt o s r.v r.σ r.φ k
 |some (.enter f args)=>match call f args σ with
  |some (v,σ1,φ)=>wJ nt o s v σ1 φ k
  |none=>AF
 |none=>AF
def e8(s:Tr AJ)(t:AQ)(x i:Bp):AP (IntKind×Int×AB×AJ):=
 match av E.G s x,av E.G s i with
 |some v,AC (.tuple a)=>match DH (.tuple a),E.T.und t,v with
  |some (.int k n),AC (.array len _),.pointer (AC ⟨_,_,AF⟩)=>AC (k,n,len,v)
  |some (.int k n),AC (.slice _),.slice (AC ⟨_,_,AF⟩) len _=>AC (k,n,len,v)
  |_,_,_=>AF
 |_,_=>AF
def Yc(g:Int->AP OpR)(n:Int)(K:AP OpR->AP α):AB->AB->AP α
 |0,_=>AF
 |m+1,j=>bif n==(jH j)then K (g (jH j))else Yc g n K m (j+1)
def AIz(o:Az)(s:Tr AJ)(σ:St)(k:Tr AJ->St->Foot->AP α):AP α:=
 match o.op with
 | .pick c a b=>match av E.G s c with
   |some (.bool t)=>bif t then UY call nt o s σ (CF σ (av E.G s a)) k else UY call nt o s σ (CF σ (av E.G s b)) k
   |_=>AF
 | .indexAddr t x i=>match e8 E s t x i with
   |some (d,n,len,v)=>Yc (λj=>DV (Dr E.T σ t v (.int d j))) n (λr=>UY call nt o s σ r k) len 0
   |none=>UY call nt o s σ (K3 P E s σ o) k
 |_=>UY call nt o s σ (K3 P E s σ o) k
def qt(ops:AE Az)(s:Tr AJ)(o:Az):AP AH:=
 match o.guard with
 |none=>AC AD
 |some (j,a)=>match cQ ops j with
  |some g=>match g.dst with
   |some d=>match s.get d with
    |some (.bool b)=>AC (bif a then b else !b)
    |some v=>bif AA4 v then AC AK else AF
    |none=>AF
   |none=>AC AK
  |none=>AC AK
theorem qu(ops:AE Az)(s:Tr AJ)(o:Az):qt ops s o=Ik ops s o:=by
 unfold qt Ik
 split
 ·rename_i h;rw[h]
 ·rename_i j a h;rw[h];simp only
  split
  ·rename_i g e;rw[e];simp only
   split
   ·rename_i d hd;rw[hd];simp only
    split
    ·rename_i b c;rw[c];cases a<;>cases b<;>rfl
    ·rename_i v f c;rw[c];cases v<;>first|rfl|exact Aq rfl (f _)
    ·rename_i c;rw[c]
   ·rename_i hd;rw[hd]
  ·rename_i e;rw[e]
def iH(all:AE Az)(o:Az)(s:Tr AJ)(σ:St)(k:Tr AJ->St->Foot->AP α):AP α:=
 match qt all s o with
 |some b=>bif b then AIz P E call nt o s σ k else(match Nq nt s o.dst undef with
  |some a=>k a σ .nil
  |none=>AF)
 |none=>AF
def AEQ(all:AE Az):AE Az->Tr AJ->St->(Tr AJ->St->AP α)->AP α
 |[],s,σ,k=>k s σ
 |o::os,s,σ,k=>iH P E call nt all o s σ λa σ1 _=>AEQ all os a σ1 k
def e9(all:AE Az):AE Az->Tr AJ->St->(Tr AJ->St->AE Rec->AP α)->AP α
 |[],s,σ,k=>k s σ []
 |o::os,s,σ,k=>iH P E call nt all o s σ λa σ1 φ1=>e9 all os a σ1 λb σ2 rs=>k b σ2 (⟨φ1.trim σ.next,σ.next,σ1.next⟩::rs)
end
section
variable {P:Ao} {E:Env} {call:Eh} {nt:AB} {α:Type} {y:α}
theorem qv{v:AJ}{b:AH}(h:asB v=AC b):v=sy (.bool b):=by
 unfold asB at h
 split at h
 ·rename_i a
  split at h
  ·rename_i d c;cases h;obtain⟨l⟩:=a;simp only at c;rw[c]
  ·cases h
 ·cases h
theorem qw{v:AJ}{σ:St}(h:asB v=AF):resolve v σ=AC (v,σ):=by
 cases v with
 |tuple a=>
  simp only[asB]at h;simp only[resolve]
  split at h
  ·cases h
  ·rename_i c
   split
   ·rename_i b d;exact Aq d (c b)
   ·rfl
 |_=>rfl
theorem WX{o:Az}{s:Tr AJ}{v:AJ}{σ:St}{φ:Foot}{k:Tr AJ->St->Foot->AP α}(h:wJ nt o s v σ φ k=AC y):
  ∃u a,resolve v σ=AC (u,σ)/\Nq nt s o.dst u=AC a/\k a σ φ=AC y:=by
 unfold wJ at h
 split at h
 ·rename_i b d;rw[qv d];cases b
  ·rw[BZ]at h
   split at h
   ·rename_i a c;exact⟨_,a,rfl,c,h⟩
   ·cases h
  ·rw[Ag]at h
   split at h
   ·rename_i a c;exact⟨_,a,rfl,c,h⟩
   ·cases h
 ·rename_i d
  split at h
  ·rename_i a c;exact⟨v,a,qw d,c,h⟩
  ·cases h
theorem lM{o:Az}{s:Tr AJ}{σ:St}{r:AP OpR}{k:Tr AJ->St->Foot->AP α}(h:UY call nt o s σ r k=AC y):
  ∃b σ' φ,k b σ' φ=AC y/\((∃a,r=AC (.val a)/\∃v,resolve a.v a.σ=AC (v,σ')/\Nq nt s o.dst v=AC b/\φ=a.φ)\/
   ∃f args v0 σ1 v,r=AC (.enter f args)/\call f args σ=AC (v0,σ1,φ)/\resolve v0 σ1=AC (v,σ')/\Nq nt s o.dst v=AC b):=by
 unfold UY at h
 split at h
 ·rename_i a;obtain⟨u,b,c,d,e⟩:=WX h;exact⟨b,a.σ,a.φ,e,.inl ⟨a,rfl,u,c,d,rfl⟩⟩
 ·rename_i f args
  split at h
  ·rename_i v0 σ1 φ g;obtain⟨u,b,c,d,e⟩:=WX h;exact⟨b,σ1,φ,e,.inr ⟨f,args,v0,σ1,u,rfl,g,c,d⟩⟩
  ·cases h
 ·cases h
theorem Mc{all:AE Az}{o:Az}{s:Tr AJ}{σ:St}{k:Tr AJ->St->Foot->AP α}(g:Ik all s o=AC AD)(h:UY call nt o s σ (K3 P E s σ o) k=AC y):
  ∃a σ' φ,HR P E call nt all o s σ=AC (a,σ',φ)/\k a σ' φ=AC y:=by
 obtain⟨a,σ',φ,i,j⟩:=lM h;refine⟨a,σ',φ,?_,i⟩;unfold HR;rw[g];rcases j with⟨l,b,v,c,d,e⟩|⟨f,args,v0,σ1,v,b,c,d,e⟩
 ·simp only[b,c,d,e]
 ·simp only[b,c,d,e]
theorem lN{o:Az}{s:Tr AJ}{σ:St}{c a b:Bp}{t:AH}(d:o.op=.pick c a b)(e:av E.G s c=AC (.bool t)){r:OpR}(h:CF σ (av E.G s (bif t then a else b))=AC r):K3 P E s σ o=AC r:=by
 have f:ji E s σ o=none:=by unfold ji;rw[d]
 have g:gN P E s σ o=AC r:=by
  unfold gN;rw[d];simp only[e];cases t<;>exact h
 unfold K3 TR;rw[f,g]
theorem WY{all:AE Az}{o:Az}{s:Tr AJ}{σ:St}{c a b:Bp}{t:AH}{k:Tr AJ->St->Foot->AP α}(f:o.op=.pick c a b)(g:av E.G s c=AC (.bool t))(i:Ik all s o=AC AD)(h:UY call nt o s σ (CF σ (av E.G s (bif t then a else b))) k=AC y):∃e σ' φ,HR P E call nt all o s σ=AC (e,σ',φ)/\k e σ' φ=AC y:=by
 cases d:CF σ (av E.G s (bif t then a else b))with
 |none=>rw[d]at h;simp[UY]at h
 |some r=>
  rw[d]at h;exact Mc i (by rw[lN f g d];exact h)
theorem RD{g:Int->AP OpR}{n:Int}{K:AP OpR->AP α}:∀{m j:AB},Yc g n K m j=AC y->K (g n)=AC y
 |0,_,h=>by cases h
 |m+1,j,h=>by
  unfold Yc at h;cases a:n==(jH j)
  ·rw[a,BZ]at h;exact RD h
  ·rw[a,Ag]at h;have:n=jH j:=by simpa using a
   rw[this];exact h
theorem lO{o:Az}{s:Tr AJ}{σ:St}{t:AQ}{x i:Bp}{c:IntKind}{n:Int}{len:AB}{v:AJ}(d:o.op=.indexAddr t x i)(h:e8 E s t x i=AC (c,n,len,v)):
  K3 P E s σ o=DV (Dr E.T σ t v (.int c n)):=by
 unfold e8 at h
 split at h
 ·rename_i v' a e f;have j:ji E s σ o=none:=by unfold ji;rw[d]
  have key:∀(hd:∀b,v'≠ .tuple b),DH (.tuple a)=AC (.int c n)->v'=v->K3 P E s σ o=DV (Dr E.T σ t v (.int c n)):=by
   rintro hd g rfl;have k:gN P E s σ o=none:=by unfold gN;rw[d];simp only[e,f];rfl
   have l:Fq E.T σ t v' (.tuple a)=none:=by
    unfold Fq
    split
    ·exact Aq rfl (hd _)
    ·rfl
   unfold K3 TR;rw[j,k];unfold OD;rw[d];simp only[e,f,HE,l,g]
  split at h
  all_goals first
   |(cases h;done)
   |(rename_i g _
     simp only[BJ,Prod.mk.injEq]at h;obtain⟨rfl,rfl,rfl,rfl⟩:=h;exact key (λb m=>by cases m) (by assumption) rfl)
 ·cases h
theorem UZ{all:AE Az}{o:Az}{s:Tr AJ}{σ:St}{k:Tr AJ->St->Foot->AP α}(h:iH P E call nt all o s σ k=AC y):
  ∃e σ' φ,HR P E call nt all o s σ=AC (e,σ',φ)/\k e σ' φ=AC y:=by
 unfold iH at h
 split at h
 ·rename_i b d;rw[qu]at d;cases b
  ·rw[BZ]at h
   split at h
   ·rename_i e j;refine⟨e,σ,.nil,?_,h⟩;unfold HR;simp only[d,j]
   ·cases h
  ·rw[Ag]at h;unfold AIz at h
   split at h
   ·rename_i c a b f
    split at h
    ·rename_i t g;cases t
     ·exact WY f g d h
     ·exact WY f g d h
    ·cases h
   ·rename_i t x i f
    split at h
    ·rename_i m n len v l;exact Mc d (by rw[lO f l];exact RD (K:=λr=>UY call nt o s σ r k) h)
    ·exact Mc d h
   ·exact Mc d h
 ·cases h
theorem WZ{all:AE Az}:∀{os:AE Az} {s:Tr AJ} {σ:St} {k:Tr AJ->St->AP α},AEQ P E call nt all os s σ k=AC y->
  ∃a σ' φ,LO P E call nt all os s σ=AC (a,σ',φ)/\k a σ'=AC y
 |[],s,σ,k,h=>⟨s,σ,.nil,rfl,h⟩
 |o::os,s,σ,k,h=>by
  obtain⟨g,σ1,φ1,b,c⟩:=UZ h;obtain⟨d,σ2,φ2,e,f⟩:=WZ c;exact⟨d,σ2,φ1.add φ2,by simp only[LO,b,e],f⟩
theorem RE{all:AE Az}:∀{os:AE Az} {s:Tr AJ} {σ:St} {k:Tr AJ->St->AE Rec->AP α},e9 P E call nt all os s σ k=AC y->
  ∃a σ' rs,Ff P E call nt all os s σ=AC (a,σ',rs)/\k a σ' rs=AC y
 |[],s,σ,k,h=>⟨s,σ,[],rfl,h⟩
 |o::os,s,σ,k,h=>by
  obtain⟨g,σ1,φ1,b,c⟩:=UZ h;obtain⟨d,σ2,rs,e,f⟩:=RE c;exact⟨d,σ2,_,by simp only[Ff,b,e],f⟩
end
def St.clean(σ:St):St:=⟨σ.heap,σ.next,[],[]⟩
abbrev Fv:Type:=Code->AP (AE (AB×Sh))
abbrev qx(α:Type):Type:=Code->AE Kt->AE (AB×AJ)->AE AO->AP α
section
variable (P:Ao) (E:Env) (pins:AE AB) (sh:Fv) {α:Type} (rec:qx α) (fin:Dx->Tr AJ->St->AP α) (m nt:AB)
def zc:AB->Pl->Tr AJ->St->AP α
 |0,_,_,_=>AF
 |n+1,.run c a,s,σ=>match c with
  | .skip=>zc n (.out .normal a) s σ
  | .label _=>zc n (.out .normal a) s σ
  | .ret=>zc n (.out .ret a) s σ
  | .exit id=>zc n (.out (.exit id) a) s σ
  | .goto l=>zc n (.out (.goto l) a) s σ
  | .region id ops AK=>AEQ P E (Pd P E m) nt ops.toList ops.toList s (wI E pins s id σ).clean λi σ'=>gd σ'.pc (zc n (.out .normal a) i σ'.clean)
  | .region id ops AD=>e9 P E (Pd P E m) nt ops.toList ops.toList s (wI E pins s id σ).clean λi σ' recs=>bif ANO ops ops.toList recs [] ops.toList recs then gd σ'.pc (zc n (.out .normal a) i σ'.clean)else AF
  | .seq u v=>zc n (.run u (.seq v::a)) s σ
  | .cond c u v=>match av E.G s c with
    |some (.bool b)=>bif b then zc n (.run u a) s σ else zc n (.run v a) s σ
    |_=>AF
  | .block id b=>zc n (.run b (.block id::a)) s σ
  | .loop b=>zc n (.head b a) s σ
  | .scope b=>zc n (.run b (.scope b::a)) s σ
  |_=>AF
 |n+1,.head b a,s,σ=>match sh b with
  |some f=>match qd E pins f s (frzS E pins s f σ)with
   |some (l,objs)=>rec b a l objs
   |none=>AF
  |none=>zc n (.run b (.loop b::a)) s σ
 |_+1,.out e [],s,σ=>fin e s σ
 |n+1,.out e (k::a),s,σ=>match k with
  | .seq d=>match e with
    | .normal=>zc n (.run d a) s σ
    |e=>zc n (.out e a) s σ
  | .block id=>match e with
    | .exit g=>bif Af g id then zc n (.out .normal a) s σ else zc n (.out (.exit g) a) s σ
    |e=>zc n (.out e a) s σ
  | .loop b=>match e with
    | .normal=>zc n (.head b a) s σ
    |e=>zc n (.out e a) s σ
  | .scope b=>match e with
    | .goto l=>match findLabel b l with
      |some h=>zc n (.run h (.scope b::a)) s σ
      |none=>zc n (.out (.goto l) a) s σ
    |e=>zc n (.out e a) s σ
def zG(N n:AB):qx α:=
 Nat.rec (λ_ _ _ _=>AF) (λ_ a b c l objs=>zc P E pins sh a fin m nt N (.run b (.loop b::c)) (vz l) (Rf E objs [])) n
end
section
variable {P:Ao} {E:Env} (hE:E.OK P) {pin:AE (AB×Reg)} {sh:Fv} {α:Type} {rec:qx α} {fin:Dx->Tr AJ->St->AP α} {m nt:AB} {y:α} {Q:AN->Dx->Act->AN->Prop} {own0 z0:AN->AB->Prop}
 (hfin:∀e s σ,fin e s σ=AC y->At P E nt pin Q own0 z0 (.out e []) s σ)
theorem qy{p:Pl}{s:Tr AJ}{σ:St}(h:At P E nt pin Q own0 z0 p s σ.clean):At P E nt pin Q own0 z0 p s σ:=h
theorem AER{p:Pl}{s:Tr AJ}{σ:St}{id:AB}(h:At P E nt pin Q own0 z0 p s (wI E (pin.map (·.1)) s id σ)):At P E nt pin Q own0 z0 p s σ:=λw0 a w b=>h w0 a w b.frzS
include hE hfin
theorem Ia(q:∀b F l objs,rec b F l objs=AC y->At P E nt pin Q own0 z0 (.head b F) (vz l) (Rf E objs [])):
  ∀(n:AB) (p:Pl) (s:Tr AJ) (σ:St),zc P E (pin.map (·.1)) sh rec fin m nt n p s σ=AC y->At P E nt pin Q own0 z0 p s σ
 |0,p,s,σ,h=>by simp[zc]at h
 |n+1,.run c F,s,σ,h=>by
  have g:=Ia q n;have hC:CallSound P E (Pd P E m):=Nz hE m;cases c with
  |skip=>exact λw0 a w d=>wp_skip (g _ _ _ h w0 a w d)
  |label l=>exact λw0 a w d=>wp_label (g _ _ _ h w0 a w d)
  |ret=>exact λw0 a w d=>wp_ret (g _ _ _ h w0 a w d)
  |exit id=>exact λw0 a w d=>wp_exit (g _ _ _ h w0 a w d)
  |goto l=>exact λw0 a w d=>wp_goto (g _ _ _ h w0 a w d)
  |region id ops M=>
   refine AER (id:=id) ?_;generalize N:wI E (pin.map (·.1)) s id σ=σf;refine qy ?_;cases M with
   |false=>
    simp only[zc]at h;rw[N]at h;obtain⟨s1,σ1,φ1,T,B⟩:=WZ h;obtain⟨x,B⟩:=Mb B;obtain⟨U,a2,a3⟩:=LQ hE hC ops.toList 0 _ _ _ _ _ T λj _=>by simp
    refine λw0 a w d=>wp_region ?_
    obtain⟨D,ι,i,I,O,J,hall,K,q1,V,W,X,Y,Z,q7⟩:=d;have:=a3 i x D ι w a (me P F (Q w0)) i I (λid R hx=>by have:=O id hx;simp only[St.rng]at R;omega) J (hall.on _) λι' w' a' g1 g2 g3=>
     g _ _ _ B w0 a' w' (Hl.step i I O hall K q1 V W X Y Z q7 U (a2 i).1 g1 g2 g3)
    rw[List.range_eq_range'];simpa using this
   |true=>
    simp only[zc]at h;rw[N]at h;obtain⟨s1,σ1,recs,T,B⟩:=RE h;cases r:ANO ops ops.toList recs [] ops.toList recs
    ·rw[r]at B;cases B
    rw[r,Ag]at B;obtain⟨x,B⟩:=Mb B;obtain⟨U,a2,a3⟩:=Nv hE hC T r;refine λw0 a w d=>wp_region_any hE.mixed ?_
    obtain⟨D,ι,i,I,O,J,hall,K,q1,V,W,X,Y,Z,q7⟩:=d;have A:HAll P D ι σf.clean.H { w with drawn:=w.drawn+1}:=⟨hall.hd,hall.ce,hall.inj⟩
    exact a3 x D ι _ a (me P F (Q w0)) i I (λid R hx=>by have:=O id hx;simp only[St.rng]at R;omega) J (A.on _) λι' w' a' g1 g2 g3=>
     g _ _ _ B w0 a' w' (Hl.step (w:={ w with drawn:=w.drawn+1}) i I O A K q1 V W X Y Z q7 U (a2 i).1 g1 g2 g3)
  |seq u v=>exact λw0 a w d=>wp_seq (g _ _ _ h w0 a w d)
  |cond C u v=>
   simp only[zc]at h;have S:∀b,av E.G s C=AC (.bool b)->∀w0 a w,Hl P E nt pin w0 (own0 w0) (z0 w0) s σ a w->a.eval C=.bool b:=by
    rintro b r w0 a w ⟨D,ι,_,I,_,d,_⟩;have R:gO E.G D ι s a.eval C:=cR I.b λt _ v hv=>(d.2 t v hv).2
    have:=R _ r;generalize a.eval C=z at this;cases this;rfl
   split at h
   ·rename_i b r;cases b
    ·exact λw0 a w d=>wp_cond_false (S _ r w0 a w d) (g _ _ _ h w0 a w d)
    ·exact λw0 a w d=>wp_cond_true (S _ r w0 a w d) (g _ _ _ h w0 a w d)
   ·cases h
  |block id b=>exact λw0 a w d=>wp_block (g _ _ _ h w0 a w d)
  |loop b=>exact λw0 a w d=>Ss (g _ _ _ h w0 a w d)
  |scope b=>exact λw0 a w d=>QR (Sr (g _ _ _ h w0 a w d))
  |rangeFunc f ps as b=>simp[zc]at h
  |refuse why=>simp[zc]at h
 |n+1,.head b F,s,σ,h=>by
  have g:=Ia q n;simp only[zc]at h
  split at h
  ·split at h
   ·rename_i l objs S;exact λw0 a w d=>q _ _ _ _ h w0 a w (bB hE S d.frzS)
   ·cases h
  ·exact λw0 a w d=>XN (g _ _ _ h w0 a w d)
 |n+1,.out e [],s,σ,h=>hfin e s σ h
 |n+1,.out e (k::F),s,σ,h=>by
  have g:=Ia q n;simp only[zc]at h
  split at h
  ·split at h
   ·exact λw0 a w d=>g _ _ _ h w0 a w d
   ·rename_i o;intro w0 a w d;have:=g _ _ _ h w0 a w d;cases e<;>first|exact this|exact Aq rfl o
  ·split at h
   ·rename_i id _ L;cases r:Af L id
    ·rw[r,BZ]at h;have hne:L≠id:=λe=>by rw[Ei e]at r;cases r
     intro w0 a w d;show Ug id _ (.exit L) a w;simp only[Ug,hne,BR];exact g _ _ _ h w0 a w d
    ·rw[r,Ag]at h;have he:=Br r;subst he;intro w0 a w d;show Ug _ _ (.exit _) a w;simp only[Ug,if_true];exact g _ _ _ h w0 a w d
   ·rename_i o;intro w0 a w d;have:=g _ _ _ h w0 a w d;cases e<;>first|exact this|exact Aq rfl (o _)
  ·split at h
   ·exact λw0 a w d=>g _ _ _ h w0 a w d
   ·rename_i o;intro w0 a w d;have:=g _ _ _ h w0 a w d;cases e<;>first|exact this|exact Aq rfl o
  ·split at h
   ·rename_i b _ l
    split at h
    ·rename_i rest hf;intro w0 a w d;show Exit.inScope P _ _ (.goto l) a w;simp only[Exit.inScope,hf];exact Sr (g _ _ _ h w0 a w d)
    ·rename_i hf;intro w0 a w d;show Exit.inScope P _ _ (.goto l) a w;simp only[Exit.inScope,hf];exact g _ _ _ h w0 a w d
   ·rename_i o;intro w0 a w d;have:=g _ _ _ h w0 a w d;cases e<;>first|exact this|exact Aq rfl (o _)
theorem O3{N:AB}:∀(n:AB) (b:Code) (c:AE Kt) (l:AE (AB×AJ)) (objs:AE AO),zG P E (pin.map (·.1)) sh fin m nt N n b c l objs=AC y->At P E nt pin Q own0 z0 (.head b c) (vz l) (Rf E objs [])
 |0,_,_,_,_,h=>by cases h
 |n+1,b,c,l,objs,h=>λw0 a w d=>XN (Ia hE hfin (O3 n) N (.run b (.loop b::c)) (vz l) (Rf E objs []) h w0 a w d)
end
def qz:(ts:AE Ty)->AM ts
 |[]=>()
 |t::ts=>(t.dflt,qz ts)
def ofO(ts rs:AE Ty)(g:AM ts->AP (AM rs)):PSpec:=⟨ts,rs,λx=>(g x).isSome,λx=>(g x).getD (qz rs)⟩
def q8(E:Env)(fn:Dq)(rs:AE Ty)(e:Dx)(s:Tr AJ)(σ:St):AP (AM rs):=
 match AD0 E fn rs (.out e [],s,σ)with
 |some (y,a)=>gd a (AC y)
 |none=>AF
def AU:AB:=1606938044258990275541962092341162602522202993782792835301376
def Cy(P:Ao)(E:Env)(sh:Fv)(fn:Dq)(ts rs:AE Ty)(N:AB)(x:AM ts):AP (AM rs):=
 match Gm (IK ts x) (Bj E)with
 |(vs,σ)=>zc P E [] sh (zG P E [] sh (q8 E fn rs) 1000 fn.ntmps 1000 N) (q8 E fn rs) 1000 fn.ntmps 1000 (.run (GW fn) []) (F1 0 (Ry ts vs) .lf) σ
def fO(P:Ao)(E:Env)(sh:Fv)(fn:Dq)(ts rs:AE Ty)(x:AM ts):AP (AM rs):=Cy P E sh fn ts rs AU x
def rO(P:Ao)(E:Env)(sh:Fv)(fn:Dq)(rs:AE Ty)(n:AB):qx (AM rs):=zG P E [] sh (q8 E fn rs) 1000 fn.ntmps 1000 n
section
variable {P:Ao} {E:Env} (hE:E.OK P)
include hE
theorem iI{nt:AB}{fz0:AB->AP (Aa AJ)}{fn:Dq}{rs:AE Ty}{y:AM rs}(e:Dx)(s:Tr AJ)(σ:St)(h:q8 E fn rs e s σ=AC y):
  At P E nt [] (QP P fn rs y fz0) (λ_ _=>False) (λ_ b=>∃c,fz0 b=AC c) (.out e []) s σ:=by
 unfold q8 at h
 split at h
 ·rename_i g i a;obtain⟨d,f⟩:=Mb h;cases f;exact vv hE a d
 ·cases h
theorem Ap(b:∀p,p∈E.gl->p.2≠[]){sh:Fv}{ts rs:AE Ty}{f:BT}{fn:Dq}(c:P.funcs[f]?=AC fn)(a:fn.body.isSome=AD)(d:ts.length<=fn.ntmps):Kh P E.gl f (ofO ts rs (fO P E sh fn ts rs)):=by
 obtain⟨body,a⟩:=Wy.1 a;refine vx hE b c a d λx e fz0=>⟨[],?_⟩
 have e:(fO P E sh fn ts rs x).isSome=true:=e;obtain⟨y,h⟩:=Wy.1 e;have i:(ofO ts rs (fO P E sh fn ts rs)).g x=y:=by show(fO P E sh fn ts rs x).getD _=y;rw[h];rfl
 rw[i];rw[show body=GW fn by simp only[GW,a]];exact Ia hE (pin:=[]) (iI hE) (O3 hE (pin:=[]) (iI hE) AU) 1000 _ _ _ h
end
theorem Kh.nice{P:Ao}{gl:AE (AB×AE AJ)}{f:BT}{ts rs:AE Ty}{g:AM ts->AP (AM rs)}(h:Kh P gl f (ofO ts rs g)){pre:AM ts->AH}{n:AM ts->AM rs}(d:∀x,pre x=AD->g x=AC (n x)):Kh P gl f ⟨ts,rs,pre,n⟩:=by
 intro fz w args x i b c a;have a:pre x=true:=a;have e:=d x a;have:=h fz w args x i b c (by show(g x).isSome=AD;rw[e];rfl);have j:(ofO ts rs g).g x=n x:=by show(g x).getD _=n x;rw[e];rfl
 rw[j]at this;exact this
open Go
def tyE(T:TE):AB->AQ->AP Ty
 |0,_=>AF
 |n+1,t=>match T.und t with
  |some (.int .u8)=>AC .byte
  |some (.int k)=>AC (.int k)
  |some .bool=>AC .bool
  |some .string=>AC .str
  |some (.slice e)=>match tyE T n e with
   |some a=>AC (.slice a)
   |none=>AF
  |some (.struct c)=>c.toList.foldr (λf r=>match tyE T n f.type,r with
   |some a,AC b=>AC (.pair a b)
   |_,_=>AF) (AC .unit)
  |_=>AF
def L3:Code->AP AB
 | .region id _ _=>AC id
 | .seq a b=>match L3 a with
   |some i=>AC i
   |none=>L3 b
 | .cond _ a b=>match L3 a with
   |some i=>AC i
   |none=>L3 b
 | .block _ b=>L3 b
 | .loop b=>L3 b
 | .scope b=>L3 b
 |_=>AF
def yU{α:Type}:AE (AB×α)->AB->AP α
 |[],_=>AF
 |(j,x)::r,i=>bif Af i j then AC x else yU r i
def AV(l:AE (AB×AE (AB×Sh))):Fv:=λb=>match L3 b with
 |some i=>yU l i
 |none=>AF
def q9{α:Type}(r:qx α):Pl->AE (AB×AJ)->AE AO->AP α
 | .head b a,l,o=>r b a l o
 |_,_,_=>AF
def rH(P:Ao)(E:Env)(sh:Fv)(fn:Dq)(rs:AE Ty)(n k:AB)(l:AE (AB×AJ))(objs:AE AO):AP (AM rs):=q9 (rO P E sh fn rs n) (hdN fn k) l objs
end Go.Eng
end
end
end
section
noncomputable section
noncomputable section
namespace Go.Eng
open Go
def Ua:AB:=140737488355328
def Bd:(t:Ty)->t.Den->Prop
 | .int k,n=>A4 k n
 | .str,s=>s.length<=Ua
 | .pair a b,x=>Bd a x.1/\Bd b x.2
 | .slice a,c=>c.length<=Ua/\∀x,x∈c->Bd a x
 |_,_=>True
def BdL:(ts:AE Ty)->AM ts->Prop
 |[],_=>True
 |t::ts,x=>Bd t x.1/\BdL ts x.2
def bK(g:AQ->AP Ty):AE Field->AB->AP Ty
 |[],_=>AC .unit
 |f::r,o=>match g f.type with
  |some a=>bif Af f.offset o then(match bK g r (o+a.sz)with
   |some b=>AC (.pair a b)
   |none=>AF)else AF
  |none=>AF
def Jr(a:Ty):AB->Ty
 |0=>.unit
 |n+1=>.pair a (Jr a n)
def rA(T:TE):AB->AQ->AP Ty
 |0,_=>AF
 |n+1,t=>match T.und t,T.inf t with
  |some d,AC i=>match d with
   | .bool=>bif Af i.size 1 then AC .bool else AF
   | .int .u8=>bif Af i.size 1 then AC .byte else AF
   | .int k=>bif Af i.size 1 then AC (.int k)else AF
   | .string=>bif Af i.size 1 then AC .str else AF
   | .slice e=>match rA T n e,T.inf e with
     |some a,AC j=>bif Af i.size 1&&(!Nat.beq j.bytes 0&& !Nat.beq a.sz 0)then AC (.slice a)else AF
     |_,_=>AF
   | .struct b=>match bK (rA T n) b.toList 0 with
     |some a=>bif Af a.sz i.size then AC a else AF
     |none=>AF
   | .array q e=>match rA T n e with
     |some a=>bif Af (Jr a q).sz i.size then AC (Jr a q)else AF
     |none=>AF
   |_=>AF
  |_,_=>AF
theorem lP(a:Ty)(n:AB):(Jr a n).agg=true:=by cases n<;>rfl
theorem bL(a:Ty):∀n,(Jr a n).sz=n*a.sz
 |0=>by simp[Jr,Ty.sz]
 |n+1=>by simp only[Jr,Ty.sz,bL a n,Wp];omega
def Yg(w:AN)(b:AB):AP (Aa AJ):=match w.heap[b]? with
 |some (.cells c _ _)=>AC c
 |_=>AF
theorem AES(w:AN):DK (Yg w) w:=by
 intro b c h;unfold Yg at h
 split at h
 ·rename_i d e fr a;cases h;exact⟨e,fr,a⟩
 ·cases h
section
variable {P:Ao} {T:TE} (hT:T.OK P) {w:AN} {sp:AB->AH} {held:AH} {H:Type} {enc:AQ×AJ->H}
include hT
theorem L4{t:AQ}{i:TypeInfo}(h:T.inf t=AC i):P.cellsOf t=i.size:=by
 unfold Program.cellsOf;rw[hT.inf t i h];rfl
theorem bM{t:AQ}{i:TypeInfo}(h:T.inf t=AC i):P.bytesOf t=i.bytes:=by
 unfold Program.bytesOf;rw[hT.inf t i h];rfl
theorem fB:∀{n:AB} {t:AQ} {a:Ty},rA T n t=AC a->P.cellsOf t=a.sz
 |0,_,_,h=>by cases h
 |n+1,t,a,h=>by
  simp only[rA]at h
  split at h
  ·rename_i d i hd c;rw[L4 hT c];simp only[Dn]at h
   split at h
   all_goals try (split at h<;>first|(rename_i b;cases h;exact Br b)|cases h)
   ·split at h
    ·split at h
     ·rename_i b;cases h;rw[A0]at b;exact Br b.1
     ·cases h
    ·cases h
   ·split at h
    ·split at h
     ·rename_i b;cases h;exact(Br b).symm
     ·cases h
    ·cases h
   ·split at h
    ·split at h
     ·rename_i b;cases h;exact(Br b).symm
     ·cases h
    ·cases h
   ·cases h
  ·cases h
omit hT in
theorem O4{b n:AB}{a:Addr}{d:AE AJ}(h:w.cells? b a n=AC d)(m:0<n):∃c,Yg w a.block=AC c/\a.spot=AF/\a.off+n<=c.size/\d=(c.toList.drop a.off).take n:=by
 unfold World.cells? at h
 split at h
 ·have p:=mapM_some_length h;simp only[RQ]at p;obtain⟨blk,off,spot⟩:=a;have j:∀i,i<n->w.cell? (sW ⟨blk,off,spot⟩ i)=d[i]?:=λi f=>mapM_some_get h i i (by simp[f])
  have k:w.cell? ⟨blk,off,spot⟩=d[0]?:=by
   have:=j 0 m;simpa[sW]using this
  have r:spot=none:=by
   rw[B4 (show 0<d.length by omega)]at k;simp only[C0]at k
   split at k
   ·cases spot with
    |none=>rfl
    |some q=>simp at k
   ·cases k
  subst r;have j:∀i,i<n->w.cell? ⟨blk,off+i,AF⟩=d[i]?:=λi f=>by have:=j i f;rwa[CU]at this
  cases l:w.heap[blk]? with
  |none=>
   have:=j 0 m;simp only[C0,l]at this;rw[B4 (by omega)]at this;simp at this
  |some o=>
   cases o with
   |cells c e fr=>
    have key:∀i,i<n->c[off+i]?=d[i]?:=λi f=>by
     have:=j i f;simpa[C0,l]using this
    have g:off+n<=c.size:=by
     have:=key (n-1) (by omega);rw[B4 (by omega)]at this;rcases Cf (off+(n-1)) c.size with h|h
     ·omega
     ·rw[Array.getElem?_eq_none h]at this;cases this
    refine⟨c,by simp[Yg,l],rfl,g,?_⟩;apply List.ext_getElem?;intro i;rw[CB]
    split
    ·rename_i f;rw[CA];exact(key i f).symm.trans (Bf).symm
    ·rw[DA (by omega)]
   |_=>
    have:=j 0 m;simp only[C0,l]at this;rw[B4 (by omega)]at this;simp at this
 ·cases h
theorem iJ:∀(m:AB) (t:AQ) (a:Ty),rA T m t=AC a->∀(n:AB) (D:AE AJ) (x:Hk H×AE Ih),Uy enc P w 0 (λ_=>AD) held n t D=AC x->(∀z,z∈x.1.weights P t->z<=RV)->
  ∃y:a.Den,Cw (Yg w) a y D/\Bd a y
 |0,_,_,h,_,_,_,_,_=>by cases h
 |m+1,t,a,h,n,D,x,J,L=>by
  have ih:=iJ m;simp only[rA]at h
  split at h
  ·rename_i d i hd hi;have B:=hT.und t d hd
   split at h
   ·cases p:Af i.size 1<;>rw[p]at h<;>cases h;obtain⟨b,rfl, -⟩:=DataW.trod_bool B J;exact⟨b,rfl,A3⟩
   ·cases p:Af i.size 1<;>rw[p]at h<;>cases h;obtain⟨k,rfl, -,E⟩:=AAV B J;simp only[Lit.wf,A0,A6]at E;have v:A4 .u8 k:=E;exact⟨UInt8.ofNat k.toNat,by simp only[Cw];rw[<-Ru v],A3⟩
   ·cases p:Af i.size 1<;>rw[p]at h<;>cases h;obtain⟨k,rfl, -,E⟩:=AAV B J;simp only[Lit.wf,A0,A6]at E;exact⟨k,rfl,E⟩
   ·cases p:Af i.size 1<;>rw[p]at h<;>cases h;obtain⟨s,rfl,rfl, -⟩:=DataW.trod_string B J;refine⟨Fg s,by simp only[Cw,NJ],?_⟩;have:=L s.data.toList.length (by simp[jE]);have h2:RV<=Ua:=by decide
    exact Nat.le_trans this h2
   ·rename_i e
    split at h
    ·rename_i c j O hj;cases p:(Af i.size 1&&(!Nat.beq j.bytes 0&& !Nat.beq c.sz 0))<;>rw[p]at h<;>cases h;rw[A0,A0]at p;have hbytes:j.bytes≠0:=λe=>by rw[Ei e]at p;cases p.2.1
     have I:0<c.sz:=Nat.pos_of_ne_zero λe=>by rw[Ei e]at p;cases p.2.2
     have Q:=fB hT O;rcases DataW.trod_slice B J with⟨rfl, -⟩|⟨ad,len,cap,A,rest,n',rfl,rfl,rfl, -,hlc, -,hel,hes, -, -⟩
     ·exact⟨[],⟨_,rfl,.inl ⟨⟨_,_,rfl⟩,rfl⟩⟩,by simp[Ua],λx h=>by cases h⟩
     ·simp only[jE,B]at L;have C:len<=Ua:=by
       have:=L _ (List.mem_cons_self ..);rw[bM hT hj]at this;have h2:RV<=Ua:=by decide
       have h3:(A.map (·.1)).length=len:=by simpa using hel
       have h4:len*1<=((A.map (·.1)).length+(rest.map (·.1)).length)*j.bytes:=Nat.mul_le_mul (by omega) (by omega);omega
      have R:∀(k:AB) (z:Hk H×AE Ih),A[k]?=AC z->∀u,u∈z.1.weights P e->u<=RV:=λk z v u B=>L u (by
       refine List.mem_cons_of_mem _ (Du _ ?_);have hmem:z.1∈A.map (·.1):=Ju.2 ⟨z,List.mem_of_getElem? v,rfl⟩;have S:∀(l:AE (Hk H)) d,d∈l->u∈d.weights P e->u∈jF P e l:=by
        intro l
        induction l with
        |nil=>intro d h;cases h
        |cons d' l U=>
         intro d h B;simp only[jF,CH];rcases Dv.1 h with rfl|h
         ·exact .inl B
         ·exact .inr (U d h B)
       exact S _ _ hmem B)
      have M:∀k,k<len->∃y:c.Den,∃D,w.cells? 0 (ad.add (k*P.cellsOf e)) (P.cellsOf e)=AC D/\Cw (Yg w) c y D/\Bd c y:=λk v=>by
       have h1:=hes k v;rw[B4 (by omega)]at h1;obtain⟨D,h2,h3⟩:=Option.bind_eq_some_iff.1 h1;obtain⟨y,h4,h5⟩:=ih e c O n' D _ h3 (R k _ (B4 (by omega)));exact⟨y,D,h2,h4,h5⟩
      by_cases h0:len=0
      ·subst h0;exact⟨[],⟨_,rfl,.inl ⟨⟨_,_,rfl⟩,rfl⟩⟩,by simp[Ua],λx h=>by cases h⟩
      ·classical
       let f:AB->c.Den:=λk=>if v:k<len then AJe (M k v)else c.dflt
       have V:∀k,k<len->∃D,w.cells? 0 (ad.add (k*P.cellsOf e)) (P.cellsOf e)=AC D/\Cw (Yg w) c (f k) D/\Bd c (f k):=λk v=>by
        have:=AJf (M k v);simp only[f,dif_pos v];exact this
       refine⟨(List.range len).map f,?_,by simpa using C,λx J=> ?_⟩
       ·refine⟨_,rfl,.inr ?_⟩;obtain⟨blk,off,spot⟩:=ad;rw[Q]at V;have W:spot=none:=by
         obtain⟨cs0,c1,c2, -⟩:=V 0 (by omega);obtain⟨F,d1,d2, -, -⟩:=O4 c1 I;simpa[sW]using d2
        subst W;simp only[CU]at V;obtain⟨cs0,c1,c2, -⟩:=V 0 (by omega);obtain⟨F,d1, -, -, -⟩:=O4 c1 I;have d1:Yg w blk=AC F:=d1;refine⟨blk,off,cap,F,by simp,d1,?_,by simpa using hlc,λk y v=> ?_⟩
        ·obtain⟨cs1,e1, -⟩:=V (len-1) (by omega);obtain⟨G,f1, -,f2, -⟩:=O4 e1 I;have f1:Yg w blk=AC G:=f1;rw[d1]at f1;cases f1;have f2:off+(len-1)*c.sz+c.sz<=F.size:=f2;have:len*c.sz=(len-1)*c.sz+c.sz:=by
          conv=>lhs;rw[show len=(len-1)+1 by omega,Wp]
         simp only[List.length_map,RQ];omega
        ·have hkl:k<len:=by have:=GP v;simpa using this
         simp only[List.getElem?_map,List.getElem?_range hkl,Option.map_some,BJ]at v;subst v;obtain⟨cs1,e1,e2, -⟩:=V k hkl;obtain⟨G,f1, -, -,f3⟩:=O4 e1 I;have f1:Yg w blk=AC G:=f1;rw[d1]at f1;cases f1;have f3:cs1=(F.toList.drop (off+k*c.sz)).take c.sz:=f3;rw[<-f3];exact e2
       ·obtain⟨k,v,rfl⟩:=Ju.1 J;obtain⟨-, -, -,h⟩:=V k (List.mem_range.1 v);exact h
    ·cases h
   ·rename_i fs
    split at h
    ·rename_i c O;cases p:Af c.sz i.size<;>rw[p]at h<;>cases h;have p:=Br p;obtain⟨xs,n',rfl,rfl,hl,hxl,X⟩:=DataW.trod_struct B J;rw[L4 hT hi,<-p]at hl;simp only[jE,B]at L;have key:∀(Y:AE Field) (o:AB) (b:Ty) (N:AE (Hk H×AE Ih)),bK (rA T m) Y o=AC b->N.length=Y.length->(∀(k:AB) f,Y[k]?=AC f->Uy enc P w 0 (λ_=>AD) held n' f.type ((D.drop f.offset).take (P.cellsOf f.type))=N[k]?)->
       (∀z,z∈jG P (Y.map (·.type)) (N.map (·.1))->z<=RV)->D.length=o+b.sz->∃y:b.Den,Cw (Yg w) b y (D.drop o)/\Bd b y:=by
      intro Y
      induction Y with
      |nil=>
       intro o b N g _ _ _ C;simp only[bK,BJ]at g;subst g;exact⟨(),by simp only[Cw];exact AAW (by simp only[Ty.sz]at C;omega),A3⟩
      |cons f Y ihf=>
       intro o b N g hyl hys Z C;simp only[bK]at g
       split at g
       ·rename_i a1 ha1;cases K:Af f.offset o<;>rw[K]at g
        ·cases g
        rw[Ag]at g;have K:=Br K
        split at g
        ·rename_i b1 hb1;cases g;cases N with
         |nil=>simp at hyl
         |cons y0 N=>
          have h0:=hys 0 f rfl;rw[K,fB hT ha1]at h0;simp only[Ty.sz]at C;simp only[PM,jG,CH]at Z;obtain⟨u1,q1,q2⟩:=ih f.type a1 ha1 n' _ y0 h0 λz I=>Z z (.inl I)
          obtain⟨u2,q3,q4⟩:=ihf (o+a1.sz) b1 N hb1 (by simpa using hyl) (λk f' v=>by simpa using hys (k+1) f' (by simpa using v)) (λz I=>Z z (.inr I)) (by omega);refine⟨(u1,u2),⟨_,_,?_,q1,q3⟩,q2,q4⟩;rw[<-En];exact(Wt _ _).symm
        ·cases g
       ·cases g
     have:=key fs.toList 0 a xs O (by simpa using hxl) (λk f v=>X k f (by simpa using v)) (by simpa using L) (by omega);simpa using this
    ·cases h
   ·rename_i q e
    split at h
    ·rename_i c O;cases p:Af (Jr c q).sz i.size<;>rw[p]at h<;>cases h;have p:=Br p;obtain⟨xs,n',rfl,rfl,hl,hxl,X⟩:=DataW.trod_array B J;rw[L4 hT hi,<-p,bL]at hl;simp only[jE,B]at L;have Q:=fB hT O;have R:∀(z:Hk H×AE Ih),z∈xs->∀u,u∈z.1.weights P e->u<=RV:=λz I u hu'=>L u (by
      have S:∀(l:AE (Hk H)) d,d∈l->u∈d.weights P e->u∈jF P e l:=by
       intro l
       induction l with
       |nil=>intro d h;cases h
       |cons d' l U=>
        intro d h B;simp only[jF,CH];rcases Dv.1 h with rfl|h
        ·exact .inl B
        ·exact .inr (U d h B)
      exact S _ _ (Ju.2 ⟨z,I,rfl⟩) hu')
     have key:∀(r o:AB),o+r=q->∃y:(Jr c r).Den,Cw (Yg w) (Jr c r) y (D.drop (o*c.sz))/\Bd (Jr c r) y:=by
      intro r
      induction r with
      |zero=>
       intro o ho;refine⟨(),?_,A3⟩;simp only[Jr,Cw];exact AAW (by rw[hl,<-ho,FK];exact Ak _)
      |succ r ihr=>
       intro o ho;have h1:=X o (by omega);rw[Q,B4 (show o<xs.length by omega)]at h1;obtain⟨u1,q1,q2⟩:=ih e c O n' _ _ h1 (R _ (List.getElem_mem _));obtain⟨u2,q3,q4⟩:=ihr (o+1) (by omega);refine⟨(u1,u2),⟨_,_,?_,q1,q3⟩,q2,q4⟩;rw[Wp,<-En];exact(Wt _ _).symm
     have:=key q 0 (by omega);simpa using this
    ·cases h
   ·cases h
  ·cases h
def rB(T:TE)(m:AB):AE AQ->AP (AE Ty)
 |[]=>AC []
 |t::ts=>match rA T m t,rB T m ts with
  |some a,AC as=>AC (a::as)
  |_,_=>AF
omit hT in
theorem rC{g:AQ->AP Ty}:∀{b:AE Field} {o:AB} {a:Ty},bK g b o=AC a->a.agg=AD
 |[],o,a,h=>by simp only[bK,BJ]at h;subst h;rfl
 |f::r,o,a,h=>by
  simp only[bK,Dn]at h
  repeat' split at h
  all_goals first|(cases h;rfl)|cases h
theorem AET{m:AB}{t:AQ}{a:Ty}(b:rA T m t=AC a){v:AJ}{base:AB}(g:sX P w .any base t v){d:Hk H}{B:AE Ih}(h:DataW.Trod enc P w 0 (λ_=>AD) held t v d B)(C:∀z,z∈d.weights P t->z<=RV):
  ∃y:a.Den,xz (Yg w) a y v/\Bd a y:=by
 obtain⟨n,D⟩:=h;obtain⟨y,o,E⟩:=iJ hT m t a b n _ _ D C;refine⟨y,?_,E⟩;cases m with
 |zero=>cases b
 |succ m=>
  simp only[rA]at b
  split at b
  ·rename_i x i hd G;have A:=hT.und t x hd;unfold sX at g;rw[A]at g;have one:(∀j,v≠ .agg j)->a.agg=AK->xz (Yg w) a y v:=λp r=>by
    have:v.cells.toList=[v]:=by cases v<;>first|rfl|exact Aq rfl (p _)
    rw[this]at o;exact .inr ⟨r,o⟩
   have c:∀(k:TypeDesc),k=x->(∀F,k≠ .struct F)->(∀n e,k≠ .array n e)->AAU P w .any base t v->∀j,v≠ .agg j:=by
    rintro k rfl _ _ s j rfl;unfold AAU Cell.ok at s;rw[A]at s;cases k<;>exact s
   split at b
   ·cases f:Af i.size 1<;>rw[f]at b<;>cases b;exact one (c _ rfl (by simp) (by simp) g) rfl
   ·cases f:Af i.size 1<;>rw[f]at b<;>cases b;exact one (c _ rfl (by simp) (by simp) g) rfl
   ·cases f:Af i.size 1<;>rw[f]at b<;>cases b;exact one (c _ rfl (by simp) (by simp) g) rfl
   ·cases f:Af i.size 1<;>rw[f]at b<;>cases b;exact one (c _ rfl (by simp) (by simp) g) rfl
   ·simp only[Dn]at b
    split at b
    ·split at b
     ·cases b;exact one (c _ rfl (by simp) (by simp) g) rfl
     ·cases b
    ·cases b
   ·split at b
    ·rename_i u l;cases f:Af u.sz i.size<;>rw[f]at b<;>cases b;obtain⟨j,rfl, -⟩:=g;exact .inl ⟨rC l,j,rfl,o⟩
    ·cases b
   ·rename_i q e
    split at b
    ·rename_i u l;cases f:Af (Jr u q).sz i.size<;>rw[f]at b<;>cases b;obtain⟨j,rfl, -⟩:=g;exact .inl ⟨lP _ _,j,rfl,o⟩
    ·cases b
   ·cases b
  ·cases b
theorem Ub{m:AB}{base:AB}:∀{ts:AE AQ} {vs:AE AJ} {ds:AE (Hk H)} {e:AE Ih} {as:AE Ty},Ux enc P w 0 (λ_=>AD) held ts vs ds e->rB T m ts=AC as->
  (∀(j:AB) t v,ts[j]?=AC t->vs[j]?=AC v->sX P w .any base t v)->(∀z,z∈jG P ts ds->z<=RV)->∃x:AM as,CN (Yg w) as x vs/\BdL as x
 |[],[],[],e,as,_,c,_,_=>by
  simp only[rB,BJ]at c;subst c;exact⟨(),rfl,A3⟩
 |t::ts,v::vs,d::ds,e,as,h,c,i,f=>by
  obtain⟨p,q,k,l,rfl⟩:=h;simp only[rB]at c
  split at c
  ·rename_i a n o r;cases c;simp only[jG,CH]at f;obtain⟨y,g1,s⟩:=AET hT o (i 0 t v rfl rfl) k λz g=>f z (.inl g)
   obtain⟨x,g3,g4⟩:=Ub l r (λj t v a b=>i (j+1) t v (by simpa using a) (by simpa using b)) λz g=>f z (.inr g)
   exact⟨(y,x),⟨v,vs,rfl,g1,g3⟩,s,g4⟩
  ·cases c
 |[],_::_,_,_,_,h,_,_,_=>by cases h
 |[],[],_::_,_,_,h,_,_,_=>by cases h
 |_::_,[],_,_,_,h,_,_,_=>by cases h
 |_::_,_::_,[],_,_,h,_,_,_=>by cases h
omit hT in
theorem VH{w':AN}(j:DU w w')(K:Kids P (· <P.types.size))(l:∀t e,t<P.types.size->P.underlying t=AC (.slice e)->0<P.cellsOf e):∀{ts:AE AQ} {vs:AE AJ} {ds:AE (Hk H)} {a:AE Ih},
  (∀t,t∈ts->t<P.types.size)->Ux enc P w 0 (λ_=>AD) AD ts vs ds a->(∀p,p∈a->sp p.block=AD)->Ux enc P w' 0 sp AD ts vs ds a:=by
 intro ts vs ds a k h f;have c:=AJh h;have g:Ux enc P w' 0 (λ_=>AD) AD ts vs ds a:=by
  clear f k
  revert ts vs ds a
  intro ts
  induction ts with
  |nil=>
   intro vs ds a h _;cases vs<;>cases ds<;>first|exact h|cases h
  |cons t ts m=>
   intro vs ds a h c;cases vs with
   |nil=>cases ds<;>cases h
   |cons v vs=>
    cases ds with
    |nil=>cases h
    |cons d ds=>
     obtain⟨p,q,⟨n,g⟩,o,rfl⟩:=h;refine⟨p,q,⟨n,DataW.trod_carry n _ _ _ g λx i=> ?_⟩,m o λx i=>c x (C3 _ i),rfl⟩;have:=c x (Du _ i);cases x with
     |cell b off=>simp only[World.sameAt,C0,j.2.2.2 b this]
     |map b=>exact j.2.2.2 b this
 exact AJi K l k g f
omit hT in
theorem lQ{gl:AE (AB×AE AJ)}{f:BT}{as:AE Ty}{pre:AM as->AH}{g:AM as->AM [.bool]}(i:Kh P gl f ⟨as,[.bool],pre,g⟩)(j:∀x,BdL as x->pre x=AD/\g x=(AD,()))(c:NP gl w){args:Aa AJ}{x:AM as}(k:CN (Yg w) as x args.toList)(l:BdL as x):Calls P f args w λe w'=>e=.returned (.bool AD)/\DU w w':=by
 obtain⟨m,n⟩:=j x l;refine(i (Yg w) w args x (AES w) c k m).mono ?_;rintro e w' ⟨vs,d,rfl, -, -, -,a,o⟩;refine⟨?_,o⟩;have a:CN d [.bool] (g x) vs:=a;rw[n]at a;obtain⟨v,r,rfl,b,rfl⟩:=a;rcases b with⟨h, -⟩|⟨-,b⟩
 ·cases h
 ·simp only[Cw,iX,and_true]at b;subst b;rfl
omit hT in
theorem lR{gl:AE (AB×AE AJ)}{f:BT}(h:∀w,NP gl w->Calls P f #[] w λe w'=>e=.returned (.bool AD)/\DU w w'):Kh P gl f ⟨[],[.bool],λ_=>AD,λ_=>(AD,())⟩:=by
 intro fz w args x j d a _;have a:args.toList=[]:=a;obtain rfl:args=#[]:=by cases args;simp_all
 refine(h w d).mono ?_;rintro e w' ⟨rfl,g⟩;refine⟨[.bool AD],fz,rfl,λ_ _ h=>h,λb c k=> ?_,λ_ _ h=>.inl h,⟨_,_,rfl,.inr ⟨rfl,rfl⟩,rfl⟩,g⟩;obtain⟨e,fr,i⟩:=j b c k;exact⟨e,fr,by rw[g.2.2.2 b (BX i)];exact i⟩
end
end Go.Eng
end
end
end
section
noncomputable section
noncomputable section
namespace Go.Eng
open Go
def yV:(rs:AE OT)->DX rs
 |[]=>()
 |r::rs=>(r.dflt,yV rs)
def wK(S:OSpec)(g:S.root.Den->DX S.ts->AP (S.root.Den×DX S.rs)):OSpec:=⟨S.rb,S.ri,S.root,S.re,S.ts,S.rs,λx y=>(g x y).isSome,λx y=>(g x y).getD (S.root.dflt,yV S.rs)⟩
def AI2(S:OSpec)(pre:S.root.Den->DX S.ts->AH)(g:S.root.Den->DX S.ts->S.root.Den×DX S.rs):OSpec:=⟨S.rb,S.ri,S.root,S.re,S.ts,S.rs,pre,g⟩
def wL(E:Env)(S:OSpec)(x:S.root.Den):AE AJ×AE AB×St:=
 bif S.rb then match CQ S.root x (Bj E)with
  |(vs,σ)=>([.pointer (AC ⟨σ.next,0,AF⟩)],[σ.next],σ.new (.row vs S.re AK))
 else([],[],Bj E)
def rD(σ:St)(S:OSpec)(rid:AE AB):AP (CO S.root.Den):=
 bif S.rb then match rid with
  |[k]=>match fT σ S (.pointer (AC ⟨k,0,AF⟩))with
   |some (c,_)=>AC c
   |none=>AF
  |_=>AF
 else match rid with
  |[]=>AC ⟨S.root.dflt,[],[],[],[],[]⟩
  |_=>AF
def RF(E:Env)(fn:Dq)(S:OSpec)(rid:AE AB)(e:Dx)(s:Tr AJ)(σ:St):AP (S.root.Den×DX S.rs):=
 match(match e with| .normal=>AD| .ret=>AD|_=>AK)with
 |true=>match Fj E s σ fn.results.toList with
  |some (vs,_)=>match rD σ S rid with
   |some c=>match Yv σ S.rs vs with
    |some d=>bif ND (rid++((c.g++d.g)++(c.f++d.f)))&&Me σ (rid++((c.g++d.g)++(c.f++d.f)))&&Fp σ (c.i++d.i)then gd (c.p++d.p) (AC (c.x,d.x))else AF
    |none=>AF
   |none=>AF
  |none=>AF
 |false=>AF
def AI3(P:Ao)(E:Env)(sh:Fv)(fn:Dq)(S:OSpec)(N:AB)(x:S.root.Den)(y:DX S.ts):AP (S.root.Den×DX S.rs):=
 match wL E S x with
 |(a,rid,σ)=>match JC S.ts y σ with
  |(vs,σ')=>zc P E rid sh (zG P E rid sh (RF E fn S rid) 1000 fn.ntmps 1000 N) (RF E fn S rid) 1000 fn.ntmps 1000 (.run (GW fn) []) (F1 0 (EI S.ri a vs) .lf) σ'
def yW(P:Ao)(E:Env)(sh:Fv)(fn:Dq)(S:OSpec)(x:S.root.Den)(y:DX S.ts):AP (S.root.Den×DX S.rs):=AI3 P E sh fn S AU x y
section
variable {P:Ao}
theorem LR.mono{D D':AB->Prop}{ι ι':AB->Reg}(a:∀i,D i->D' i)(b:∀i,D i->ι' i=ι i):∀{vs us:AE AJ},LR D ι vs us->LR D' ι' vs us
 |_,_,.nil=>.nil
 |_,_,.cons h t=>.cons (h.mono a b) (LR.mono a b t)
theorem fC{σ:St}{S:OSpec}{rid:AE AB}{c:CO S.root.Den}(h:rD σ S rid=AC c):
  (S.rb=AD/\∃id a,rid=[id]/\σ.heap.get id=AC (.row a S.re AK)/\LL σ S.root a=AC c/\c.r=[])\/(S.rb=AK/\rid=[]/\c=⟨S.root.dflt,[],[],[],[],[]⟩):=by
 unfold rD at h;cases b:S.rb
 ·rw[b,BZ]at h
  split at h
  ·simp only[BJ]at h;exact .inr ⟨rfl,rfl,h.symm⟩
  ·cases h
 ·rw[b,Ag]at h
  split at h
  ·rename_i k
   split at h
   ·rename_i j id d;simp only[BJ]at h;subst h;obtain⟨a,e,f,g,i⟩:=Sc d;cases e;exact .inl ⟨rfl,_,a,rfl,f,g,i⟩
   ·cases h
  ·cases h
def QOO(P:Ao)(fn:Dq)(S:OSpec)(r:Reg)(own:AE AB)(z:S.root.Den×DX S.rs)(fz0:AB->AP (Aa AJ))(w0:AN):Dx->Act->AN->Prop:=
 bodyPost P fn λe w'=>DK fz0 w0->(∀b,b∈Iw S.rb r++own->fz0 b=AF)->uF P S fz0 w0 r own z e w'
variable {E:Env} (hE:E.OK P)
include hE
theorem rE{nt:AB}{r:Reg}{own rid:AE AB}{fz0:AB->AP (Aa AJ)}{fn:Dq}{S:OSpec}{z:S.root.Den×DX S.rs}(X:S.rb=AD->r.own=AD)(e:Dx)(s:Tr AJ)(σ:St)(h:RF E fn S rid e s σ=AC z):
  At P E nt (rid.map λk=>(k,r)) (QOO P fn S r own z fz0) (λ_ b=>b∈Iw S.rb r++own) (λ_ b=>∃c,fz0 b=AC c) (.out e []) s σ:=by
 unfold RF at h
 split at h
 ·rename_i he
  split at h
  ·rename_i vs φ hr
   split at h
   ·rename_i c Y
    split at h
    ·rename_i d hres;cases m:(ND (rid++((c.g++d.g)++(c.f++d.f)))&&Me σ (rid++((c.g++d.g)++(c.f++d.f)))&&Fp σ (c.i++d.i))
     ·rw[m]at h;cases h
     rw[m,Ag]at h;simp only[A0]at m;obtain⟨⟨b2,F⟩,b4⟩:=m;have b2:=LN b2;have F:=F3 F;have b4:=Ey b4;obtain⟨hps,hz⟩:=Mb h;cases hz;obtain⟨hp1,hp2⟩:=Ci hps;intro w0 a w hs;have key:a.defers=[]/\∃v,(results fn a.tmps).run P w=.ok v w/\(DK fz0 w0->(∀b,b∈Iw S.rb r++own->fz0 b=AF)->uF P S fz0 w0 r own (c.x,d.x) (.returned v) w):=by
      obtain⟨D,ι,hwf,hG,hD,hsr,hall,hdf,q1,q2,q3,q4,q5,q6,q7⟩:=hs;obtain⟨l,r1,r2⟩:=Ka hE hr hsr (hall.on _);refine⟨hdf,Er l,r1,λhz0 hno=> ?_⟩;have Q:∀k,k∈rid->ι k=r:=λk M=>(q7 (k,r) (Wd (f:=λk=>(k,r)) M)).2
      have A:=fC Y;have G:∀id,id∈rid++(c.g++d.g)->id∈rid++((c.g++d.g)++(c.f++d.f)):=λid h=>by
       simp only[CH]at h⊢;rcases h with h|h
       ·exact .inl h
       ·exact .inr (.inl h)
      have O:∀id,id∈c.f++d.f->id∈rid++((c.g++d.g)++(c.f++d.f)):=λid h=>C3 _ (C3 _ h)
      have hroB:Iw S.rb r=Ca ι rid:=by
       rcases A with⟨m,id,I,rfl,hg,_⟩|⟨m,p,_⟩
       ·rw[LM,Q id (by simp),X m];simp[Iw,m]
       ·rw[p];simp[Iw,m,Ca]
      have B:Iw S.rb r++(Ca ι c.g++Ca ι d.g)=Ca ι (rid++(c.g++d.g)):=by rw[hroB,DQ,DQ]
      have hnd:(rid++(c.g++d.g)).Nodup:=by
       rw[<-C9]at b2;exact(I0.1 b2).1
      have hdis:∀id,id∈rid++(c.g++d.g)->id∉c.f++d.f:=by
       rw[<-C9]at b2;exact λid h Z=>(I0.1 b2).2.2 id h id Z rfl
      have J:∀i j,i∈rid++(c.g++d.g)->Lv σ.H j->i≠j->∀b,(ι i).Own b->¬(ι j).Own b/\¬(ι j).Fz b:=λi j hi R hij b m=>hall.inj i j (F i (G i hi)) R hij b m
      have hself:∀i,i∈rid++(c.g++d.g)->∀b,(ι i).Own b->¬(ι i).Fz b:=λi hi b m=>by
       obtain⟨y,hy,_⟩:=F i (G i hi);exact(hall.hd i y hy).self m
      have K:∀b,b∈Iw S.rb r++(Ca ι c.g++Ca ι d.g)->∀j,Lv σ.H j->¬(ι j).Fz b:=λb m j R hz=>by
       rw[B]at m;obtain⟨id,N,p⟩:=GL.1 m;by_cases e:id=j
       ·subst e;exact hself id N b p hz
       ·exact(J id j N R e b p).2 hz
      have noOwn:∀b,b∈Iw S.rb r++(Ca ι c.g++Ca ι d.g)->∀j,j∈c.f++d.f->¬(ι j).Own b:=λb m j R ho=>by
       rw[B]at m;obtain⟨id,N,p⟩:=GL.1 m;exact(J id j N (F j (O j R)).lv (λe=>hdis id N (e▸R)) b p).1 ho
      let o:AB->AP (Aa AJ):=λb=>if b∈Iw S.rb r++(Ca ι c.g++Ca ι d.g)then AF else if b<w0.heap.size/\b∉Iw S.rb r++own then fz0 b else(match w.heap[b]? with|some (.cells c _ _)=>AC c|_=>AF)
      have fz1:∀b n,fz0 b=AC n->b<w0.heap.size/\b∉Iw S.rb r++own/\∃e fr,w.heap[b]?=AC (.cells n e fr):=λb n h=>by
       obtain⟨e,fr,Z⟩:=hz0 b n h;have q:=BX Z;have t:b∉Iw S.rb r++own:=λhm=>by rw[hno b hm]at h;cases h
       exact⟨q,t,e,fr,by rw[q4 b q t];exact Z⟩
      have Na:∀b n e fr,b∉Iw S.rb r++(Ca ι c.g++Ca ι d.g)->w.heap[b]?=AC (.cells n e fr)->(w0.heap.size<=b\/b∈Iw S.rb r++own\/∃c0,fz0 b=AC c0)->o b=AC n:=λb n e fr t C hcase=>by
       simp only[o,AY t];by_cases q:b<w0.heap.size/\b∉Iw S.rb r++own
       ·rw[Ae q];rcases hcase with h|h|⟨c0,h⟩
        ·omega
        ·exact Aq h q.2
        ·obtain⟨_,_,e',fr',Z⟩:=fz1 b c0 h;rw[C]at Z;cases Z;exact h
       ·rw[AY q,C]
      have hX1:∀b n,JT ι (c.i++d.i) (c.f++d.f) w b=AC n->o b=AC n:=λb n h=>by
       obtain⟨e,fr,C⟩:=ANK b n h;rcases JG h with⟨j,j1,T⟩|⟨j,j1,T|T⟩
       ·exact Na b n e fr (λhm=>K b hm j (b4 j j1) T) C (q6 j (b4 j j1) b T)
       ·exact Na b n e fr (λhm=>noOwn b hm j j1 T) C ((q5 j (F j (O j j1)) b T).imp_right .inl)
       ·exact Na b n e fr (λhm=>K b hm j (F j (O j j1)).lv T) C (q6 j (F j (O j j1)).lv b T)
      have hX2:∀id,id∈c.g++d.g->DK (ι id).fz w->∀b n,(ι id).fz b=AC n->o b=AC n:=λid hid hz b n m=>by
       obtain⟨e,fr,C⟩:=hz b n m;have hl:=(F id (G id (C3 _ hid))).lv;exact Na b n e fr (λhm=>K b hm id hl ⟨n,m⟩) C (q6 id hl b ⟨n,m⟩)
      have hd':∀id,id∈c.i++d.i\/id∈c.g++d.g\/id∈c.f++d.f->∀x,σ.H.hdr id=AC x->BI P ι id w x:=λid _ x hx=>hall.hd id x hx
      have U:∀id,id∈c.g++d.g\/id∈c.f++d.f->∀k v,Lv σ.H id->σ.H.cell id k=AC v->Cl D ι id w k v:=λid _ k v hl hv=>hall.ce id k v hl hv
      have hRR:=XF hX1 hX2 hd' U S.rs vs l d hres (λ_ h=>C3 _ h) (λ_ h=>C3 _ h) (λ_ h=>C3 _ h) hp2 (LR.of_AR r2);have hRt:S.rb=AD->UB P w o r S.root S.re c.x (Ca ι c.g):=λhrb=>by
       rcases A with⟨m,id,I,rfl,hg,hob,hcr⟩|⟨m,_⟩
       ·have hio:=Q id (by simp);have C:=hall.hd id _ (St.hdr_of hg);have hh2:=C;obtain⟨arr,el,fr,e1,e2,e3,⟨e4,e5⟩,e6⟩:=hh2;have e3:I.length<=(ι id).room:=e3;have V:((arr.toList.drop (ι id).base).take I.length).length=I.length:=by
         simp only[Bw,CC,Array.length_toList];omega
        have hcell:∀k,k<I.length->∃u,arr.toList[(ι id).base+k]?=AC u/\∃v,I[k]?=AC v/\VR D ι v u:=by
         intro k M;obtain⟨_,u,W,hvu⟩:=hall.ce id k I[k] (St.lv_of hg) (by rw[St.cell_of hg];exact B4 M);simp only[C0,e1,Df,CI,BR]at W;exact⟨u,by rw[Bf];exact W,I[k],B4 M,hvu⟩
        have hlr0:LR D ι I ((arr.toList.drop (ι id).base).take I.length):=by
         refine LR.of_AR ⟨by simpa using V.symm,λi a b ha m=> ?_⟩;simp only[List.getElem?_toArray]at ha m;rw[CB]at m
         split at m
         ·rename_i hi;obtain⟨u,W,v,hv',hvu⟩:=hcell i hi;rw[CA,W]at m;rw[hv']at ha;cases ha;cases m;exact hvu
         ·cases m
        obtain⟨u1,u2,W,k1,k2⟩:=XE hX1 hX2 hd' U S.root I _ c hob (λ_ h=>Du _ h) (λ_ h=>Du _ h) (λ_ h=>Du _ h) hp1 hlr0;rw[hcr]at k2;cases k2;rw[List.append_nil]at W;refine⟨u1,?_,λk u M=> ?_,k1⟩
        ·rw[<-W,V];exact BI.as (ι0:=λ_=>r) C hio.symm
        ·rw[<-hio];rw[<-W,CB]at M
         split at M
         ·rw[CA,Bf]at M;simp only[C0,e1,Df,CI,BR];exact M
         ·cases M
       ·rw[hrb]at m;cases m
      have hN:(Iw S.rb r++(Ca ι c.g++Ca ι d.g)).Nodup:=by
       rw[B];exact NB hnd λi j hi R hij b m=>(J i j hi (F j (G j R)).lv hij b m).1
      have L:∀b,b∈Ca ι c.g++Ca ι d.g->w0.heap.size<=b\/b∈Iw S.rb r++own:=λb m=>by
       rw[<-DQ]at m;obtain⟨id,N,p⟩:=GL.1 m;exact q5 id (F id (G id (C3 _ N))) b p
      have hnro:∀b,b∈Ca ι c.g++Ca ι d.g->b∉Iw S.rb r:=λb m hb'=>(I0.1 hN).2.2 b hb' b m rfl
      refine⟨l,o,Ca ι c.g,Ca ι d.g,rfl,λb n h=> ?_,λb n h=> ?_,λb n h=> ?_,hN,λb m=>by simp only[o,Ae m],λb m=> ?_,hRt,λhrb=> ?_,hRR,q1,q2,q3,λb m t=>q4 b m t⟩
      ·obtain⟨N,p,e,fr,h3⟩:=fz1 b n h;refine Na b n e fr (λhm=> ?_) h3 (.inr (.inr ⟨n,h⟩));rcases CH.1 hm with hm|hm
       ·exact p (Du _ hm)
       ·exact(L b hm).elim (λh=>by omega) p
      ·simp only[o]at h
       split at h
       ·cases h
       ·split at h
        ·exact(fz1 b n h).2.2
        ·split at h
         ·rename_i c' e fr C;cases h;exact⟨e,fr,C⟩
         ·cases h
      ·simp only[o]at h
       split at h
       ·cases h
       ·rename_i t
        split at h
        ·exact .inl h
        ·rename_i q;by_cases N:b<w0.heap.size
         ·refine .inr (.inr ?_);have:b∈Iw S.rb r++own:=AJg λp=>q ⟨N,p⟩
          exact(CH.1 this).resolve_left λp=>t (Du _ p)
         ·exact .inr (.inl (by omega))
      ·rcases L b m with h|h
       ·exact .inr h
       ·exact .inl ((CH.1 h).resolve_left (hnro b m))
      ·rcases A with⟨m,_⟩|⟨_,_,p⟩
       ·rw[hrb]at m;cases m
       ·rw[p];rfl
     cases e with
     |normal=>exact key
     |ret=>exact key
     |_=>cases he
    ·cases h
   ·cases h
  ·cases h
 ·cases h
omit hE in
theorem MatP.hall{w:AN}{fz:AB->AP (Aa AJ)}{own:AE AB}{D:AB->Prop}{ι ι':AB->Reg}{σ σ':St}(m:MatP P w fz own D ι σ σ' ι')(h:HAll P D ι σ.H w)(z:∀id,D id->id<σ.next)(q:∀id,¬Wr σ.H id)(g:∀id,Lv σ.H id->∀b,b∈own->¬(ι id).Own b/\¬(ι id).Fz b)(r:∀b,b∈own->fz b=AF):HAll P (λi=>D i\/σ.rng σ' i) ι' σ'.H w:=by
 have d:∀id,¬σ.rng σ' id->σ'.H.hdr id=σ.H.hdr id:=λid e=>by simp only[St.H,m.a.old id e]
 refine⟨λid x f=> ?_,λid k v A f=> ?_,λi j B C s b t=> ?_⟩
 ·by_cases e:σ.rng σ' id
  ·obtain⟨o,g1,u,g3⟩:=m.new id e;rw[St.hdr_of g1]at f;cases f;exact u
  ·rw[d id e]at f;exact(h.hd id x f).as (m.io id e)
 ·by_cases e:σ.rng σ' id
  ·obtain⟨o,g1,u,g3⟩:=m.new id e;simp only[St.H,g1]at f;exact g3 k v f
  ·have E:σ'.H.cell id k=σ.H.cell id k:=by simp only[St.H,m.a.old id e]
   rw[E]at f;exact(h.ce id k v (A.of_hdr (d id e)) f).into (m.io id e) (λ_=>.inl) λi l=>m.io i λe=>by have:=z i l;have:=e.1;omega
 ·by_cases l:σ.rng σ' i
  ·have n:=m.own i l b t;by_cases p:σ.rng σ' j
   ·refine⟨m.dist i j l p s b t,λ⟨c,F⟩=> ?_⟩;have y:=m.fz j p b c F;rw[r b n]at y;cases y
   ·rw[m.io j p];exact g j (C.of_hdr (d j p)) b n
  ·exact Aq (B.of_hdr (d i l)) (q i)
theorem AEU(hne:∀p,p∈E.gl->p.2≠[]){sh:Fv}{S:OSpec}{f:BT}{fn:Dq}(hfn:P.funcs[f]?=AC fn)(n:fn.body.isSome=AD)(hnt:S.ts.length+1<=fn.ntmps):Xu P E.gl f (wK S (yW P E sh fn S)):=by
 obtain⟨body,n⟩:=Wy.1 n;intro fz w r d j args x y hz hgl hN s V L W M C;have hN:(Iw S.rb r++(d++j)).Nodup:=hN;have s:∀b,b∈Iw S.rb r++(d++j)->fz b=none:=s;have V:∀p,p∈E.gl->p.1∉Iw S.rb r++(d++j):=V;have L:S.rb=AD->UB P w fz r S.root S.re x d:=L
 have W:S.rb=AK->d=[]:=W;have M:UC P w fz S.ts y args j:=M;have C:(yW P E sh fn S x y).isSome=true:=C;obtain⟨z,hy⟩:=Wy.1 C;have hg:(wK S (yW P E sh fn S)).g x y=z:=by show(yW P E sh fn S x y).getD _=z;rw[hy];rfl
 rw[hg];have X:=I0.1 hN;have Y:=I0.1 X.2.1;have hwf0:=YT hE [];have Z:=QJ (P:=P) hne [] hgl;obtain⟨J,rid,σ1,ι1,he,hm1,hLr,hrid⟩:∃(J:AE AJ) (rid:AE AB) (σ1:St) (ι1:AB->Reg),wL E S x=(J,rid,σ1)/\MatP P w fz (d++Iw S.rb r) (λid=>id<E.G) (EX w) (Bj E) σ1 ι1/\
   LR (λi=>i<E.G\/(Bj E).rng σ1 i) ι1 J (kq S.rb r)/\(∀k,k∈rid->ι1 k=r/\(Bj E).rng σ1 k):=by
  cases u:S.rb
  ·refine⟨[],[],Bj E,EX w,by simp[wL,u],?_,by simp only[kq,BZ];exact .nil,λk h=>by cases h⟩;rw[W u];exact .refl
  ·obtain⟨us,r1,r2,r3⟩:=L u;have hD0:∀(σ':St) id,(Bj E).rng σ' id->¬id<E.G:=λσ' id o N=>by have:E.G<=id:=o.1;omega
   obtain⟨ι1,O,k2,k3⟩:=XC hz S.root x us d (λid=>id<E.G) (EX w) (Bj E) r3 Y.1 (hD0 _);have T:r.own=true:=by obtain⟨_,_,_,_,_,_,⟨h,_⟩,_⟩:=r1;exact h
   have hfz:∀b c,r.fz b=AC c->fz b=AC c:=λb c h=>by
    obtain⟨_,_,_,_,_,_,⟨_,h'⟩,_⟩:=r1;exact Aq ⟨c,h⟩ (h' b)
   generalize hm:CQ S.root x (Bj E)=m at O k2 k3;have hle:=O.a.le;have B:∀id,id<E.G\/(Bj E).rng m.2 id->id≠m.2.next:=λid hid e=>by
    rcases hid with hid|hid
    ·have hle:E.G<=m.2.next:=hle;omega
    ·have:=hid.2;omega
   have one:MatP P w fz (bif r.own then [r.blk]else []) (λi=>i<E.G\/(Bj E).rng m.2 i) ι1 m.2 (m.2.new (.row m.1 S.re AK)) (FR ι1 m.2.next r):=by
    refine .one (by simpa only[AO.hd,k2]using r1) (λk v K=> ?_) hfz;have K:m.1[k]?=AC v:=K;have N:k<us.length:=by
     rcases Cf k us.length with h|h
     ·exact h
     ·rw[DA (by omega)]at K;cases K
    refine⟨by rw[Am];exact T,us[k],by rw[Am];exact r2 k _ (B4 N),?_⟩;exact(k3 k v _ K (B4 N)).mono (λ_ h=>h) λi hi=>FS _ _ (B i hi)
   rw[T,Ag]at one;have all:=O.trans (hD0 _) one λb n Q=>by
    have A:b∈Iw S.rb r:=by rw[u];exact Q
    exact X.2.2 b A b (Du _ n) rfl
   have hin:(Bj E).rng (m.2.new (.row m.1 S.re AK)) m.2.next:=⟨hle,by simp[St.new]⟩
   refine⟨_,_,_,_,by simp only[wL,u,Ag,hm];rfl,all,?_,λk K=> ?_⟩
   ·have:=VR.ptr (D:=λi=>i<E.G\/(Bj E).rng (m.2.new (.row m.1 S.re AK)) i) (ι:=FR ι1 m.2.next r) m.2.next 0 (.inr hin);rw[Am,FK]at this;exact .cons this .nil
   ·rw[Cn]at K;subst K;exact⟨Am ..,hin⟩
 have hle1:E.G<=σ1.next:=hm1.a.le;have B:∀id,σ1.rng (JC S.ts y σ1).2 id->¬(id<E.G\/(Bj E).rng σ1 id):=λid o hid=>by
  have:=o.1;rcases hid with hid|hid
  ·omega
  ·have:=hid.2;omega
 obtain⟨ι2,O,k2⟩:=XD hz S.ts y args j _ ι1 σ1 M Y.2.1 B;generalize hm:JC S.ts y σ1=m at O k2 B;have hle2:=O.a.le;have all:=hm1.trans (λid o (N:id<E.G)=>by have:E.G<=id:=o.1;omega) O λb n Q=>by
  rcases CH.1 n with n|n
  ·exact Y.2.2 b n b Q rfl
  ·exact X.2.2 b n b (C3 _ Q) rfl
 have F:∀b,b∈(d++Iw S.rb r)++j->b∈Iw S.rb r++(d++j):=λb n=>by
  simp only[CH]at n⊢;rcases n with(n|n)|n
  ·exact .inr (.inl n)
  ·exact .inl n
  ·exact .inr (.inr n)
 have U:∀id,¬Wr (Bj E).H id:=λid ⟨y,hy,hw⟩=>by
  obtain⟨p,_,_,_,rfl⟩:=Iy (E:=E) [] hy;cases hw
 have R:∀id b,(EX w id).Own b->b=id:=λid b h=>h.2.symm
 have hHall:HAll P (λi=>i<E.G\/(Bj E).rng m.2 i) ι2 m.2.H w:=MatP.hall all Z (λid h=>h) U (λid hl b n=>⟨λho=>by
  obtain⟨x0,hx0⟩:=hl;obtain⟨p,A,q,_⟩:=Iy (E:=E) [] hx0;have:=R id b ho;exact V p A (by rw[q,<-this];exact F b n),Kl _ _ _ _ b⟩) λb n=>s b (F b n)
 have hlen:(EI S.ri J m.1).length=(EI S.ri (kq S.rb r) args).length:=by
  simp only[EI,BA,Bw,CC,hLr.len,k2.len]
 have har:AR (λi=>i<E.G\/(Bj E).rng m.2 i) ι2 (EI S.ri J m.1).toArray (EI S.ri (kq S.rb r) args).toArray:=by
  have A:LR (λi=>i<E.G\/(Bj E).rng m.2 i) ι2 J (kq S.rb r):=
   LR.mono (λi hi=>hi.imp_right λh=>⟨h.1,by have:=h.2;omega⟩) (λi hi=>O.io i λo=>B i o hi) hLr
  have q:LR (λi=>i<E.G\/(Bj E).rng m.2 i) ι2 m.1 args:=LR.mono (λi hi=>by
   rcases hi with(hi|hi)|hi
   ·exact .inl hi
   ·exact .inr ⟨hi.1,by have:=hi.2;omega⟩
   ·exact .inr ⟨(by have:=hi.1;have:E.G<=i:=by omega
                    exact this),hi.2⟩) (λ_ _=>rfl) k2
  exact(LR.append (LR.take S.ri q) (LR.append A (LR.drop S.ri q))).AR
 have hnt2:(EI S.ri J m.1).length<=fn.ntmps:=by
  have A:(kq S.rb r).length<=1:=by unfold kq;cases S.rb<;>simp
  have q:args.length=S.ts.length:=by
   have:∀(ts:AE OT) (y:DX ts) (vs:AE AJ) (own:AE AB),UC P w fz ts y vs own->vs.length=ts.length:=λts=>by
    induction ts with
    |nil=>intro y vs own ⟨h,_⟩;rw[h];rfl
    |cons t ts ih=>intro y vs own ⟨v,rest,o1,o2,h,_,_,q⟩;rw[h,B7,B7,ih _ _ _ q]
   exact this _ _ _ _ M
  rw[hlen];simp only[EI,BA,Bw,CC,q];omega
 have has:Hl P E fn.ntmps (rid.map λk=>(k,r)) w (λb=>b∈Iw S.rb r++(d++j)) (λb=>∃c,fz b=AC c) (F1 0 (EI S.ri J m.1) .lf) m.2 { tmps:=(EI S.ri (kq S.rb r) args).toArray++PA (fn.ntmps-(EI S.ri (kq S.rb r) args).toArray.size) undef,defers:=[]} w:=by
  refine⟨λi=>i<E.G\/(Bj E).rng m.2 i,ι2,all.a.wf hwf0,?_,?_,MP har hnt2,hHall,rfl,Ak _,rfl,rfl,λ_ _ _=>rfl,λid hw b ho=> ?_,λid hl b hf=> ?_,λp hp=> ?_⟩
  ·intro g hg;have:ι2 g=EX w g:=all.io g λo=>by have:E.G<=g:=o.1;omega
   rw[this];exact⟨.inl hg,rfl,rfl,Rp hgl⟩
  ·intro id hid;rcases hid with hid|hid
   ·omega
   ·exact hid.2
  ·by_cases o:(Bj E).rng m.2 id
   ·exact .inr (F b (all.own id o b ho))
   ·exact Aq (hw.of_hdr (by simp only[St.H,all.a.old id o])) (U id)
  ·by_cases o:(Bj E).rng m.2 id
   ·obtain⟨c,hc⟩:=hf;exact .inr (.inr ⟨c,all.fz id o b c hc⟩)
   ·rw[all.io id o]at hf;exact Aq hf (Kl _ _ _ _ b)
  ·obtain⟨k,K,rfl⟩:=Ju.1 hp;obtain⟨A,q⟩:=hrid k K;refine⟨.inr ⟨q.1,by have:=q.2;omega⟩,?_⟩;show ι2 k=r;rw[O.io k λo=>B k o (.inr q)];exact A
 have hrown:S.rb=AD->r.own=true:=λu=>by
  obtain⟨us,⟨_,_,_,_,_,_,⟨h,_⟩,_⟩,_⟩:=L u;exact h
 have hrun:zc P E rid sh (zG P E rid sh (RF E fn S rid) 1000 fn.ntmps 1000 AU) (RF E fn S rid) 1000 fn.ntmps 1000 (.run (GW fn) []) (F1 0 (EI S.ri J m.1) .lf) m.2=AC z:=by
  have:=hy;unfold yW AI3 at this;rw[he]at this;simp only[hm]at this;exact this
 have I:(rid.map λk=>(k,r)).map (·.1)=rid:=by rw[List.map_map];exact List.map_id' _
 have hat:At P E fn.ntmps (rid.map λk=>(k,r)) (QOO P fn S r (d++j) z fz) (λ_ b=>b∈Iw S.rb r++(d++j)) (λ_ b=>∃c,fz b=AC c) (.run (GW fn) []) (F1 0 (EI S.ri J m.1) .lf) m.2:=by
  have hfin:=rE hE (nt:=fn.ntmps) (r:=r) (own:=d++j) (rid:=rid) (fz0:=fz) (fn:=fn) (S:=S) (z:=z) hrown;refine Ia hE (pin:=rid.map λk=>(k,r)) (rec:=zG P E rid sh (RF E fn S rid) 1000 fn.ntmps 1000 AU) (fin:=RF E fn S rid) (y:=z) hfin (λb ks l objs hh=> ?_) 1000 _ _ _ (by rw[I];exact hrun)
  exact O3 hE (pin:=rid.map λk=>(k,r)) hfin AU b ks l objs (by rw[I];exact hh)
 have hbody:body=GW fn:=by simp only[GW,n]
 have hwp:=hat w _ w has;refine AAT hfn n (wp_mono (by rw[hbody];exact hwp) ?_);intro e a w' hq;cases e with
 |normal=>obtain⟨A,v,q,h3⟩:=hq;exact⟨A,v,q,h3 hz s⟩
 |ret=>obtain⟨A,v,q,h3⟩:=hq;exact⟨A,v,q,h3 hz s⟩
 |panic ch=>obtain⟨A,h3⟩:=hq;exact⟨A,h3 hz s⟩
 |outgrown=>exact hq hz s
 |exit id=>exact hq
 |goto l=>exact hq
omit hE in
theorem Xu.nice{gl:AE (AB×AE AJ)}{f:BT}{S:OSpec}{g:S.root.Den->DX S.ts->AP (S.root.Den×DX S.rs)}(h:Xu P gl f (wK S g)){pre:S.root.Den->DX S.ts->AH}{n:S.root.Den->DX S.ts->S.root.Den×DX S.rs}(o:∀x y,pre x y=AD->g x y=AC (n x y)):Xu P gl f (AI2 S pre n):=by
 intro fz w r a b args x y p d hN i j k l m c;have e:=o x y c;have:=h fz w r a b args x y p d hN i j k l m (by show(g x y).isSome=AD;rw[e];rfl);have q:(wK S g).g x y=n x y:=by show(g x y).getD _=n x y;rw[e];rfl
 rw[q]at this;exact this
def rF:AE (AB×OSpec)->BT->AP OSpec
 |[],_=>AF
 |(g,S)::r,f=>bif Af g f then AC S else rF r f
def QL(P:Ao)(gl:AE (AB×AE AJ)):AE (AB×OSpec)->Prop
 |[]=>True
 |(g,S)::r=>Xu P gl g S/\QL P gl r
omit hE in
theorem Yd{gl:AE (AB×AE AJ)}:∀{l:AE (AB×OSpec)},QL P gl l->∀f S,rF l f=AC S->Xu P gl f S
 |[],_,f,S,h=>by cases h
 |(g,T)::r,b,f,S,h=>by
  simp only[rF]at h;cases a:Af g f
  ·rw[a]at h;exact Yd b.2 f S h
  ·rw[a]at h;have:=Br a;subst this;cases h;exact b.1
end
end Go.Eng
end
end
end
section
noncomputable section
noncomputable section
namespace Go.Eng
open Go
def O5(E:Env)(fn:Dq)(t:Ty)(e:AQ)(rs:AE Ty)(a:Dx)(s:Tr AJ)(σ:St):AP (AE t.Den×AM rs):=
 match(match a with| .normal=>AD| .ret=>AD|_=>AK)with
 |true=>match Fj E s σ fn.results.toList with
  |some (vs,_)=>match QO σ rs vs with
   |some c=>match σ.heap.get E.G with
    |some (.vec b d f)=>if h:b=t then(bif Af f e then gd c.p (AC (h▸d,c.x))else AF)else AF
    |_=>AF
   |none=>AF
  |none=>AF
 |false=>AF
def fWN(P:Ao)(E:Env)(sh:Fv)(fn:Dq)(t:Ty)(e:AQ)(ri:AB)(ts rs:AE Ty)(N:AB)(a:AE t.Den)(y:AM ts):AP (AE t.Den×AM rs):=
 match Gm (IK ts y) ((Bj E).new (.vec t a e))with
 |(vs,σ)=>zc P E [E.G] sh (zG P E [E.G] sh (O5 E fn t e rs) 1000 fn.ntmps 1000 N) (O5 E fn t e rs) 1000 fn.ntmps 1000 (.run (GW fn) []) (F1 0 (EI ri [dt E.G] (Ry ts vs)) .lf) σ
def fW(P:Ao)(E:Env)(sh:Fv)(fn:Dq)(t:Ty)(e:AQ)(ri:AB)(ts rs:AE Ty)(a:AE t.Den)(y:AM ts):AP (AE t.Den×AM rs):=fWN P E sh fn t e ri ts rs AU a y
def rHW(P:Ao)(E:Env)(sh:Fv)(fn:Dq)(t:Ty)(e:AQ)(rs:AE Ty)(n k:AB)(l:AE (AB×AJ))(objs:AE AO):AP (AE t.Den×AM rs):=q9 (zG P E [E.G] sh (O5 E fn t e rs) 1000 fn.ntmps 1000 n) (hdN fn k) l objs
def ofW(t:Ty)(e:AQ)(ri:AB)(ts rs:AE Ty)(d:AM rs)(g:AE t.Den->AM ts->AP (AE t.Den×AM rs)):VSpec:=⟨t,e,ri,ts,rs,λx y=>(g x y).isSome,λx y=>(g x y).getD ([],d)⟩
section
variable {P:Ao} {E:Env} (hE:E.OK P)
def QW(P:Ao)(fn:Dq)(t:Ty)(e:AQ)(rs:AE Ty)(r:Reg)(z:AE t.Den×AM rs)(w0:AN):Dx->Act->AN->Prop:=
 bodyPost P fn λev w'=>∃vs,ev=.returned (Er vs)/\CN (λ_=>AF) rs z.2 vs/\BI P (λ_=>r) 0 w' (.vec t z.1 e)/\w0.heap.size<=w'.heap.size/\w'.os=w0.os/\w'.output=w0.output/\∀b,b<w0.heap.size->¬r.Own b->w'.heap[b]?=w0.heap[b]?
include hE
theorem rG{nt:AB}{r:Reg}{fn:Dq}{t:Ty}{e:AQ}{rs:AE Ty}(j:rs.all Ty.flat=AD){z:AE t.Den×AM rs}{z0:AN->AB->Prop}(m:Dx)(s:Tr AJ)(σ:St)(h:O5 E fn t e rs m s σ=AC z):
  At P E nt [(E.G,r)] (QW P fn t e rs r z) (λ_ b=>r.Own b) z0 (.out m []) s σ:=by
 unfold O5 at h
 split at h
 ·rename_i F
  split at h
  ·rename_i vs φ H
   split at h
   ·rename_i c I
    split at h
    ·rename_i o d p J;by_cases C:o=t
     ·subst C;rw[dif_pos rfl]at h;cases f:Af p e
      ·rw[f]at h;cases h
      rw[f]at h;have f:=Br f;subst f;obtain⟨q,K⟩:=Mb h;cases K;intro w0 a w L;have key:a.defers=[]/\∃v,(results fn a.tmps).run P w=.ok v w/\(∃us,Ending.returned v=.returned (Er us)/\CN (λ_=>AF) rs c.x us/\BI P (λ_=>r) 0 w (.vec o d p)/\w0.heap.size<=w.heap.size/\w.os=w0.os/\w.output=w0.output/\∀b,b<w0.heap.size->¬r.Own b->w.heap[b]?=w0.heap[b]?):=by
       obtain⟨D,ι,M,Z,hD,y,hall,A,q1,N,O,Q,q5,q6,R⟩:=L;obtain⟨l,S,T⟩:=Ka hE H y (hall.on _);have B:=Np (is:=c.i) (gs:=c.g) (P:=P) (w:=w) (λk _ x U=>hall.hd k x U) (λk _ n u V W=>hall.ce k n u V W) rs vs l c I (λ_ h=>h) (λ_ h=>h) q (LR.of_AR T);have X:=(R (E.G,r) (Cn.2 rfl)).2
       have Y:BI P ι E.G w (.vec o d p):=hall.hd E.G _ (St.hdr_of J);exact⟨A,_,S,l,rfl,B.flat j,Y.as (ι0:=λ_=>r) (c:=0) X.symm,q1,N,O,Q⟩
      cases m with
      |normal=>exact key
      |ret=>exact key
      |_=>cases F
     ·rw[dif_neg C]at h;cases h
    ·cases h
   ·cases h
  ·cases h
 ·cases h
theorem AL9(M:∀p,p∈E.gl->p.2≠[]){sh:Fv}{t:Ty}{e:AQ}{ri:AB}{ts rs:AE Ty}{d:AM rs}{f:BT}{fn:Dq}(hfl:rs.all Ty.flat=AD)(hfn:P.funcs[f]?=AC fn)(m:fn.body.isSome=AD)(hnt:ts.length+1<=fn.ntmps):Zv P E.gl f (ofW t e ri ts rs d (fW P E sh fn t e ri ts rs)):=by
 obtain⟨body,m⟩:=Wy.1 m;intro fz r w j args y hfz Y N hno hfo O s;have N:BI P (λ_=>r) 0 w (.vec t j e):=N;have O:CN fz ts y args:=O;have s:(fW P E sh fn t e ri ts rs j y).isSome=true:=s;obtain⟨z,D⟩:=Wy.1 s;have Z:(ofW t e ri ts rs d (fW P E sh fn t e ri ts rs)).g j y=z:=by show(fW P E sh fn t e ri ts rs j y).getD _=z;rw[D];rfl
 rw[Z];have hwf0:=YT hE [];have Q:=QJ (P:=P) M [] Y;have hN:(Bj E).next=E.G:=rfl;have all:MatP P w r.fz (bif r.own then [r.blk]else []) (λid=>id<E.G) (EX w) (Bj E) ((Bj E).new (.vec t j e)) (FR (EX w) (Bj E).next r):=.one N (λk v hk=>by cases hk) λ_ _ h=>h
 have I:∀b,b∈(bif r.own then [r.blk]else []:AE AB)->r.Own b:=λb m=>by
  cases n:r.own
  ·rw[n]at m;cases m
  ·rw[n,Ag,Cn]at m;exact⟨n,m.symm⟩
 have J:∀id,¬Wr (Bj E).H id:=λid ⟨y,D,R⟩=>by
  obtain⟨p,_,_,_,rfl⟩:=Iy (E:=E) [] D;cases R
 have x:∀id,(Bj E).rng ((Bj E).new (.vec t j e)) id↔id=E.G:=λid=>by
  simp only[St.rng,St.new,hN];omega
 have S:HAll P (λi=>i<E.G\/(Bj E).rng ((Bj E).new (.vec t j e)) i) (FR (EX w) (Bj E).next r) ((Bj E).new (.vec t j e)).H w:=MatP.hall all Q (λid h=>h) J (λid hl b m=>⟨λn=>by
  obtain⟨x0,hx0⟩:=hl;obtain⟨p,h1,h2,_⟩:=Iy (E:=E) [] hx0;have h3:b=id:=n.2.symm;exact hno p h1 (by rw[h2,<-h3];exact I b m),Kl _ _ _ _ b⟩) λb m=>by
   have:=N.self (I b m);cases hz:r.fz b with
   |none=>rfl
   |some c=>exact Aq ⟨c,hz⟩ this
 obtain⟨q,l,c,hsv⟩:∃q l c,r.sv=.slice q l c:=by
  obtain⟨_,_,h⟩:=N;rcases h with⟨_,_,q,h⟩|⟨_,_,cap,c,fr,h,_⟩
  ·exact⟨_,_,_,h⟩
  ·exact⟨_,_,_,h⟩
 have T:FR (EX w) (Bj E).next r E.G=r:=Am ..;obtain⟨us,u1,u2,u3⟩:=Ps ts y args O;rcases hm:Gm (IK ts y) ((Bj E).new (.vec t j e))with⟨vs,σ1⟩
 obtain⟨ι1,F,m2,m3⟩:=GQ (IK ts y) us (λi=>i<E.G\/(Bj E).rng ((Bj E).new (.vec t j e)) i) (FR (EX w) (Bj E).next r) ((Bj E).new (.vec t j e)) σ1 vs hm u1 u2;have hlr:=u3 vs _ ι1 m2 m3;have hlen:(Ry ts vs).length=ts.length:=by
  have:∀(ts:AE Ty) (vs:AE AJ),(Ry ts vs).length=ts.length:=λts=>by
   induction ts with
   |nil=>intro vs;rfl
   |cons t ts ih=>intro vs;simp[Ry,ih]
  exact this _ _
 have hle1:E.G+1<=σ1.next:=F.le;have K:∀id,id<E.G\/(Bj E).rng ((Bj E).new (.vec t j e)) id->id<E.G+1:=λid hid=>by
  rcases hid with hid|hid
  ·omega
  ·exact hid.2
 have L:∀id,Wr ((Bj E).new (.vec t j e)).H id->id=E.G:=λid R=>by
  by_cases o:(Bj E).rng ((Bj E).new (.vec t j e)) id
  ·exact(x id).1 o
  ·obtain⟨y,D,U⟩:=R;simp only[St.H,all.a.old id o]at D;exact Aq ⟨y,D,U⟩ (J id)
 have A:∀id,id≠E.G->FR (EX w) (Bj E).next r id=EX w id:=λid M=>FS _ _ (by rw[hN];exact M)
 have V:HAll P (λi=>(i<E.G\/(Bj E).rng ((Bj E).new (.vec t j e)) i)\/((Bj E).new (.vec t j e)).rng σ1 i) ι1 σ1.H w:=F.hall (P:=P) S K hfz λid R b n cc hc=>by
  rw[L id R,T]at n;exact hfo b cc hc n
 have B:ι1 E.G=r:=by
  rw[F.io E.G λo=>by have h1:E.G+1<=E.G:=o.1;omega];exact T
 have hiog:∀g,g<E.G->ι1 g=EX w g:=λg Z=>by
  rw[F.io g λo=>by have h1:E.G+1<=g:=o.1;omega];exact A g (by omega)
 have har:AR (λi=>(i<E.G\/(Bj E).rng ((Bj E).new (.vec t j e)) i)\/((Bj E).new (.vec t j e)).rng σ1 i) ι1 (EI ri [dt E.G] (Ry ts vs)).toArray (EI ri [r.sv] args).toArray:=by
  have h1:LR (λi=>(i<E.G\/(Bj E).rng ((Bj E).new (.vec t j e)) i)\/((Bj E).new (.vec t j e)).rng σ1 i) ι1 [dt E.G] [r.sv]:=by
   refine .cons ?_ .nil;rw[hsv];exact .dat _ _ _ _ (.inl (.inr ((x _).2 rfl))) (by rw[B];exact hsv)
  exact(LR.append (LR.take ri hlr) (LR.append h1 (LR.drop ri hlr))).AR
 have hnt2:(EI ri [dt E.G] (Ry ts vs)).length<=fn.ntmps:=by
  simp only[EI,BA,Bw,CC,List.length_singleton,hlen];omega
 have has:Hl P E fn.ntmps [(E.G,r)] w (λb=>r.Own b) (λb=>(∃c,r.fz b=AC c)\/∃c,fz b=AC c) (F1 0 (EI ri [dt E.G] (Ry ts vs)) .lf) σ1 { tmps:=(EI ri [r.sv] args).toArray++PA (fn.ntmps-(EI ri [r.sv] args).toArray.size) undef,defers:=[]} w:=by
  refine⟨_,ι1,F.wf (all.a.wf hwf0),?_,?_,MP har hnt2,V,rfl,Ak _,rfl,rfl,λ_ _ _=>rfl,λid R b n=> ?_,λid hl b W=> ?_,λp hp=> ?_⟩
  ·intro g Z;rw[hiog g Z];exact⟨.inl (.inl Z),rfl,rfl,Rp Y⟩
  ·intro id hid;rcases hid with hid|hid
   ·have:=K id hid;omega
   ·exact hid.2
  ·by_cases o:((Bj E).new (.vec t j e)).rng σ1 id
   ·obtain⟨t,j,u,g1,g2,g3⟩:=F.new id o;rw[g3]at n;cases n.1
   ·obtain⟨y,D,U⟩:=R;simp only[St.H,F.old id o]at D;have hid:=L id ⟨y,D,U⟩;subst hid;rw[B]at n;exact .inr n
  ·by_cases o:((Bj E).new (.vec t j e)).rng σ1 id
   ·obtain⟨t,j,u,g1,g2,g3⟩:=F.new id o;rw[g3]at W;exact .inr (.inr (.inr W))
   ·rw[F.io id o]at W;by_cases hid:id=E.G
    ·subst hid;rw[T]at W;obtain⟨cc,hcc⟩:=W;exact .inr (.inr (.inl ⟨cc,hcc⟩))
    ·rw[A id hid]at W;exact Aq W (Kl _ _ _ _ b)
  ·rw[Cn]at hp;subst hp;exact⟨.inl (.inr ((x _).2 rfl)),B⟩
 have hrun:zc P E [E.G] sh (zG P E [E.G] sh (O5 E fn t e rs) 1000 fn.ntmps 1000 AU) (O5 E fn t e rs) 1000 fn.ntmps 1000 (.run (GW fn) []) (F1 0 (EI ri [dt E.G] (Ry ts vs)) .lf) σ1=AC z:=by
  have:=D;unfold fW fWN at this;rw[hm]at this;exact this
 have C:([(E.G,r)]:AE (AB×Reg)).map (·.1)=[E.G]:=by rw[PM,List.map_nil]
 have hat:At P E fn.ntmps [(E.G,r)] (QW P fn t e rs r z) (λ_ b=>r.Own b) (λ_ b=>(∃c,r.fz b=AC c)\/∃c,fz b=AC c) (.run (GW fn) []) (F1 0 (EI ri [dt E.G] (Ry ts vs)) .lf) σ1:=by
  have hfin:=rG hE (nt:=fn.ntmps) (r:=r) (fn:=fn) (t:=t) (e:=e) hfl (z:=z) (z0:=λ_ b=>(∃c,r.fz b=AC c)\/∃c,fz b=AC c);refine Ia hE (pin:=[(E.G,r)]) (rec:=zG P E [E.G] sh (O5 E fn t e rs) 1000 fn.ntmps 1000 AU) (fin:=O5 E fn t e rs) (y:=z) hfin (λb ks l objs N=> ?_) 1000 _ _ _ (by rw[C];exact hrun)
  exact O3 hE (pin:=[(E.G,r)]) hfin AU b ks l objs (by rw[C];exact N)
 have X:body=GW fn:=by simp only[GW,m]
 refine AAT hfn m ?_;rw[X];exact hat w _ w has
end
theorem Zv.nice{P:Ao}{gl:AE (AB×AE AJ)}{f:BT}{t:Ty}{e:AQ}{ri:AB}{ts rs:AE Ty}{d:AM rs}{g:AE t.Den->AM ts->AP (AE t.Den×AM rs)}(h:Zv P gl f (ofW t e ri ts rs d g)){pre:AE t.Den->AM ts->AH}{n:AE t.Den->AM ts->AE t.Den×AM rs}(o:∀x y,pre x y=AD->g x y=AC (n x y)):Zv P gl f ⟨t,e,ri,ts,rs,pre,n⟩:=by
 intro fz r w a args y c i p j k l b;have m:=o a y b;have:=h fz r w a args y c i p j k l (by show(g a y).isSome=AD;rw[m];rfl);have q:(ofW t e ri ts rs d g).g a y=n a y:=by show(g a y).getD _=n a y;rw[m];rfl
 rw[q]at this;exact this
def wM:AE (AB×VSpec)->BT->AP VSpec
 |[],_=>AF
 |p::a,f=>bif Af f p.1 then AC p.2 else wM a f
def Uc(P:Ao)(gl:AE (AB×AE AJ)):AE (AB×VSpec)->Prop
 |[]=>True
 |p::a=>Zv P gl p.1 p.2/\Uc P gl a
theorem iK{P:Ao}{gl:AE (AB×AE AJ)}:∀{l:AE (AB×VSpec)},Uc P gl l->∀f S,wM l f=AC S->Zv P gl f S
 |[],_,f,S,h=>by cases h
 |p::c,b,f,S,h=>by
  unfold wM at h;cases a:Af f p.1
  ·rw[a,BZ]at h;exact iK b.2 f S h
  ·rw[a,Ag]at h;cases h;rw[Br a];exact b.1
