/-
  The environment of the engine over the program. No condition.
-/
import Derived.Test.YtkgejlchafionaaGreatDoorTab
import Derived.Test.YtkgejlchafionaaGreatDoorEng9
import Derived.Laws.Externs
import Derived.Lib.MakeNoZero
import Derived.Laws.Entries
open Go renaming FuncId->BT,Value->AJ,callFunc->FO,run_callFunc_extern->MK
open Go.Extern.AbiNoEscape renaming same->AJV
open Go.Extern.BytealgCount renaming count->AJW
open Go.Extern.BytealgIndexByte renaming indexByte->AJX
open Go.Extern.BytealgMakeNoZero renaming makeNoZero->AJY
open Go.Extern.MathFloatBits renaming float64bits->AJZ,float64frombits->AJa
open Go.Extern.MathFloor renaming toIntegral->im
open List renaming all_eq_true->C8
open Nat renaming beq->Af
open Option renaming none->AF,some->AC
open _root_ renaming Array->Aa,List->AE,Option->AP,cond_false->BZ,cond_true->Ag
namespace Go.Proofs.YtkgejlchafionaaGreatDoor
open Tryz
open Go Go.Eng
set_option maxRecDepth 100000
def ANL:AE AJ:=[.int .u64 1,.int .u64 10,.int .u64 100,.int .u64 1000,.int .u64 10000,.int .u64 100000,.int .u64 1000000,.int .u64 10000000,.int .u64 100000000,.int .u64 1000000000,.int .u64 10000000000,.int .u64 100000000000,.int .u64 1000000000000,.int .u64 10000000000000,.int .u64 100000000000000,.int .u64 1000000000000000,.int .u64 10000000000000000,.int .u64 100000000000000000,.int .u64 1000000000000000000,.int .u64 10000000000000000000]
def IP:AE (Nat×AE AJ):=[(0,ANL),(5,[er false]),(6,[er false]),(3,[ai .i64])]
noncomputable def ABw(f:BT):AP (Aa AJ->Sem AJ):=
 bif Af f 270 then AC (im "math.archTrunc" .zero)else
 bif Af f 285 then AC (AJX)else
 bif Af f 259 then AC (AJW)else
 bif Af f 293 then AC (AJZ)else
 bif Af f 294 then AC (AJa)else
 AF
noncomputable def ABx(f:BT)(args:AE AJ):AP AJ:=
 bif Af f 226 then(match args with|[x]=>AC x|_=>AF)else
 match ABw f with
 |some e=>bif args.all (Au 8)then Tn prog (e args.toArray)else AF
 |none=>AF
noncomputable def ABy(f:BT):AP TypeId:=bif Af f 227 then AC 5 else AF
noncomputable def Hz(sum:BT->AE AJ->AP AJ)(spec:BT->AP PSpec):Eng.Env:=⟨Sx sb,10,AA6 fnT,ABx,sum,IP,spec,ABy,λ_=>AF,λ_=>AF,λ_=>AF,λ_=>AF,λ_=>[]⟩
theorem KM{a b:Nat}(h:Af a b=true):a=b:=Nat.eq_of_beq_eq_true h
theorem nr{f:BT}{e:Aa AJ->Sem AJ}(h:ABw f=AC e)(args:Aa AJ)(w:World):(FO f args).run prog w=((e args).run prog w).andThen λv w'=>.ok (.value v) w':=by
 unfold ABw at h;cases a:Af f 270
 ·rw[a,BZ]at h;cases b:Af f 285
  ·rw[b,BZ]at h;cases c:Af f 259
   ·rw[c,BZ]at h;cases d:Af f 293
    ·rw[d,BZ]at h;cases g:Af f 294
     ·rw[g]at h;cases h
     ·rw[g]at h;cases h;rw[KM g];exact MK func294 (by kernel_rfl) (by kernel_rfl) (by kernel_rfl) (by kernel_rfl) args w
    ·rw[d]at h;cases h;rw[KM d];exact MK func293 (by kernel_rfl) (by kernel_rfl) (by kernel_rfl) (by kernel_rfl) args w
   ·rw[c]at h;cases h;rw[KM c];exact MK func259 (by kernel_rfl) (by kernel_rfl) (by kernel_rfl) (by kernel_rfl) args w
  ·rw[b]at h;cases h;rw[KM b];exact MK func285 (by kernel_rfl) (by kernel_rfl) (by kernel_rfl) (by kernel_rfl) args w
 ·rw[a]at h;cases h;rw[KM a];exact MK func270 (by kernel_rfl) (by kernel_rfl) (by kernel_rfl) (by kernel_rfl) args w
theorem ns{f:BT}{args:AE AJ}{v:AJ}(h:ABx f args=AC v)(D:Nat->Prop)(ι:Nat->Reg)(a:Aa AJ)(w:World)(g:AR D ι args.toArray a):
  ∃v',VR D ι v v'/\(FO f a).run prog w=.ok (.value v') w:=by
 unfold ABx at h;cases b:Af f 226
 ·rw[b,BZ]at h
  split at h
  ·rename_i e i;cases c:args.all (Au 8)
   ·rw[c]at h;cases h
   ·rw[c,Ag]at h;have:=P0 c g;subst this;unfold Tn at h
    split at h
    ·rename_i u j;cases d:Au 8 u
     ·rw[d]at h;cases h
     ·rw[d]at h;cases h;refine⟨_,Bk 8 _ d,?_⟩;rw[nr i,S3 _ _ _ j w];rfl
    ·cases h
  ·cases h
 ·rw[b,Ag]at h
  split at h
  ·cases h;obtain⟨k,rfl,l⟩:=g.one;refine⟨k,l,?_⟩;rw[KM b,MK func226 (e:=AJV) (by kernel_rfl) (by kernel_rfl) (by kernel_rfl) (by kernel_rfl)];rfl
  ·cases h
theorem nu(f e:Nat)(h:ABy f=AC e)(n:Nat)(w:World)(c:n<=281474976710656):∃a:Aa AJ,(FO f #[.int .i64 n]).run prog w=.ok (.value (.slice (AC ⟨w.heap.size,0,AF⟩) n a.size)) (w.drew.drew.alloc (.cells a e))/\n<=a.size:=by
 unfold ABy at h;cases b:Af f 227
 ·rw[b]at h;cases h
 rw[b]at h;cases h;rw[KM b];obtain⟨a,b,d, -⟩:=Lib.run_makeNoZero (P:=prog) w Tryz.f227.params 156 5 (by kernel_rfl) n c;refine⟨a,?_,d⟩;rw[MK func227 (e:=AJY Tryz.f227.params #[156]) (by kernel_rfl) (by kernel_rfl) (by kernel_rfl) (by kernel_rfl),b]
 rfl
theorem AGA:∀p,p∈IP->p.1<10/\p.2.all glc=true:=by
 intro p a;have:(IP.all λp=>Nat.blt p.1 10&&p.2.all glc)=true:=by kernel_rfl
 have:=C8.1 this p a;rw[Bool.and_eq_true]at this;exact⟨Nat.le_of_ble_eq_true this.1,this.2⟩
theorem Al:∀p,p∈IP->p.2≠[]:=by
 intro p a h;have:(IP.all λp=> !p.2.isEmpty)=true:=by kernel_rfl
 have:=C8.1 this p a;rw[h]at this;cases this
theorem P2{sum:BT->AE AJ->AP AJ}{spec:BT->AP PSpec}(b:∀f a v,sum f a=AC v->Au 8 v=true/\a.all (Au 8)=true/\∀w,NP IP w->Calls prog f a.toArray w λe w'=>e=.returned v/\DU w w')(c:∀f S,spec f=AC S->Kh prog IP f S):(Hz sum spec).OK prog where
 T:=tK ABh
 fn:=tL ABg nQ
 ext:=λf a v h D ι d w g=>ns h D ι d w g
 sum:=b
 gl:=AGA
 mixed:=by kernel_rfl
 spec:=c
 mnz:=nu
 cmp:=λ_ _ h=>by cases h
 osp:=λ_ _ h=>by cases h
 vsp:=λ_ _ h=>by cases h
noncomputable def KN(_:BT)(_:AE AJ):AP AJ:=AF
noncomputable def Ja(_:BT):AP PSpec:=AF
theorem kb:(Hz KN Ja).OK prog:=P2 (λf a v h=>by cases h) (λf S h=>by cases h)
noncomputable def OQ(g:BT)(sum:BT->AE AJ->AP AJ)(f:BT)(a:AE AJ):AP AJ:=
 match a with
 |[]=>bif Af f g then AC (.bool true)else sum f []
 |x::b=>sum f (x::b)
theorem Jb{g:BT}{sum:BT->AE AJ->AP AJ}{spec:BT->AP PSpec}(h:(Hz sum spec).OK prog)(d:∀w,NP IP w->Calls prog g #[] w λe w'=>e=.returned (.bool true)/\DU w w'):(Hz (OQ g sum) spec).OK prog:=
 P2 (λf a v b=>by
  cases a with
  |nil=>
   simp only[OQ]at b;cases c:Af f g
   ·rw[c,BZ]at b;exact h.sum f [] v b
   ·rw[c,Ag]at b;cases b;rw[KM c];exact⟨rfl,rfl,d⟩
  |cons x i=>exact h.sum f (x::i) v b) h.spec
