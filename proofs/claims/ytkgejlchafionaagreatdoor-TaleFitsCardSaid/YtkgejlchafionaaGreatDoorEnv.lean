/-
  The environment of the engine over the program. No condition.
-/
import Derived.Test.YtkgejlchafionaaGreatDoorTab
import Derived.Test.YtkgejlchafionaaGreatDoorEng9
import Derived.Laws.Externs
import Derived.Lib.MakeNoZero
import Derived.Laws.Entries
namespace Go.Proofs.YtkgejlchafionaaGreatDoor
open Tryz
open Go Go.Eng
set_option maxRecDepth 100000
def Ep:List Value:=[.int .u64 1,.int .u64 10,.int .u64 100,.int .u64 1000,.int .u64 10000,.int .u64 100000,.int .u64 1000000,.int .u64 10000000,.int .u64 100000000,.int .u64 1000000000,.int .u64 10000000000,.int .u64 100000000000,.int .u64 1000000000000,.int .u64 10000000000000,.int .u64 100000000000000,.int .u64 1000000000000000,.int .u64 10000000000000000,.int .u64 100000000000000000,.int .u64 1000000000000000000,.int .u64 10000000000000000000]
def FP:List (Nat×List Value):=[(0,Ep),(5,[er false]),(6,[er false]),(3,[ai .i64])]
noncomputable def oQ (f:FuncId):Option (Array Value->Sem Value):=
 bif Nat.beq f 270 then some (Extern.MathFloor.toIntegral "math.archTrunc" .zero) else
 bif Nat.beq f 285 then some (Extern.BytealgIndexByte.indexByte) else
 bif Nat.beq f 259 then some (Extern.BytealgCount.count) else
 bif Nat.beq f 293 then some (Extern.MathFloatBits.float64bits) else
 bif Nat.beq f 294 then some (Extern.MathFloatBits.float64frombits) else
 none
noncomputable def oR (f:FuncId) (args:List Value):Option Value:=
 bif Nat.beq f 226 then(match args with|[x]=>some x|_=>none) else
 match oQ f with
 |some e=>bif args.all (AW 8) then Ny prog (e args.toArray) else none
 |none=>none
noncomputable def oS (f:FuncId):Option TypeId:=bif Nat.beq f 227 then some 5 else none
noncomputable def EE (sum:FuncId->List Value->Option Value) (spec:FuncId->Option PSpec):Eng.Env:=⟨Lt dC,10,nW fnT,oR,sum,FP,spec,oS,λ_=>none,λ_=>none,λ_=>none,λ_=>none⟩
theorem GT {a b:Nat} (h:Nat.beq a b=true):a=b:=Nat.eq_of_beq_eq_true h
theorem dK {f:FuncId} {e:Array Value->Sem Value} (h:oQ f=some e) (args:Array Value) (w:World):(callFunc f args).run prog w=((e args).run prog w).andThen λv w'=>.ok (.value v) w':=by
 unfold oQ at h;cases a:Nat.beq f 270
 ·rw[a,cond_false] at h;cases b:Nat.beq f 285
  ·rw[b,cond_false] at h;cases c:Nat.beq f 259
   ·rw[c,cond_false] at h;cases d:Nat.beq f 293
    ·rw[d,cond_false] at h;cases g:Nat.beq f 294
     ·rw[g] at h;cases h
     ·rw[g] at h;cases h;rw[GT g];exact run_callFunc_extern func294 (by kernel_rfl) (by kernel_rfl) (by kernel_rfl) (by kernel_rfl) args w
    ·rw[d] at h;cases h;rw[GT d];exact run_callFunc_extern func293 (by kernel_rfl) (by kernel_rfl) (by kernel_rfl) (by kernel_rfl) args w
   ·rw[c] at h;cases h;rw[GT c];exact run_callFunc_extern func259 (by kernel_rfl) (by kernel_rfl) (by kernel_rfl) (by kernel_rfl) args w
  ·rw[b] at h;cases h;rw[GT b];exact run_callFunc_extern func285 (by kernel_rfl) (by kernel_rfl) (by kernel_rfl) (by kernel_rfl) args w
 ·rw[a] at h;cases h;rw[GT a];exact run_callFunc_extern func270 (by kernel_rfl) (by kernel_rfl) (by kernel_rfl) (by kernel_rfl) args w
theorem dL {f:FuncId} {args:List Value} {v:Value} (h:oR f args=some v) (D:Nat->Prop) (ι:Nat->Reg) (a:Array Value) (w:World) (g:AR D ι args.toArray a):
  ∃v',VR D ι v v'/\(callFunc f a).run prog w=.ok (.value v') w:=by
 unfold oR at h;cases b:Nat.beq f 226
 ·rw[b,cond_false] at h
  split at h
  ·rename_i e i;cases c:args.all (AW 8)
   ·rw[c] at h;cases h
   ·rw[c,cond_true] at h;have:=K2 c g;subst this;unfold Ny at h
    split at h
    ·rename_i u j;cases d:AW 8 u
     ·rw[d] at h;cases h
     ·rw[d] at h;cases h;refine⟨_,Ar 8 _ d,?_⟩;rw[dK i,ND _ _ _ j w];rfl
    ·cases h
  ·cases h
 ·rw[b,cond_true] at h
  split at h
  ·cases h;obtain⟨k,rfl,l⟩:=g.one;refine⟨k,l,?_⟩;rw[GT b,run_callFunc_extern func226 (e:=Extern.AbiNoEscape.same) (by kernel_rfl) (by kernel_rfl) (by kernel_rfl) (by kernel_rfl)];rfl
  ·cases h
theorem dM (f e:Nat) (h:oS f=some e) (n:Nat) (w:World) (c:n<=281474976710656):∃a:Array Value,(callFunc f #[.int .i64 n]).run prog w=.ok (.value (.slice (some ⟨w.heap.size,0,none⟩) n a.size)) (w.drew.drew.alloc (.cells a e))/\n<=a.size:=by
 unfold oS at h;cases b:Nat.beq f 227
 ·rw[b] at h;cases h
 rw[b] at h;cases h;rw[GT b];obtain⟨a,b,d, -⟩:=Lib.run_makeNoZero (P:=prog) w Tryz.f227.params 156 5 (by kernel_rfl) n c;refine⟨a,?_,d⟩;rw[run_callFunc_extern func227 (e:=Extern.BytealgMakeNoZero.makeNoZero Tryz.f227.params #[156]) (by kernel_rfl) (by kernel_rfl) (by kernel_rfl) (by kernel_rfl),b]
 rfl
theorem tZ:∀p,p∈FP->p.1<10/\p.2.all rV=true:=by
 intro p a;have:(FP.all λp=>Nat.blt p.1 10&&p.2.all rV)=true:=by kernel_rfl
 have:=List.all_eq_true.1 this p a;rw[Bool.and_eq_true] at this;exact⟨Nat.le_of_ble_eq_true this.1,this.2⟩
theorem AM:∀p,p∈FP->p.2≠[]:=by
 intro p a h;have:(FP.all λp=> !p.2.isEmpty)=true:=by kernel_rfl
 have:=List.all_eq_true.1 this p a;rw[h] at this;cases this
theorem I8 {sum:FuncId->List Value->Option Value} {spec:FuncId->Option PSpec} (b:∀f a v,sum f a=some v->AW 8 v=true/\a.all (AW 8)=true/\∀w,I6 FP w->Calls prog f a.toArray w λe w'=>e=.returned v/\Bx w w')
  (c:∀f S,spec f=some S->Gk prog FP f S):(EE sum spec).OK prog where
 T:=iJ oI
 fn:=iK oH dD
 ext:=λf a v h D ι d w g=>dL h D ι d w g
 sum:=b
 gl:=tZ
 mixed:=by kernel_rfl
 spec:=c
 mnz:=dM
 cmp:=λ_ _ h=>by cases h
 osp:=λ_ _ h=>by cases h
 vsp:=λ_ _ h=>by cases h
noncomputable def FQ (_:FuncId) (_:List Value):Option Value:=none
noncomputable def Fl (_:FuncId):Option PSpec:=none
theorem aB:(EE FQ Fl).OK prog:=I8 (λf a v h=>by cases h) (λf S h=>by cases h)
noncomputable def Jx (g:FuncId) (sum:FuncId->List Value->Option Value) (f:FuncId) (a:List Value):Option Value:=
 match a with
 |[]=>bif Nat.beq f g then some (.bool true) else sum f []
 |x::b=>sum f (x::b)
theorem Fm {g:FuncId} {sum:FuncId->List Value->Option Value} {spec:FuncId->Option PSpec} (h:(EE sum spec).OK prog) (d:∀w,I6 FP w->Calls prog g #[] w λe w'=>e=.returned (.bool true)/\Bx w w'):(EE (Jx g sum) spec).OK prog:=
 I8 (λf a v b=>by
  cases a with
  |nil=>
   simp only[Jx] at b;cases c:Nat.beq f g
   ·rw[c,cond_false] at b;exact h.sum f [] v b
   ·rw[c,cond_true] at b;cases b;rw[GT c];exact⟨rfl,rfl,d⟩
  |cons x i=>exact h.sum f (x::i) v b) h.spec
