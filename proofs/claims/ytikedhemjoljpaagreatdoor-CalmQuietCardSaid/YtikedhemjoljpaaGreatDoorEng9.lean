/-
  The engine, part 9: an abstract evaluator over the model's code, proved sound. No condition.
-/
import Derived.Test.YtikedhemjoljpaaGreatDoorEng8
import Derived.Test.YtikedhemjoljpaaGreatDoorEng6
section
noncomputable section
noncomputable section
namespace Go.Eng
open Go
def eqI:Int→Int→Bool
 | .ofNat a,.ofNat b=>Nat.beq a b
 | .negSucc a,.negSucc b=>Nat.beq a b
 |_,_=>false
theorem eqI_eq {a b:Int} (h:eqI a b=true):a=b:=by
 cases a<;>cases b<;>simp only[eqI] at h<;>first|(cases h;done)|rw[Nat.eq_of_beq_eq_true h]
def eqSp:Option Nat→Option Nat→Bool
 |none,none=>true
 |some a,some b=>Nat.beq a b
 |_,_=>false
theorem eqSp_eq {a b:Option Nat} (h:eqSp a b=true):a=b:=by
 cases a<;>cases b<;>simp only[eqSp] at h<;>first|rfl|(cases h;done)|rw[Nat.eq_of_beq_eq_true h]
def eqA (a b:Addr):Bool:=Nat.beq a.block b.block&&(Nat.beq a.off b.off&&eqSp a.spot b.spot)
theorem eqA_eq {a b:Addr} (h:eqA a b=true):a=b:=by
 obtain⟨a1,a2,a3⟩:=a;obtain⟨b1,b2,b3⟩:=b;simp only[eqA,Bool.and_eq_true] at h;rw[Nat.eq_of_beq_eq_true h.1,Nat.eq_of_beq_eq_true h.2.1,eqSp_eq h.2.2]
def eqOA:Option Addr→Option Addr→Bool
 |none,none=>true
 |some a,some b=>eqA a b
 |_,_=>false
theorem eqOA_eq {a b:Option Addr} (h:eqOA a b=true):a=b:=by
 cases a<;>cases b<;>simp only[eqOA] at h<;>first|rfl|(cases h;done)|rw[eqA_eq h]
def eqL {α:Type} (f:α→α→Bool):List α→List α→Bool
 |[],[]=>true
 |a::x,b::y=>bif f a b then eqL f x y else false
 |_,_=>false
theorem eqL_eq {α:Type} {f:α→α→Bool} (hf:∀a b,f a b=true→a=b):∀{x y:List α},eqL f x y=true→x=y
 |[],[],_=>rfl
 |[],_::_,h=>by cases h
 |_::_,[],h=>by cases h
 |a::x,b::y,h=>by
  simp only[eqL] at h;cases hb:f a b
  ·rw[hb] at h;cases h
  ·rw[hb,cond_true] at h;rw[hf a b hb,eqL_eq hf h]
def eqV:Nat→Value→Value→Bool
 |0,_,_=>false
 |n+1,a,b=>match a,b with
  | .bool a,.bool b=>a==b
  | .int k a,.int k' b=>decide (k=k')&&eqI a b
  | .float k a,.float k' b=>decide (k=k')&&Nat.beq a b
  | .complex k a c,.complex k' b d=>decide (k=k')&&(Nat.beq a b&&Nat.beq c d)
  | .string s,.string t=>beqL s.data.toList t.data.toList
  | .pointer a,.pointer b=>eqOA a b
  | .slice a l c,.slice b l' c'=>eqOA a b&&(Nat.beq l l'&&Nat.beq c c')
  | .map a,.map b=>eqSp a b
  | .chan a,.chan b=>eqSp a b
  | .nilFunc,.nilFunc=>true
  | .nilIface,.nilIface=>true
  | .iface t a,.iface u b=>Nat.beq t u&&eqV n a b
  | .agg a,.agg b=>eqL (eqV n) a.toList b.toList
  | .tuple a,.tuple b=>eqL (eqV n) a.toList b.toList
  | .func (.func f) a c,.func (.func g) b d=>Nat.beq f g&&(eqL (eqV n) a.toList b.toList&&eqL (eqV n) c.toList d.toList)
  |_,_=>false
theorem eqV_eq:∀(n:Nat) (a b:Value),eqV n a b=true→a=b:=by
 intro n
 induction n with
 |zero=>intro a b h;cases h
 |succ n ih=>
  intro a b h;have arr:∀x y:Array Value,eqL (eqV n) x.toList y.toList=true→x=y:=fun x y h=>Array.ext' (eqL_eq ih h)
  unfold eqV at h
  split at h
  ·rw[eq_of_beq h]
  ·rw[Bool.and_eq_true,decide_eq_true_eq] at h;rw[h.1,eqI_eq h.2]
  ·rw[Bool.and_eq_true,decide_eq_true_eq] at h;rw[h.1,Nat.eq_of_beq_eq_true h.2]
  ·rw[Bool.and_eq_true,Bool.and_eq_true,decide_eq_true_eq] at h;rw[h.1,Nat.eq_of_beq_eq_true h.2.1,Nat.eq_of_beq_eq_true h.2.2]
  ·rename_i s t;rw[beqL_eq] at h;have:=eq_of_beq h;cases s with|mk s=>cases t with|mk t=>
   have e:s=t:=Array.ext' this;rw[e]
  ·rw[eqOA_eq h]
  ·rw[Bool.and_eq_true,Bool.and_eq_true] at h;rw[eqOA_eq h.1,Nat.eq_of_beq_eq_true h.2.1,Nat.eq_of_beq_eq_true h.2.2]
  ·rw[eqSp_eq h]
  ·rw[eqSp_eq h]
  ·rfl
  ·rfl
  ·rw[Bool.and_eq_true] at h;rw[Nat.eq_of_beq_eq_true h.1,ih _ _ h.2]
  ·rw[arr _ _ h]
  ·rw[arr _ _ h]
  ·rw[Bool.and_eq_true,Bool.and_eq_true] at h;rw[Nat.eq_of_beq_eq_true h.1,arr _ _ h.2.1,arr _ _ h.2.2]
  ·cases h
def eqX:Option (List Nat×Nat)→Option (List Nat×Nat)→Bool
 |none,none=>true
 |some a,some b=>eqL Nat.beq a.1 b.1&&Nat.beq a.2 b.2
 |_,_=>false
def eqO:AO→AO→Bool
 | .row c e r,.row c' e' r'=>Nat.beq e e'&&(r==r'&&eqL (eqV 9) c c')
 | .iter s p,.iter s' p'=>Nat.beq p p'&&beqL s.data.toList s'.data.toList
 | .mp es ex,.mp es' ex'=>eqL (fun a b=>eqV 9 a.1 b.1&&eqV 9 a.2 b.2) es es'&&eqX ex ex'
 |_,_=>false
theorem eqO_eq {a b:AO} (h:eqO a b=true):a=b:=by
 unfold eqO at h
 split at h
 ·rw[Bool.and_eq_true,Bool.and_eq_true] at h;rw[Nat.eq_of_beq_eq_true h.1,eq_of_beq h.2.1,eqL_eq (eqV_eq 9) h.2.2]
 ·rename_i s p t q;rw[Bool.and_eq_true,beqL_eq] at h;have:=eq_of_beq h.2;cases s with|mk s=>cases t with|mk t=>
  have e:s=t:=Array.ext' this;rw[Nat.eq_of_beq_eq_true h.1,e]
 ·rename_i es ex es' ex';rw[Bool.and_eq_true] at h;have h1:es=es':=eqL_eq (fun a b hab=>by
   rw[Bool.and_eq_true] at hab;exact Prod.ext (eqV_eq 9 _ _ hab.1) (eqV_eq 9 _ _ hab.2)) h.1
  have h2:ex=ex':=by
   cases ex with
   |none=>cases ex' with
    |none=>rfl
    |some b=>cases h.2
   |some a=>cases ex' with
    |none=>cases h.2
    |some b=>
     have:=h.2;simp only[eqX,Bool.and_eq_true] at this;rw[Prod.ext (eqL_eq (fun _ _=>Nat.eq_of_beq_eq_true) this.1) (Nat.eq_of_beq_eq_true this.2)]
  rw[h1,h2]
 ·cases h
end Go.Eng
end
end
end
section
noncomputable section
noncomputable section
namespace Go.Eng
open Go
def orP (l:List (Nat×Nat)) (m:Nat):Nat:=List.rec m (fun p _ ih=>Nat.lor (Nat.shiftLeft 1 p.1) ih) l
def orN (l:List Nat) (m:Nat):Nat:=List.rec m (fun p _ ih=>Nat.lor (Nat.shiftLeft 1 p) ih) l
def accR (φ:Foot) (m:Nat):Nat:=Foot.rec (fun rc rh wc wh=>orP rc (orN rh (orP wc (orN wh m)))) φ
def accW (φ:Foot) (m:Nat):Nat:=Foot.rec (fun _ _ wc wh=>orP wc (orN wh m)) φ
theorem bit1 (k i:Nat) (m:Nat) (h:k=i∨m.testBit i=true):(Nat.lor (Nat.shiftLeft 1 k) m).testBit i=true:=by
 show(1<<<k|||m).testBit i=true;rw[Nat.testBit_or,Bool.or_eq_true];rcases h with rfl|h
 ·left;rw[Nat.testBit_shiftLeft];simp
 ·exact .inr h
theorem orP_ok:∀(l:List (Nat×Nat)) (m i:Nat),((∃k,(i,k)∈l)∨m.testBit i=true)→(orP l m).testBit i=true
 |[],m,i,h=>by
  rcases h with⟨k,h⟩|h
  ·cases h
  ·exact h
 |p::l,m,i,h=>by
  refine bit1 p.1 i (orP l m) ?_;rcases h with⟨k,h⟩|h
  ·rcases List.mem_cons.1 h with h|h
   ·left;rw[←h]
   ·exact .inr (orP_ok l m i (.inl ⟨k,h⟩))
  ·exact .inr (orP_ok l m i (.inr h))
theorem orN_ok:∀(l:List Nat) (m i:Nat),(i∈l∨m.testBit i=true)→(orN l m).testBit i=true
 |[],m,i,h=>by
  rcases h with h|h
  ·cases h
  ·exact h
 |p::l,m,i,h=>by
  refine bit1 p i (orN l m) ?_;rcases h with h|h
  ·rcases List.mem_cons.1 h with h|h
   ·left;rw[h]
   ·exact .inr (orN_ok l m i (.inl h))
  ·exact .inr (orN_ok l m i (.inr h))
def CovR (r:Nat) (φ:Foot):Prop:=∀id,φ.Fi id→r.testBit id=true
def CovW (w:Nat) (φ:Foot):Prop:=∀id k,φ.Wc id k→w.testBit id=true
theorem accR_ok (φ:Foot) (m:Nat):CovR (accR φ m) φ:=by
 rintro id (h|h|h|h)
 ·exact orP_ok _ _ _ (.inl h)
 ·exact orP_ok _ _ _ (.inr (orN_ok _ _ _ (.inl h)))
 ·exact orP_ok _ _ _ (.inr (orN_ok _ _ _ (.inr (orP_ok _ _ _ (.inl h)))))
 ·exact orP_ok _ _ _ (.inr (orN_ok _ _ _ (.inr (orP_ok _ _ _ (.inr (orN_ok _ _ _ (.inl h)))))))
theorem accW_ok (φ:Foot) (m:Nat):CovW (accW φ m) φ:=by
 rintro id k (h|h)
 ·exact orP_ok _ _ _ (.inl ⟨k,h⟩)
 ·exact orP_ok _ _ _ (.inr (orN_ok _ _ _ (.inl h)))
theorem accR_up (φ:Foot) (m i:Nat) (h:m.testBit i=true):(accR φ m).testBit i=true:=
 orP_ok _ _ _ (.inr (orN_ok _ _ _ (.inr (orP_ok _ _ _ (.inr (orN_ok _ _ _ (.inr h)))))))
theorem accW_up (φ:Foot) (m i:Nat) (h:m.testBit i=true):(accW φ m).testBit i=true:=
 orP_ok _ _ _ (.inr (orN_ok _ _ _ (.inr h)))
theorem covR_nil (r:Nat):CovR r .nil:=by rintro id (⟨_,h⟩|h|⟨_,h⟩|h)<;>cases h
theorem covW_nil (w:Nat):CovW w .nil:=by rintro id k (h|h)<;>cases h
structure Acc (r w r' w':Nat) (φ:Foot):Prop where
 r0:∀i,r.testBit i=true→r'.testBit i=true
 w0:∀i,w.testBit i=true→w'.testBit i=true
 r1:CovR r' φ
 w1:CovW w' φ
theorem Acc.nil (r w:Nat):Acc r w r w .nil:=⟨fun _ h=>h,fun _ h=>h,covR_nil _,covW_nil _⟩
theorem Acc.trans {r w r1 w1 r2 w2:Nat} {φ1 φ2:Foot} (a:Acc r w r1 w1 φ1) (b:Acc r1 w1 r2 w2 φ2):Acc r w r2 w2 (φ1.add φ2) where
 r0:=fun i h=>b.r0 i (a.r0 i h)
 w0:=fun i h=>b.w0 i (a.w0 i h)
 r1:=fun id h=>(Foot.add_Fi.1 h).elim (fun h=>b.r0 _ (a.r1 id h)) fun h=>b.r1 id h
 w1:=fun id k h=>(Foot.add_Wc.1 h).elim (fun h=>b.w0 _ (a.w1 id k h)) fun h=>b.w1 id k h
theorem lor_l {a b i:Nat} (h:a.testBit i=true):(Nat.lor a b).testBit i=true:=by show(a|||b).testBit i=true;rw[Nat.testBit_or,h,Bool.true_or]
theorem lor_r {a b i:Nat} (h:b.testBit i=true):(Nat.lor a b).testBit i=true:=by show(a|||b).testBit i=true;rw[Nat.testBit_or,h,Bool.or_true]
theorem Acc.lor {r w r1 w1:Nat} {φ:Foot} (hr:CovR r1 φ) (hw:CovW w1 φ):Acc r w (Nat.lor r r1) (Nat.lor w w1) φ:=
 ⟨fun _ h=>lor_l h,fun _ h=>lor_l h,fun id h=>lor_r (hr id h),fun id k h=>lor_r (hw id k h)⟩
theorem mod_bit {m n i:Nat} (h:m.testBit i=true) (hi:i<n):(Nat.mod m (Nat.pow 2 n)).testBit i=true:=by
 show(m%2^n).testBit i=true;rw[Nat.testBit_mod_two_pow,h,Bool.and_true];exact decide_eq_true hi
theorem covR_trim {r n:Nat} {φ:Foot} (h:CovR r φ):CovR (Nat.mod r (Nat.pow 2 n)) (φ.trim n):=fun id hf=>by
 obtain⟨h1,h2⟩:=trim_Fi.1 hf;exact mod_bit (h id h1) h2
theorem covW_trim {w n:Nat} {φ:Foot} (h:CovW w φ):CovW (Nat.mod w (Nat.pow 2 n)) (φ.trim n):=fun id k hf=>by
 obtain⟨h1,h2⟩:=trim_Wc.1 hf;exact mod_bit (h id k h1) h2
def frc {α:Type} (m:Nat) (k:Nat→α):α:=Nat.rec (k 0) (fun m' _=>k (Nat.succ m')) m
theorem frc_eq {α:Type} (m:Nat) (k:Nat→α):frc m k=k m:=by cases m<;>rfl
structure Rec2 where
 r:Nat
 w:Nat
 lo:Nat
 hi:Nat
 x:Option Foot
 s:Tr Value
 σ:St
 s1:Tr Value
 σ1:St
def Rec2.Of (a:Rec2) (b:Rec):Prop:=CovR a.r b.φ∧CovW a.w b.φ∧a.lo=b.lo∧a.hi=b.hi∧∀p,a.x=some p→b.φ=p.trim a.lo
def kzExact (a b:Rec2):Bool:=match a.x,b.x with
 |some p,some q=>freeOf (p.trim a.lo) (q.trim b.lo)&&(freeOf (q.trim b.lo) (p.trim a.lo)&&farOf a.lo a.hi (q.trim b.lo))
 |_,_=>false
def kzFar (a b:Rec2):Bool:=Nat.beq (Nat.land a.w b.r) 0&&(Nat.beq (Nat.land b.w a.r) 0&&Nat.beq (Nat.land b.r (Nat.sub (Nat.pow 2 a.hi) (Nat.pow 2 a.lo))) 0)
theorem land0 {a b i:Nat} (h:Nat.beq (Nat.land a b) 0=true) (h1:a.testBit i=true):b.testBit i=false:=by
 have h0:(a&&&b)=0:=Nat.eq_of_beq_eq_true h;have:=congrArg (fun m=>Nat.testBit m i) h0;simp only[Nat.testBit_and,Nat.zero_testBit,h1,Bool.true_and] at this;exact this
theorem bits_between {lo hi i:Nat} (h1:lo≤i) (h2:i<hi):(Nat.sub (Nat.pow 2 hi) (Nat.pow 2 lo)).testBit i=true:=by
 show(2^hi-2^lo).testBit i=true;have e:2^hi-2^lo=(2^(hi-lo)-1)<<<lo:=by
  rw[Nat.shiftLeft_eq,Nat.sub_mul,Nat.one_mul,←Nat.pow_add];congr 2;omega
 rw[e,Nat.testBit_shiftLeft,Nat.testBit_two_pow_sub_one];simp only[ge_iff_le,h1,decide_true,Bool.true_and,decide_eq_true_eq];omega
theorem freeOf_of {a b:Foot} (h1:∀id k,a.Wc id k→¬b.Fi id):freeOf a b=true:=by
 have mn:∀(n:Nat) (l:List Nat),memN n l=true→n∈l:=by
  intro n l
  induction l with
  |nil=>intro h;cases h
  |cons x xs ih=>
   intro h;simp only[memN] at h;cases hb:Nat.beq n x
   ·rw[hb] at h;exact List.mem_cons_of_mem _ (ih h)
   ·rw[Nat.eq_of_beq_eq_true hb];exact List.mem_cons_self ..
 have mf:∀(n:Nat) (l:List (Nat×Nat)),memF n l=true→∃k,(n,k)∈l:=by
  intro n l
  induction l with
  |nil=>intro h;cases h
  |cons x xs ih=>
   intro h;simp only[memF] at h;cases hb:Nat.beq n x.1
   ·rw[hb] at h;obtain⟨k,hk⟩:=ih h;exact⟨k,List.mem_cons_of_mem _ hk⟩
   ·exact⟨x.2,by rw[Nat.eq_of_beq_eq_true hb];exact List.mem_cons_self ..⟩
 have mp:∀(n k:Nat) (l:List (Nat×Nat)),memP n k l=true→(n,k)∈l:=by
  intro n k l
  induction l with
  |nil=>intro h;cases h
  |cons x xs ih=>
   intro h;simp only[memP] at h;cases hb:(Nat.beq n x.1&&Nat.beq k x.2)
   ·rw[hb] at h;exact List.mem_cons_of_mem _ (ih h)
   ·rw[Bool.and_eq_true] at hb;obtain⟨x1,x2⟩:=x;rw[Nat.eq_of_beq_eq_true hb.1,Nat.eq_of_beq_eq_true hb.2];exact List.mem_cons_self ..
 have nb:∀b:Bool,¬b=true→b=false:=fun b h=>by cases b<;>first|rfl|exact absurd rfl h
 unfold freeOf;rw[Bool.and_eq_true];refine⟨List.all_eq_true.2 fun p hp=> ?_,List.all_eq_true.2 fun i hi=> ?_⟩
 ·have hn:=h1 p.1 p.2 (.inl hp);rw[nb (memP p.1 p.2 b.rc) fun h=>hn (.inl ⟨_,mp _ _ _ h⟩),nb (memN p.1 b.rh) fun h=>hn (.inr (.inl (mn _ _ h))),nb (memP p.1 p.2 b.wc) fun h=>hn (.inr (.inr (.inl ⟨_,mp _ _ _ h⟩))),nb (memN p.1 b.wh) fun h=>hn (.inr (.inr (.inr (mn _ _ h))))];rfl
 ·have hn:=h1 i 0 (.inr hi);rw[nb (memF i b.rc) fun h=>hn (.inl (mf _ _ h)),nb (memN i b.rh) fun h=>hn (.inr (.inl (mn _ _ h))),nb (memF i b.wc) fun h=>hn (.inr (.inr (.inl (mf _ _ h)))),nb (memN i b.wh) fun h=>hn (.inr (.inr (.inr (mn _ _ h))))];rfl
theorem farOf_of {lo hi:Nat} {b:Foot} (h:∀id,lo≤id→id<hi→¬b.Fi id):farOf lo hi b=true:=by
 have key:∀i,b.Fi i→(!(Nat.ble lo i&&Nat.blt i hi))=true:=fun i hf=>by
  cases h1:(Nat.ble lo i&&Nat.blt i hi)
  ·rfl
  ·rw[Bool.and_eq_true] at h1;exact absurd hf (h i (Nat.le_of_ble_eq_true h1.1) (blt_iff.1 h1.2))
 unfold farOf;simp only[Bool.and_eq_true];exact⟨⟨⟨List.all_eq_true.2 fun p hp=>key _ (.inl ⟨_,hp⟩),List.all_eq_true.2 fun p hp=>key _ (.inr (.inl hp))⟩,List.all_eq_true.2 fun p hp=>key _ (.inr (.inr (.inl ⟨_,hp⟩)))⟩,List.all_eq_true.2 fun p hp=>key _ (.inr (.inr (.inr hp)))⟩
def kzFE (a b:Rec2):Bool:=Bool.rec (kzExact a b) true (kzFar a b)
theorem kzFE_ok {ops:Array Oper} {x y:Oper} {a b:Rec2} {a' b':Rec} (h0:x.apart ops y=true) (h:kzFE a b=true) (ha:a.Of a') (hb:b.Of b'):okPair ops x y a' b'=true:=by
 obtain⟨a1,a2,a3,a4,a5⟩:=ha;obtain⟨b1,b2,b3,b4,b5⟩:=hb;unfold okPair;simp only[Bool.and_eq_true];have nt:∀b:Bool,b=false→¬b=true:=fun b h h'=>by rw[h] at h';cases h'
 have h:kzFar a b=true∨kzExact a b=true:=by
  unfold kzFE at h;cases hf:kzFar a b
  ·rw[hf] at h;exact .inr h
  ·exact .inl rfl
 rcases h with h|h
 ·unfold kzFar at h;simp only[Bool.and_eq_true] at h;obtain⟨g1,g2,g3⟩:=h;refine⟨⟨⟨h0,freeOf_of fun id k hw hf=> ?_⟩,freeOf_of fun id k hw hf=> ?_⟩,farOf_of fun id l1 l2 hf=> ?_⟩
  ·exact nt _ (land0 g1 (a2 id k hw)) (b1 id hf)
  ·exact nt _ (land0 g2 (b2 id k hw)) (a1 id hf)
  ·exact nt _ (land0 g3 (b1 id hf)) (bits_between (by rw[a3];exact l1) (by rw[a4];exact l2))
 ·unfold kzExact at h
  split at h
  ·rename_i p q hp hq;simp only[Bool.and_eq_true] at h;rw[a5 p hp,b5 q hq,←a3,←a4];exact⟨⟨⟨h0,h.1⟩,h.2.1⟩,h.2.2⟩
  ·cases h
def kzP1 (ops:Array Oper) (y:Oper) (mask j:Nat) (xs:List Oper):Nat→Option (List (Nat×Nat)):=
 List.rec (motive:=fun _=>Nat→Option (List (Nat×Nat))) (fun _=>some []) (fun x _ ih i=>Option.rec none (fun l=>Bool.rec (Bool.rec none (some ((i,j)::l)) (x.apart ops y)) (some l) (Nat.testBit mask i)) (ih (Nat.succ i))) xs
def kzP2 (ops:Array Oper) (all:List Oper) (ys:List Oper):List Nat→Nat→Option (List (Nat×Nat)):=
 List.rec (motive:=fun _=>List Nat→Nat→Option (List (Nat×Nat))) (fun _ _=>some []) (fun y _ ih acc j=>Bool.rec none (Option.rec none (fun l=>Option.rec none (fun l2=>some (l++l2)) (ih (acc++[maskOf acc y.after.toList]) (Nat.succ j))) (kzP1 ops y (maskOf acc y.after.toList) j (all.take j) 0)) (y.after.toList.all (fun e=> !(Region.binds .any e)||Nat.blt e.on j))) ys
def kzPs (ops:Array Oper):Option (List (Nat×Nat)):=kzP2 ops ops.toList ops.toList [] 0
def kzNthR (l:List Rec2):Nat→Option Rec2:=List.rec (motive:=fun _=>Nat→Option Rec2) (fun _=>none) (fun x _ ih j=>Nat.rec (some x) (fun m _=>ih m) j) l
theorem kzNthR_eq:∀(l:List Rec2) (j:Nat),kzNthR l j=l[j]?
 |[],j=>by simp;rfl
 |x::xs,0=>rfl
 |x::xs,j+1=>by rw[List.getElem?_cons_succ];exact kzNthR_eq xs j
def kzDyn (recs:List Rec2) (ps:List (Nat×Nat)):Bool:=
 List.rec true (fun p _ ih=>Prod.rec (fun i j=>Option.rec false (fun a=>Option.rec false (fun b=>Bool.rec false ih (kzFE a b)) (kzNthR recs j)) (kzNthR recs i)) p) ps
def kzAll (ops:Array Oper) (recs:List Rec2):Bool:=Option.rec false (fun ps=>kzDyn recs ps) (kzPs ops)
theorem kzDyn_ok {recs:List Rec2}:∀{ps:List (Nat×Nat)},kzDyn recs ps=true→∀i j,(i,j)∈ps→∃a b,recs[i]?=some a∧recs[j]?=some b∧kzFE a b=true
 |[],_,i,j,hm=>by cases hm
 |(i0,j0)::ps,h,i,j,hm=>by
  have h:(Option.rec false (fun a=>Option.rec false (fun b=>Bool.rec false (kzDyn recs ps) (kzFE a b)) (kzNthR recs j0)) (kzNthR recs i0):Bool)=true:=h;rw[kzNthR_eq,kzNthR_eq] at h;cases hi:recs[i0]? with
  |none=>rw[hi] at h;cases h
  |some a=>
   cases hj:recs[j0]? with
   |none=>rw[hi,hj] at h;cases h
   |some b=>
    rw[hi,hj] at h;have h:(Bool.rec false (kzDyn recs ps) (kzFE a b):Bool)=true:=h;cases hf:kzFE a b
    ·rw[hf] at h;cases h
    ·rw[hf] at h;rcases List.mem_cons.1 hm with e|e
     ·cases e;exact⟨a,b,hi,hj,hf⟩
     ·exact kzDyn_ok (ps:=ps) h i j e
inductive RecsOf:List Rec2→List Rec→Prop where
 |nil:RecsOf [] []
 |cons {a b as bs} (h:a.Of b) (t:RecsOf as bs):RecsOf (a::as) (b::bs)
theorem RecsOf.get {l:List Rec2} {l':List Rec} (h:RecsOf l l'):∀(i:Nat) (b:Rec),l'[i]?=some b→∃a:Rec2,l[i]?=some a∧a.Of b:=by
 induction h with
 |nil=>intro i b h;simp at h
 |cons h t ih=>
  intro i b hb;cases i with
  |zero=>simp at hb;subst hb;exact⟨_,rfl,h⟩
  |succ i=>
   rw[List.getElem?_cons_succ] at hb⊢;exact ih i b hb
theorem kzP1_ok {ops:Array Oper} {y:Oper} {mask j:Nat} {recs:List Rec2} {recs':List Rec} (hr:RecsOf recs recs') {b':Rec} (hb:recs'[j]?=some b'):
  ∀(xs:List Oper) (i:Nat) (l:List (Nat×Nat)),kzP1 ops y mask j xs i=some l→(∀p,p∈l→∃a b,recs[p.1]?=some a∧recs[p.2]?=some b∧kzFE a b=true)→okOne ops y b' mask i xs (recs'.drop i)=true
 |[],i,l,_,_=>by simp[okOne]
 |x::xs,i,l,h,hp=>by
  have h:(Option.rec none (fun l=>Bool.rec (Bool.rec none (some ((i,j)::l)) (x.apart ops y)) (some l) (Nat.testBit mask i)) (kzP1 ops y mask j xs (Nat.succ i)):Option (List (Nat×Nat)))=some l:=h;cases h1:kzP1 ops y mask j xs (Nat.succ i) with
  |none=>rw[h1] at h;cases h
  |some l1=>
   rw[h1] at h;have h:(Bool.rec (Bool.rec none (some ((i,j)::l1)) (x.apart ops y)) (some l1) (Nat.testBit mask i):Option (List (Nat×Nat)))=some l:=h;cases hd:recs'.drop i with
   |nil=>simp[okOne]
   |cons a' as=>
    have ha:recs'[i]?=some a':=by
     have:=congrArg (fun l=>l[0]?) hd;simpa using this
    have hd1:recs'.drop (i+1)=as:=by
     have:=congrArg List.tail hd;simpa using this
    simp only[okOne,Bool.and_eq_true,Bool.or_eq_true];cases ht:Nat.testBit mask i
    ·rw[ht] at h;cases hap:x.apart ops y
     ·rw[hap] at h;cases h
     ·rw[hap] at h;have h:some ((i,j)::l1)=some l:=h;obtain rfl:=Option.some.inj h;refine⟨.inr ?_,?_⟩
      ·obtain⟨a,b,e1,e2,e3⟩:=hp (i,j) (List.mem_cons_self ..);obtain⟨a2,g1,g2⟩:=hr.get i a' ha;obtain⟨b2,g3,g4⟩:=hr.get j b' hb;rw[e1] at g1;cases g1;rw[e2] at g3;cases g3;exact kzFE_ok hap e3 g2 g4
      ·rw[←hd1];exact kzP1_ok hr hb xs (i+1) l1 h1 fun p hm=>hp p (List.mem_cons_of_mem _ hm)
    ·rw[ht] at h;have h:some l1=some l:=h;obtain rfl:=Option.some.inj h;refine⟨.inl rfl,?_⟩;rw[←hd1];exact kzP1_ok hr hb xs (i+1) l1 h1 hp
theorem kzP2_ok {ops:Array Oper} {all:List Oper} {recs:List Rec2} {recs':List Rec} (hr:RecsOf recs recs'):
  ∀(ys:List Oper) (acc:List Nat) (l:List (Nat×Nat)),kzP2 ops all ys acc acc.length=some l→(∀p,p∈l→∃a b,recs[p.1]?=some a∧recs[p.2]?=some b∧kzFE a b=true)→recs'.length=acc.length+ys.length→okAll ops all recs' acc ys (recs'.drop acc.length)=true
 |[],acc,l,_,_,_=>by simp[okAll]
 |y::ys,acc,l,h,hp,hlen=>by
  have h:(Bool.rec none (Option.rec none (fun l=>Option.rec none (fun l2=>some (l++l2)) (kzP2 ops all ys (acc++[maskOf acc y.after.toList]) (Nat.succ acc.length))) (kzP1 ops y (maskOf acc y.after.toList) acc.length (all.take acc.length) 0)) (y.after.toList.all (fun e=> !(Region.binds .any e)||Nat.blt e.on acc.length)):Option (List (Nat×Nat)))=some l:=h
  cases hc:y.after.toList.all (fun e=> !(Region.binds .any e)||Nat.blt e.on acc.length)
  ·rw[hc] at h;cases h
  ·rw[hc] at h;cases h1:kzP1 ops y (maskOf acc y.after.toList) acc.length (all.take acc.length) 0 with
   |none=>rw[h1] at h;cases h
   |some l1=>
    rw[h1] at h;have e1:Nat.succ acc.length=(acc++[maskOf acc y.after.toList]).length:=by simp
    rw[e1] at h;cases h2:kzP2 ops all ys (acc++[maskOf acc y.after.toList]) (acc++[maskOf acc y.after.toList]).length with
    |none=>rw[h2] at h;cases h
    |some l2=>
     rw[h2] at h;have h:some (l1++l2)=some l:=h;cases h;have hlt:acc.length<recs'.length:=by rw[hlen,List.length_cons];omega
     have hg:recs'[acc.length]?=some recs'[acc.length]:=List.getElem?_eq_getElem hlt;rw[List.drop_eq_getElem_cons hlt];simp only[okAll,hc,Bool.true_and,Bool.and_eq_true];refine⟨?_,?_⟩
     ·have:=kzP1_ok hr hg _ 0 l1 h1 fun p hm=>hp p (List.mem_append.2 (.inl hm))
      simpa using this
     ·have:=kzP2_ok hr ys (acc++[maskOf acc y.after.toList]) l2 h2 (fun p hm=>hp p (List.mem_append.2 (.inr hm))) (by rw[hlen];simp;omega);simpa using this
theorem kzAll_ok {ops:Array Oper} {recs:List Rec2} {recs':List Rec} (hr:RecsOf recs recs') (hlen:recs'.length=ops.toList.length) (h:kzAll ops recs=true):okAll ops ops.toList recs' [] ops.toList recs'=true:=by
 unfold kzAll at h;cases h1:kzPs ops with
 |none=>rw[h1] at h;cases h
 |some ps=>
  rw[h1] at h;have:=kzP2_ok hr ops.toList [] ps h1 (fun p hm=>kzDyn_ok h p.1 p.2 hm) (by rw[hlen];simp);simpa using this
def kzOne (l:List Oper) (j:Nat):Nat→Bool:=List.rec (motive:=fun _=>Nat→Bool) (fun _=>true) (fun o _ ih i=>(!(isME o.op)||Nat.beq i j)&&ih (Nat.succ i)) l
theorem kzOne_ok {j:Nat}:∀{l:List Oper} {i:Nat},kzOne l j i=true→∀k o,l[k]?=some o→isME o.op=true→i+k=j
 |[],i,_,k,o,hk,_=>by simp at hk
 |a::l,i,h,k,o,hk,hm=>by
  have h:((!(isME a.op)||Nat.beq i j)&&kzOne l j (Nat.succ i))=true:=h;rw[Bool.and_eq_true] at h;cases k with
  |zero=>
   simp at hk;subst hk;have h1:=h.1;rw[hm] at h1;exact Nat.eq_of_beq_eq_true (by simpa using h1)
  |succ k=>
   rw[List.getElem?_cons_succ] at hk;have:=kzOne_ok h.2 k o hk hm;omega
def kzSp (E:Env) (ops:Array Oper) (i j:Nat) (a b:Rec2):Bool:=
 match ops[i]?,ops[j]? with
 |some x,some y=>match x.guard,x.op,x.dst,a.x,b.x with
  |none,.lookup t m k false,some d,some fa,some fb=>match fa.wc,fa.wh,fb.wc,fb.wh with
   |[],[],[],[id0]=>match b.σ1.heap.get id0,av E.G a.s m,av E.G a.s k,a.s1.get d with
    |some o1,some v,some u,some z=>match aLookupS E.T E.cmp (a.σ.put id0 (some o1)) t v u false with
     |some r=>Nat.blt i j&&(isME y.op&&(kzOne ops.toList j 0&&(Nat.beq a.hi a.lo&&(Nat.blt id0 a.lo&&(eqV 9 z r.v&&(r.φ.rc.isEmpty&&r.φ.rh.all fun id=>memN id fa.rh))))))
     |none=>false
    |_,_,_,_=>false
   |_,_,_,_=>false
  |_,_,_,_,_=>false
 |_,_=>false
def kzDyn2 (E:Env) (ops:Array Oper) (recs:List Rec2) (ps:List (Nat×Nat)):Bool:=
 List.rec true (fun p _ ih=>Prod.rec (fun i j=>Option.rec false (fun a=>Option.rec false (fun b=>Bool.rec false ih (kzFE a b||kzSp E ops i j a b)) (kzNthR recs j)) (kzNthR recs i)) p) ps
def kzAll2 (E:Env) (ops:Array Oper) (recs:List Rec2):Bool:=Option.rec false (fun ps=>kzDyn2 E ops recs ps) (kzPs ops)
theorem kzDyn2_ok {E:Env} {ops:Array Oper} {recs:List Rec2}:∀{ps:List (Nat×Nat)},kzDyn2 E ops recs ps=true→∀i j,(i,j)∈ps→∃a b,recs[i]?=some a∧recs[j]?=some b∧(kzFE a b=true∨kzSp E ops i j a b=true)
 |[],_,i,j,hm=>by cases hm
 |(i0,j0)::ps,h,i,j,hm=>by
  have h:(Option.rec false (fun a=>Option.rec false (fun b=>Bool.rec false (kzDyn2 E ops recs ps) (kzFE a b||kzSp E ops i0 j0 a b)) (kzNthR recs j0)) (kzNthR recs i0):Bool)=true:=h;rw[kzNthR_eq,kzNthR_eq] at h;cases hi:recs[i0]? with
  |none=>rw[hi] at h;cases h
  |some a=>
   cases hj:recs[j0]? with
   |none=>rw[hi,hj] at h;cases h
   |some b=>
    rw[hi,hj] at h;have h:(Bool.rec false (kzDyn2 E ops recs ps) (kzFE a b||kzSp E ops i0 j0 a b):Bool)=true:=h;cases hf:(kzFE a b||kzSp E ops i0 j0 a b)
    ·rw[hf] at h;cases h
    ·rw[hf] at h;rw[Bool.or_eq_true] at hf;rcases List.mem_cons.1 hm with e|e
     ·cases e;exact⟨a,b,hi,hj,hf⟩
     ·exact kzDyn2_ok (ps:=ps) h i j e
theorem kzP1_pair {ops:Array Oper} {y:Oper} {mask j:Nat}:∀(xs:List Oper) (i:Nat) (l:List (Nat×Nat)),kzP1 ops y mask j xs i=some l→∀k x,xs[k]?=some x→mask.testBit (i+k)=true∨((i+k,j)∈l∧x.apart ops y=true)
 |[],i,l,_,k,x,hk=>by simp at hk
 |x0::xs,i,l,h,k,x,hk=>by
  have h:(Option.rec none (fun l=>Bool.rec (Bool.rec none (some ((i,j)::l)) (x0.apart ops y)) (some l) (Nat.testBit mask i)) (kzP1 ops y mask j xs (Nat.succ i)):Option (List (Nat×Nat)))=some l:=h;cases h1:kzP1 ops y mask j xs (Nat.succ i) with
  |none=>rw[h1] at h;cases h
  |some l1=>
   rw[h1] at h;have h:(Bool.rec (Bool.rec none (some ((i,j)::l1)) (x0.apart ops y)) (some l1) (Nat.testBit mask i):Option (List (Nat×Nat)))=some l:=h;have ih:=kzP1_pair xs (i+1) l1 h1;cases ht:Nat.testBit mask i
   ·rw[ht] at h;cases hap:x0.apart ops y
    ·rw[hap] at h;cases h
    ·rw[hap] at h;have h:some ((i,j)::l1)=some l:=h;obtain rfl:=Option.some.inj h;cases k with
     |zero=>simp at hk;subst hk;exact .inr ⟨List.mem_cons_self ..,hap⟩
     |succ k=>
      rw[List.getElem?_cons_succ] at hk;rw[show i+(k+1)=i+1+k by omega];exact(ih k x hk).imp_right fun⟨a,b⟩=>⟨List.mem_cons_of_mem _ a,b⟩
   ·rw[ht] at h;have h:some l1=some l:=h;obtain rfl:=Option.some.inj h;cases k with
    |zero=>exact .inl ht
    |succ k=>
     rw[List.getElem?_cons_succ] at hk;rw[show i+(k+1)=i+1+k by omega];exact ih k x hk
theorem kzP2_pair {ops:Array Oper}:∀(ys:List Oper) (acc:List Nat) (l:List (Nat×Nat)),kzP2 ops ops.toList ys acc acc.length=some l→ys=ops.toList.drop acc.length→
  (∀j,j<acc.length→∀i,(acc.getD j 0).testBit i=true→Ahead ops i j)→
  (∀(j:Nat) o,acc.length≤j→ops[j]?=some o→∀e∈o.after.toList,Region.binds .any e=true→e.on<j)∧
  ∀(i j:Nat) x y,acc.length≤j→i<j→ops[i]?=some x→ops[j]?=some y→Ahead ops i j∨((i,j)∈l∧x.apart ops y=true)
 |[],acc,l,_,hy,_=>by
  have hl:ops.size≤acc.length:=by
   have:=congrArg List.length hy;simp at this;omega
  refine⟨fun j o hj ho=> ?_,fun i j x y hj _ _ hy'=> ?_⟩
  ·rw[Array.getElem?_eq_none (by omega)] at ho;cases ho
  ·rw[Array.getElem?_eq_none (by omega)] at hy';cases hy'
 |y0::ys,acc,l,h,hy,hacc=>by
  have h:(Bool.rec none (Option.rec none (fun l=>Option.rec none (fun l2=>some (l++l2)) (kzP2 ops ops.toList ys (acc++[maskOf acc y0.after.toList]) (Nat.succ acc.length))) (kzP1 ops y0 (maskOf acc y0.after.toList) acc.length (ops.toList.take acc.length) 0)) (y0.after.toList.all (fun e=> !(Region.binds .any e)||Nat.blt e.on acc.length)):Option (List (Nat×Nat)))=some l:=h
  cases hc:y0.after.toList.all (fun e=> !(Region.binds .any e)||Nat.blt e.on acc.length)
  ·rw[hc] at h;cases h
  rw[hc] at h;cases h1:kzP1 ops y0 (maskOf acc y0.after.toList) acc.length (ops.toList.take acc.length) 0 with
  |none=>rw[h1] at h;cases h
  |some l1=>
  rw[h1] at h;have e1:Nat.succ acc.length=(acc++[maskOf acc y0.after.toList]).length:=by simp
  rw[e1] at h;cases h2:kzP2 ops ops.toList ys (acc++[maskOf acc y0.after.toList]) (acc++[maskOf acc y0.after.toList]).length with
  |none=>rw[h2] at h;cases h
  |some l2=>
  rw[h2] at h;have h:some (l1++l2)=some l:=h;obtain rfl:=Option.some.inj h;have hy0:ops[acc.length]?=some y0:=by
   have:=congrArg (fun l=>l[0]?) hy;simp at this;exact this.symm
  have hedge:∀e∈y0.after.toList,Region.binds .any e=true→e.on<acc.length:=by
   intro e he hbn;have:=List.all_eq_true.1 hc e he;rw[hbn] at this;simpa using this
  have hm:∀i,(maskOf acc y0.after.toList).testBit i=true→Ahead ops i acc.length:=by
   intro i hi S hS hs;exact maskOf_spec hacc _ S hS (fun e he hbn=>⟨hedge e he hbn,hS _ _ _ hy0 hs he hbn⟩) i hi
  have hlen:(acc++[maskOf acc y0.after.toList]).length=acc.length+1:=by simp
  obtain⟨r1,r2⟩:=kzP2_pair ys (acc++[maskOf acc y0.after.toList]) l2 h2 (by
    rw[hlen,←List.drop_drop,←hy];rfl) (fun j hj i hi=>by
    rw[hlen] at hj;by_cases e:j=acc.length
    ·subst e;simp[List.getD_eq_getElem?_getD] at hi;exact hm i hi
    ·have hlt:j<acc.length:=by omega
     refine hacc j hlt i ?_;rw[List.getD_eq_getElem?_getD,List.getElem?_append_left hlt] at hi;rw[List.getD_eq_getElem?_getD];exact hi)
  rw[hlen] at r1 r2;refine⟨fun j o hj ho e he hbn=> ?_,fun i j x y hj hij hx hy'=> ?_⟩
  ·by_cases e':j=acc.length
   ·subst e';rw[hy0] at ho;cases ho;exact hedge e he hbn
   ·exact r1 j o (by omega) ho e he hbn
  ·by_cases e':j=acc.length
   ·subst e';rw[hy0] at hy';cases hy';have hx':(ops.toList.take acc.length)[i]?=some x:=by
     rw[List.getElem?_take_of_lt hij,Array.getElem?_toList];exact hx
    have:=kzP1_pair _ 0 l1 h1 i x hx';rw[Nat.zero_add] at this;rcases this with h3|⟨h3,h4⟩
    ·exact .inl (hm i h3)
    ·exact .inr ⟨List.mem_append.2 (.inl h3),h4⟩
   ·rcases r2 i j x y (by omega) hij hx hy' with h3|⟨h3,h4⟩
    ·exact .inl h3
    ·exact .inr ⟨List.mem_append.2 (.inr h3),h4⟩
end Go.Eng
end
end
end
section
noncomputable section
noncomputable section
namespace Go.Eng
open Go
theorem ob_some {α β:Type} {r:Option α} {f:α→Option β} {b:β} (h:ob r f=some b):∃a,r=some a∧f a=some b:=by
 cases r with
 |none=>cases h
 |some a=>exact⟨a,rfl,h⟩
def avK (G:Nat) (s:Tr Value) (x:Operand):Option Value:=
 Operand.rec (fun t=>getP (pth t) s) (fun v=>Bool.rec none (some v) (plainN 8 v)) (fun g=>Bool.rec none (some (.pointer (some ⟨g,0,none⟩))) (Nat.blt g G)) (fun f=>some (.func (.func f) #[] #[])) x
theorem avK_eq (G:Nat) (s:Tr Value) (x:Operand):avK G s x=av G s x:=by
 cases x with
 |const v=>simp only[avK,av];cases plainN 8 v<;>rfl
 |global g=>simp only[avK,av];cases Nat.blt g G<;>rfl
 |_=>rfl
section
variable {β:Type}
def kzP (x:Option Value) (fb:Option β) (kp:Value→Option β):Option β:=Option.rec fb kp x
def kzM (x:Option R) (fb:Option β) (km:Value→St→Foot→Option β):Option β:=Option.rec fb (fun R=>R.rec km) x
def kzG (x:Option OpR) (fb:Option β) (km:Value→St→Foot→Option β) (ke:FuncId→List Value→Option β):Option β:=Option.rec fb (fun y=>OpR.rec (fun R=>R.rec km) ke y) x
def kzBoo (v:Value) (fb:Option β) (k:Bool→Option β):Option β:=match v with
 | .bool q=>k q
 |_=>fb
def kzMove (x:Operand) (_:Program) (E:Env) (s:Tr Value) (_:St) (_:TypeId) (fb:Option β) (kp:Value→Option β) (_:Value→St→Foot→Option β) (_:FuncId→List Value→Option β):Option β:=kzP (avK E.G s x) fb kp
def kzPick (c a b:Operand) (_:Program) (E:Env) (s:Tr Value) (_:St) (_:TypeId) (fb:Option β) (kp:Value→Option β) (_:Value→St→Foot→Option β) (_:FuncId→List Value→Option β):Option β:=Option.rec fb (fun v=>kzBoo v fb fun q=>Bool.rec (kzP (avK E.G s b) fb kp) (kzP (avK E.G s a) fb kp) q) (avK E.G s c)
def kzAlloc (elem:TypeId) (_:Program) (E:Env) (_:Tr Value) (σ:St) (_:TypeId) (fb:Option β) (_:Value→Option β) (km:Value→St→Foot→Option β) (_:FuncId→List Value→Option β):Option β:=kzM (aAlloc E.T σ elem) fb km
def kzBox (elem:TypeId) (x:Operand) (_:Program) (E:Env) (s:Tr Value) (σ:St) (_:TypeId) (fb:Option β) (_:Value→Option β) (km:Value→St→Foot→Option β) (ke:FuncId→List Value→Option β):Option β:=kzG (kBox E s σ elem x) fb km ke
def kzBuild (t:TypeId) (ps:Array (Nat×Operand)) (_:Program) (E:Env) (s:Tr Value) (σ:St) (_:TypeId) (fb:Option β) (_:Value→Option β) (km:Value→St→Foot→Option β) (ke:FuncId→List Value→Option β):Option β:=kzG (kBuild E s σ t ps) fb km ke
def kzBuildS (t:TypeId) (n:Nat) (ps:Array (Nat×Operand)) (_:Program) (E:Env) (s:Tr Value) (σ:St) (_:TypeId) (fb:Option β) (_:Value→Option β) (km:Value→St→Foot→Option β) (ke:FuncId→List Value→Option β):Option β:=kzG (kBuildSlice E s σ t n ps) fb km ke
def kzLoad (t:TypeId) (a:Operand) (_:Program) (E:Env) (s:Tr Value) (σ:St) (_:TypeId) (fb:Option β) (_:Value→Option β) (km:Value→St→Foot→Option β) (_:FuncId→List Value→Option β):Option β:=Option.rec fb (fun v=>kzM (aLoad E.T σ t v) fb km) (avK E.G s a)
def kzStore (t:TypeId) (a x:Operand) (_:Program) (E:Env) (s:Tr Value) (σ:St) (_:TypeId) (fb:Option β) (_:Value→Option β) (km:Value→St→Foot→Option β) (_:FuncId→List Value→Option β):Option β:=Option.rec fb (fun v=>Option.rec fb (fun u=>kzM (aStore E.T σ t v u) fb km) (avK E.G s x)) (avK E.G s a)
def kzNil (x:Operand) (_:Program) (E:Env) (s:Tr Value) (σ:St) (_:TypeId) (fb:Option β) (_:Value→Option β) (km:Value→St→Foot→Option β) (ke:FuncId→List Value→Option β):Option β:=kzG (kNil E s σ x) fb km ke
def kzBin (op:BinOp) (t:TypeId) (x y:Operand) (_:TypeId) (P:Program) (E:Env) (s:Tr Value) (_:St) (_:TypeId) (fb:Option β) (kp:Value→Option β) (_:Value→St→Foot→Option β) (_:FuncId→List Value→Option β):Option β:=Option.rec fb (fun v=>Option.rec fb (fun u=>kzP (aBin P E.T op t x y v u) fb kp) (avK E.G s y)) (avK E.G s x)
def kzUn (op:UnOp) (_:TypeId) (x:Operand) (P:Program) (E:Env) (s:Tr Value) (σ:St) (_:TypeId) (fb:Option β) (_:Value→Option β) (km:Value→St→Foot→Option β) (ke:FuncId→List Value→Option β):Option β:=kzG (kUn P E s σ op x) fb km ke
def kzConv (src dst:TypeId) (x:Operand) (P:Program) (E:Env) (s:Tr Value) (σ:St) (_:TypeId) (fb:Option β) (_:Value→Option β) (km:Value→St→Foot→Option β) (_:FuncId→List Value→Option β):Option β:=Option.rec fb (fun v=>kzM (aConv P E.T σ src dst v) fb km) (avK E.G s x)
def kzIface (t:TypeId) (x:Operand) (_:Program) (E:Env) (s:Tr Value) (σ:St) (_:TypeId) (fb:Option β) (_:Value→Option β) (km:Value→St→Foot→Option β) (ke:FuncId→List Value→Option β):Option β:=kzG (kIface E s σ t x) fb km ke
def kzFunc (fn:Fn) (first captured:Array Operand) (_:Program) (E:Env) (s:Tr Value) (σ:St) (_:TypeId) (fb:Option β) (_:Value→Option β) (km:Value→St→Foot→Option β) (ke:FuncId→List Value→Option β):Option β:=kzG (kFunc E s σ fn first captured) fb km ke
def kzMake (t:TypeId) (l c:Operand) (_:Program) (E:Env) (s:Tr Value) (σ:St) (_:TypeId) (fb:Option β) (_:Value→Option β) (km:Value→St→Foot→Option β) (ke:FuncId→List Value→Option β):Option β:=kzG (kMake E s σ t l c) fb km ke
def kzSlice (t:TypeId) (x:Operand) (lo hi mx:Option Operand) (_:Program) (E:Env) (s:Tr Value) (σ:St) (_:TypeId) (fb:Option β) (_:Value→Option β) (km:Value→St→Foot→Option β) (ke:FuncId→List Value→Option β):Option β:=kzG (kSlice E s σ t x lo hi mx) fb km ke
def kzFieldA (t:TypeId) (x:Operand) (f:Nat) (_:Program) (E:Env) (s:Tr Value) (σ:St) (_:TypeId) (fb:Option β) (_:Value→Option β) (km:Value→St→Foot→Option β) (_:FuncId→List Value→Option β):Option β:=Option.rec fb (fun v=>kzM (aFieldAddr E.T σ t v f) fb km) (avK E.G s x)
def kzField (t:TypeId) (x:Operand) (f:Nat) (_:Program) (E:Env) (s:Tr Value) (_:St) (_:TypeId) (fb:Option β) (kp:Value→Option β) (_:Value→St→Foot→Option β) (_:FuncId→List Value→Option β):Option β:=Option.rec fb (fun v=>kzP (aField E.T t v f) fb kp) (avK E.G s x)
def kzIndexA (t:TypeId) (x i:Operand) (_:Program) (E:Env) (s:Tr Value) (σ:St) (_:TypeId) (fb:Option β) (_:Value→Option β) (km:Value→St→Foot→Option β) (_:FuncId→List Value→Option β):Option β:=Option.rec fb (fun v=>Option.rec fb (fun u=>kzM (aIndexAddr E.T σ t v u) fb km) (avK E.G s i)) (avK E.G s x)
def kzIndex (t:TypeId) (x i:Operand) (_:Program) (E:Env) (s:Tr Value) (_:St) (_:TypeId) (fb:Option β) (kp:Value→Option β) (_:Value→St→Foot→Option β) (_:FuncId→List Value→Option β):Option β:=Option.rec fb (fun v=>Option.rec fb (fun u=>kzP (aIndex E.T t v u) fb kp) (avK E.G s i)) (avK E.G s x)
def kzRange (t:TypeId) (x:Operand) (_:Program) (E:Env) (s:Tr Value) (σ:St) (_:TypeId) (fb:Option β) (_:Value→Option β) (km:Value→St→Foot→Option β) (ke:FuncId→List Value→Option β):Option β:=kzG (kRange E s σ t x) fb km ke
def kzNext (it:Operand) (isS:Bool) (_:Program) (E:Env) (s:Tr Value) (σ:St) (_:TypeId) (fb:Option β) (_:Value→Option β) (km:Value→St→Foot→Option β) (ke:FuncId→List Value→Option β):Option β:=kzG (kNext E s σ it isS) fb km ke
def kzExtr (x:Operand) (i:Nat) (_:Program) (E:Env) (s:Tr Value) (_:St) (_:TypeId) (fb:Option β) (kp:Value→Option β) (_:Value→St→Foot→Option β) (_:FuncId→List Value→Option β):Option β:=Option.rec fb (fun v=>kzP (aExtract v i) fb kp) (avK E.G s x)
def kzCallO (c:Call) (P:Program) (E:Env) (s:Tr Value) (σ:St) (ty:TypeId) (fb:Option β) (_:Value→Option β) (km:Value→St→Foot→Option β) (ke:FuncId→List Value→Option β):Option β:=kzG (kCall P E s σ c ty) fb km ke
def kzOp (op:Op):(P:Program)→(E:Env)→(s:Tr Value)→(σ:St)→(ty:TypeId)→(fb:Option β)→(kp:Value→Option β)→(km:Value→St→Foot→Option β)→(ke:FuncId→List Value→Option β)→Option β:=
 @Op.rec (fun _=>(P:Program)→(E:Env)→(s:Tr Value)→(σ:St)→(ty:TypeId)→(fb:Option β)→(kp:Value→Option β)→(km:Value→St→Foot→Option β)→(ke:FuncId→List Value→Option β)→Option β) kzMove kzMove kzPick kzAlloc kzBox kzBuild kzBuildS (fun _ _ _ _ _ _ _ _ _ fb _ _ _=>fb) kzLoad kzStore (fun _ _ _ _ _ _ fb _ _ _=>fb) (fun _ _ _ _ _ _ fb _ _ _=>fb) kzNil kzBin kzUn kzConv (fun _ _ _ _ _ _ _ fb _ _ _=>fb) kzIface kzFunc (fun _ _ _ _ _ _ _ fb _ _ _=>fb) (fun _ _ _ _ _ _ _ fb _ _ _=>fb) kzMake kzSlice kzFieldA kzField kzIndexA kzIndex (fun _ _ _ _ _ _ _ _ _ fb _ _ _=>fb) (fun _ _ _ _ _ _ _ _ _ fb _ _ _=>fb) (fun _ _ _ _ _ _ _ _ fb _ _ _=>fb) (fun _ _ _ _ _ _ _ _ _ fb _ _ _=>fb) kzRange kzNext (fun _ _ _ _ _ _ fb _ _ _=>fb) (fun _ _ _ _ _ _ _ _ _ fb _ _ _=>fb) kzExtr kzCallO (fun _ _ _ _ _ _ fb _ _ _=>fb) (fun _ _ _ _ _ _ fb _ _ _=>fb) (fun _ _ _ _ _ _ fb _ _ _=>fb) (fun _ _ _ _ _ _ _ fb _ _ _=>fb) (fun _ _ _ _ _ _ _ _ fb _ _ _=>fb) (fun _ _ _ _ _ _ _ fb _ _ _=>fb) op
def ZOut (σ:St) (x:Option OpR) (fb:Option β) (kp:Value→Option β) (km:Value→St→Foot→Option β) (ke:FuncId→List Value→Option β) (b:β):Prop:=
 (x=none∧fb=some b)∨(∃v,x=some (.val ⟨v,σ,.nil⟩)∧kp v=some b)∨(∃v τ φ,x=some (.val ⟨v,τ,φ⟩)∧km v τ φ=some b)∨∃f args,x=some (.enter f args)∧ke f args=some b
variable {σ:St} {fb:Option β} {kp:Value→Option β} {km:Value→St→Foot→Option β} {ke:FuncId→List Value→Option β} {b:β}
theorem kzP_out {x:Option Value} (h:kzP x fb kp=some b):ZOut σ (pureV σ x) fb kp km ke b:=by
 cases x with
 |none=>exact .inl ⟨rfl,h⟩
 |some v=>exact .inr (.inl ⟨v,rfl,h⟩)
theorem kzM_out {x:Option R} (h:kzM x fb km=some b):ZOut σ (memV x) fb kp km ke b:=by
 cases x with
 |none=>exact .inl ⟨rfl,h⟩
 |some R=>exact .inr (.inr (.inl ⟨R.v,R.σ,R.φ,rfl,h⟩))
theorem kzG_out {x:Option OpR} (h:kzG x fb km ke=some b):ZOut σ x fb kp km ke b:=by
 cases x with
 |none=>exact .inl ⟨rfl,h⟩
 |some y=>cases y with
  |val R=>exact .inr (.inr (.inl ⟨R.v,R.σ,R.φ,rfl,h⟩))
  |enter f args=>exact .inr (.inr (.inr ⟨f,args,rfl,h⟩))
theorem kzOp_out {P:Program} {E:Env} {s:Tr Value} {ty:TypeId} {op:Op} (h:kzOp op P E s σ ty fb kp km ke=some b):ZOut σ (kOp P E s σ ty op) fb kp km ke b:=by
 cases op with
 |move x=>have h:kzP (avK E.G s x) fb kp=some b:=h;rw[avK_eq] at h;exact kzP_out h
 |assign x=>have h:kzP (avK E.G s x) fb kp=some b:=h;rw[avK_eq] at h;exact kzP_out h
 |pick c x y=>
  have h:(Option.rec fb (fun v=>kzBoo v fb fun q=>Bool.rec (kzP (avK E.G s y) fb kp) (kzP (avK E.G s x) fb kp) q) (avK E.G s c):Option β)=some b:=h;simp only[avK_eq] at h;show ZOut σ (kPick E s σ c x y) fb kp km ke b;unfold kPick;cases hc:av E.G s c with
  |none=>rw[hc] at h;exact .inl ⟨rfl,h⟩
  |some v=>
   rw[hc] at h;cases v with
   |bool q=>cases q<;>exact kzP_out h
   |_=>exact .inl ⟨rfl,h⟩
 |alloc elem=>exact kzM_out h
 |box elem x=>exact kzG_out h
 |build t ps=>exact kzG_out h
 |buildSlice t n ps=>exact kzG_out h
 |load t a=>
  have h:(Option.rec fb (fun v=>kzM (aLoad E.T σ t v) fb km) (avK E.G s a):Option β)=some b:=h;rw[avK_eq] at h;show ZOut σ (kLoad E s σ t a) fb kp km ke b;unfold kLoad;cases hc:av E.G s a with
  |none=>rw[hc] at h;exact .inl ⟨rfl,h⟩
  |some v=>rw[hc] at h;exact kzM_out h
 |store t a x=>
  have h:(Option.rec fb (fun v=>Option.rec fb (fun u=>kzM (aStore E.T σ t v u) fb km) (avK E.G s x)) (avK E.G s a):Option β)=some b:=h;simp only[avK_eq] at h;show ZOut σ (kStore E s σ t a x) fb kp km ke b;unfold kStore;cases hc:av E.G s a with
  |none=>rw[hc] at h;exact .inl ⟨rfl,h⟩
  |some v=>
   cases hd:av E.G s x with
   |none=>rw[hc,hd] at h;exact .inl ⟨rfl,h⟩
   |some u=>rw[hc,hd] at h;exact kzM_out h
 |nilCheck x=>exact kzG_out h
 |binOp op t x y u=>
  have h:(Option.rec fb (fun v=>Option.rec fb (fun u=>kzP (aBin P E.T op t x y v u) fb kp) (avK E.G s y)) (avK E.G s x):Option β)=some b:=h;simp only[avK_eq] at h;show ZOut σ (kBin P E s σ op t x y) fb kp km ke b;unfold kBin;cases hc:av E.G s x with
  |none=>rw[hc] at h;exact .inl ⟨rfl,h⟩
  |some v=>
   cases hd:av E.G s y with
   |none=>rw[hc,hd] at h;exact .inl ⟨rfl,h⟩
   |some u=>rw[hc,hd] at h;exact kzP_out h
 |unOp op t x=>exact kzG_out h
 |convert src dst x=>
  have h:(Option.rec fb (fun v=>kzM (aConv P E.T σ src dst v) fb km) (avK E.G s x):Option β)=some b:=h;rw[avK_eq] at h;show ZOut σ (kConv P E s σ src dst x) fb kp km ke b;unfold kConv;cases hc:av E.G s x with
  |none=>rw[hc] at h;exact .inl ⟨rfl,h⟩
  |some v=>rw[hc] at h;exact kzM_out h
 |makeInterface t x=>exact kzG_out h
 |makeFunc fn first captured=>exact kzG_out h
 |makeSlice t l c=>exact kzG_out h
 |slice t x lo hi mx=>exact kzG_out h
 |fieldAddr t x f=>
  have h:(Option.rec fb (fun v=>kzM (aFieldAddr E.T σ t v f) fb km) (avK E.G s x):Option β)=some b:=h;rw[avK_eq] at h;show ZOut σ (kFieldAddr E s σ t x f) fb kp km ke b;unfold kFieldAddr;cases hc:av E.G s x with
  |none=>rw[hc] at h;exact .inl ⟨rfl,h⟩
  |some v=>rw[hc] at h;exact kzM_out h
 |field t x f=>
  have h:(Option.rec fb (fun v=>kzP (aField E.T t v f) fb kp) (avK E.G s x):Option β)=some b:=h;rw[avK_eq] at h;show ZOut σ (kField E s σ t x f) fb kp km ke b;unfold kField;cases hc:av E.G s x with
  |none=>rw[hc] at h;exact .inl ⟨rfl,h⟩
  |some v=>rw[hc] at h;exact kzP_out h
 |indexAddr t x i=>
  have h:(Option.rec fb (fun v=>Option.rec fb (fun u=>kzM (aIndexAddr E.T σ t v u) fb km) (avK E.G s i)) (avK E.G s x):Option β)=some b:=h;simp only[avK_eq] at h;show ZOut σ (kIndexAddr E s σ t x i) fb kp km ke b;unfold kIndexAddr;cases hc:av E.G s x with
  |none=>rw[hc] at h;exact .inl ⟨rfl,h⟩
  |some v=>
   cases hd:av E.G s i with
   |none=>rw[hc,hd] at h;exact .inl ⟨rfl,h⟩
   |some u=>rw[hc,hd] at h;exact kzM_out h
 |index t x i=>
  have h:(Option.rec fb (fun v=>Option.rec fb (fun u=>kzP (aIndex E.T t v u) fb kp) (avK E.G s i)) (avK E.G s x):Option β)=some b:=h;simp only[avK_eq] at h;show ZOut σ (kIndex E s σ t x i) fb kp km ke b;unfold kIndex;cases hc:av E.G s x with
  |none=>rw[hc] at h;exact .inl ⟨rfl,h⟩
  |some v=>
   cases hd:av E.G s i with
   |none=>rw[hc,hd] at h;exact .inl ⟨rfl,h⟩
   |some u=>rw[hc,hd] at h;exact kzP_out h
 |range t x=>exact kzG_out h
 |next it isS=>exact kzG_out h
 |extract x i=>
  have h:(Option.rec fb (fun v=>kzP (aExtract v i) fb kp) (avK E.G s x):Option β)=some b:=h;rw[avK_eq] at h;show ZOut σ (kExtract E s σ x i) fb kp km ke b;unfold kExtract;cases hc:av E.G s x with
  |none=>rw[hc] at h;exact .inl ⟨rfl,h⟩
  |some v=>rw[hc] at h;exact kzP_out h
 |call c=>exact kzG_out h
 |_=>exact .inl ⟨rfl,h⟩
def kzSlow (E:Env) (s:Tr Value) (σ:St) (o:Oper):Option OpR:=Option.rec (mOp E s σ o) (fun r=>some r) (symOp E s σ o)
def kzNth (l:List Oper):Nat→Option Oper:=List.rec (motive:=fun _=>Nat→Option Oper) (fun _=>none) (fun x _ ih j=>Nat.rec (some x) (fun m _=>ih m) j) l
theorem kzNth_eq:∀(l:List Oper) (j:Nat),kzNth l j=oget l j
 |[],j=>by simp[oget];rfl
 |x::xs,0=>rfl
 |x::xs,j+1=>kzNth_eq xs j
def kzTest (v:Value) (want:Bool):Option Bool:=match v with
 | .bool q=>some (Bool.rec (Bool.rec true false want) (Bool.rec false true want) q)
 |v=>bif notB v then some false else none
def kzWant (ops:List Oper) (s:Tr Value) (g:Nat×Bool):Option Bool:=
 Prod.rec (fun j want=>Option.rec (some false) (fun o=>Option.rec (some false) (fun d=>Option.rec none (fun v=>kzTest v want) (getP (pth d) s)) o.dst) (kzNth ops j)) g
theorem kzWant_eq {ops:List Oper} {s:Tr Value} {o:Oper} {g:Nat×Bool} (hg:o.guard=some g):aWanted ops s o=kzWant ops s g:=by
 obtain⟨j,want⟩:=g;simp only[aWanted,hg,kzWant,kzNth_eq];cases oget ops j with
 |none=>rfl
 |some g=>
  simp only;cases g.dst with
  |none=>rfl
  |some d=>
   simp only;show _=(Option.rec none (fun v=>kzTest v want) (s.get d):Option Bool);cases s.get d with
   |none=>rfl
   |some v=>
    cases v<;>first|rfl|skip
    rename_i q;cases q<;>cases want<;>rfl
end
section
variable {β:Type}
abbrev KS (β:Type):Type:=Tr Value→St→Nat→Nat→Option Foot→Option β
abbrev KV (β:Type):Type:=Value→St→Nat→Nat→Option β
abbrev KX (β:Type):Type:=Exit→Tr Value→St→Nat→Nat→Option β
abbrev ZCall (β:Type):Type:=FuncId→List Value→St→KV β→Option β
abbrev ZIH (β:Type):Type:=Option Code→Nat→Code→Tr Value→St→Nat→Nat→KX β→Option β
def kzPut (nt:Nat) (dst:Option Tmp) (s:Tr Value) (v:Value) (σ:St) (r w:Nat) (x:Option Foot) (k:KS β):Option β:=
 Option.rec (k s σ r w x) (fun d=>Bool.rec none (k (s.set d (some v)) σ r w x) (Nat.blt d nt)) dst
def kzVal (nt:Nat) (dst:Option Tmp) (s:Tr Value) (k:KS β) (v:Value) (σ:St) (φ:Foot):Option β:=
 ob (resolve v σ) fun y=>Prod.rec (fun u τ=>kzPut nt dst s u τ (accR φ 0) (accW φ 0) (some φ) k) y
def kzX (cf:CallF) (f:FuncId) (args:List Value) (σ:St):Option Foot:=Option.rec none (fun y=>some y.2.2) (cf f args σ)
def kzGot (cf:CallF) (call:ZCall β) (nt:Nat) (dst:Option Tmp) (s:Tr Value) (σ:St) (k:KS β) (x:OpR):Option β:=
 OpR.rec (fun R=>R.rec (kzVal nt dst s k)) (fun f args=>call f args σ fun v σ1 r w=>ob (resolve v σ1) fun y=>Prod.rec (fun u τ=>kzPut nt dst s u τ r w (kzX cf f args σ) k) y) x
def kzPV (nt:Nat) (dst:Option Tmp) (s:Tr Value) (σ:St) (k:KS β) (v:Value):Option β:=
 ob (resolve v σ) fun y=>Prod.rec (fun u τ=>kzPut nt dst s u τ 0 0 (some .nil) k) y
def kzEnter (cf:CallF) (call:ZCall β) (nt:Nat) (dst:Option Tmp) (s:Tr Value) (σ:St) (k:KS β) (f:FuncId) (args:List Value):Option β:=
 call f args σ fun v σ1 r w=>ob (resolve v σ1) fun y=>Prod.rec (fun u τ=>kzPut nt dst s u τ r w (kzX cf f args σ) k) y
def kzDo (P:Program) (E:Env) (cf:CallF) (call:ZCall β) (nt:Nat) (o:Oper) (s:Tr Value) (σ:St) (k:KS β):Option β:=
 kzOp o.op P E s σ o.type (ob (kzSlow E s σ o) (kzGot cf call nt o.dst s σ k)) (kzPV nt o.dst s σ k) (kzVal nt o.dst s k) (kzEnter cf call nt o.dst s σ k)
def kzStep (P:Program) (E:Env) (cf:CallF) (call:ZCall β) (nt:Nat) (ops:List Oper) (o:Oper) (s:Tr Value) (σ:St) (k:KS β):Option β:=
 Option.rec (kzDo P E cf call nt o s σ k) (fun g=>Option.rec none (fun b=>Bool.rec (kzPut nt o.dst s undef σ 0 0 (some .nil) k) (kzDo P E cf call nt o s σ k) b) (kzWant ops s g)) o.guard
def kzOps (P:Program) (E:Env) (cf:CallF) (call:ZCall β) (nt:Nat) (all:List Oper) (k:KX β) (l:List Oper):Tr Value→St→Nat→Nat→Option β:=
 List.rec (motive:=fun _=>Tr Value→St→Nat→Nat→Option β) (fun s σ r w=>frc r fun r=>frc w fun w=>k .normal s σ r w) (fun o _ ih s σ r w=>kzStep P E cf call nt all o s σ fun s1 σ1 r1 w1 _=>ih s1 σ1 (Nat.lor r r1) (Nat.lor w w1)) l
abbrev KR (β:Type):Type:=List Rec2→Tr Value→St→Option β
def kzSteps (P:Program) (E:Env) (cf:CallF) (call:ZCall β) (nt:Nat) (all:List Oper) (l:List Oper):Tr Value→St→KR β→Option β:=
 List.rec (motive:=fun _=>Tr Value→St→KR β→Option β) (fun s σ k=>k [] s σ) (fun o _ ih s σ k=>kzStep P E cf call nt all o s σ fun s1 σ1 r1 w1 x=>ih s1 σ1 fun recs s2 σ2=>k (⟨Nat.mod r1 (Nat.pow 2 σ.next),Nat.mod w1 (Nat.pow 2 σ.next),σ.next,σ1.next,x,s,σ,s1,σ1⟩::recs) s2 σ2) l
def kzRecR (l:List Rec2) (m:Nat):Nat:=List.rec m (fun a _ ih=>Nat.lor ih a.r) l
def kzRecW (l:List Rec2) (m:Nat):Nat:=List.rec m (fun a _ ih=>Nat.lor ih a.w) l
def kzReg (P:Program) (E:Env) (cf:CallF) (call:ZCall β) (nt:Nat) (ops:Array Oper) (draw:Bool) (s:Tr Value) (σ:St) (r w:Nat) (k:KX β):Option β:=
 Bool.rec (kzOps P E cf call nt ops.toList k ops.toList s σ r w)
  (kzSteps P E cf call nt ops.toList ops.toList s σ fun recs s1 σ1=>Bool.rec none (frc (kzRecR recs r) fun r=>frc (kzRecW recs w) fun w=>k .normal s1 σ1 r w) (kzAll2 E ops recs)) draw
def kzRet (E:Env) (fn:Func) (n:Nat) (kc:KV β) (s:Tr Value) (σ:St) (r w:Nat):Option β:=
 ob (resAll E s σ fn.results.toList) fun y=>Prod.rec (fun vs φ=>frc (Nat.mod (accR φ r) (Nat.pow 2 n)) fun r=>frc (Nat.mod (accW φ w) (Nat.pow 2 n)) fun w=>kc (resV vs) σ r w) y
def kzBody (E:Env) (ih:ZIH β) (fn:Func) (args:List Value) (σ:St) (kc:KV β) (body:Code):Option β:=
 Bool.rec none (ih none fn.ntmps body (initS 0 args .lf) σ 0 0 fun x s1 σ1 r w=>match x with
  | .normal=>kzRet E fn σ.next kc s1 σ1 r w
  | .ret=>kzRet E fn σ.next kc s1 σ1 r w
  |_=>none) (Nat.ble args.length fn.ntmps)
def kzFoot (kc:KV β) (x:Value×St×Foot):Option β:=Prod.rec (fun v y=>Prod.rec (fun σ φ=>kc v σ (accR φ 0) (accW φ 0)) y) x
def kzBy (E:Env) (ih:ZIH β):ZCall β:=fun f args σ kc=>
 Option.rec (Option.rec (Option.rec (Option.rec (Option.rec (ob (E.fn f) fun fn=>ob fn.body (kzBody E ih fn args σ kc)) (fun _=>none) (E.vsp f)) (fun _=>none) (E.osp f)) (fun _=>none) (E.spec f)) (fun v=>ob (callSum E v σ) (kzFoot kc)) (E.sum f args)) (kzFoot kc) (E.cus f args σ)
def kzSeq (ih:ZIH β) (nt:Nat) (c d:Code) (s:Tr Value) (σ:St) (r w:Nat) (k:KX β):Option β:=
 ih none nt c s σ r w fun x s1 σ1 r1 w1=>match x with
  | .normal=>ih none nt d s1 σ1 r1 w1 k
  |x=>k x s1 σ1 r1 w1
def kzScope (ih:ZIH β) (nt:Nat) (c:Code) (s:Tr Value) (σ:St) (r w:Nat) (k:KX β) (body:Code):Option β:=
 ih none nt c s σ r w fun x s1 σ1 r1 w1=>match x with
  | .goto l=>Option.rec (k (.goto l) s1 σ1 r1 w1) (fun rest=>ih (some body) nt rest s1 σ1 r1 w1 k) (findLabel body l)
  |x=>k x s1 σ1 r1 w1
def kzBlock (ih:ZIH β) (nt:Nat) (id:Nat) (c:Code) (s:Tr Value) (σ:St) (r w:Nat) (k:KX β):Option β:=
 ih none nt c s σ r w fun x s1 σ1 r1 w1=>match x with
  | .exit id'=>Bool.rec (k (.exit id') s1 σ1 r1 w1) (k .normal s1 σ1 r1 w1) (Nat.beq id' id)
  |x=>k x s1 σ1 r1 w1
def kzCond (ih:ZIH β) (nt:Nat) (b:Option Value) (c d:Code) (s:Tr Value) (σ:St) (r w:Nat) (k:KX β):Option β:=match b with
 |some (.bool true)=>ih none nt c s σ r w k
 |some (.bool false)=>ih none nt d s σ r w k
 |_=>none
def kzCode (P:Program) (E:Env) (cf:CallF) (ih:ZIH β) (nt:Nat) (s:Tr Value) (σ:St) (r w:Nat) (k:KX β) (c:Code):Option β:=
 match c with
 | .skip=>k .normal s σ r w
 | .label _=>k .normal s σ r w
 | .ret=>k .ret s σ r w
 | .exit id=>k (.exit id) s σ r w
 | .goto l=>k (.goto l) s σ r w
 | .region _ ops draw=>kzReg P E cf (kzBy E ih) nt ops draw s σ r w k
 | .seq x y=>kzSeq ih nt x y s σ r w k
 | .cond cnd x y=>kzCond ih nt (av E.G s cnd) x y s σ r w k
 | .block id body=>kzBlock ih nt id body s σ r w k
 | .loop body=>kzSeq ih nt body (.loop body) s σ r w k
 | .scope body=>ih (some body) nt body s σ r w k
 |_=>none
def kzEv1 (P:Program) (E:Env) (cf:CallF) (ih:ZIH β):ZIH β:=fun sc nt c s σ r w k=>Option.rec (kzCode P E cf ih nt s σ r w k c) (kzScope ih nt c s σ r w k) sc
def kzEv (P:Program) (E:Env) (n:Nat):ZIH β:=Nat.rec (fun _ _ _ _ _ _ _ _=>none) (fun n ih=>kzEv1 P E (kBy E (kEv P E n)) ih) n
def kzRun (P:Program) (E:Env) (n:Nat) (f:FuncId) (args:List Value) (σ:St):Option (Value×St×Nat):=Bool.rec none (kzBy E (kzEv P E n) f args σ fun v σ' _ w=>some (v,σ',w)) E.conc
def ZCOk (call:CallF) (zc:ZCall β):Prop:=∀f args σ kc b,zc f args σ kc=some b→∃v σ' φ r w,call f args σ=some (v,σ',φ)∧CovR r φ∧CovW w φ∧kc v σ' r w=some b
def ZEOk (P:Program) (E:Env) (n:Nat) (z:ZIH β):Prop:=∀sc nt c s σ r w k b,z sc nt c s σ r w k=some b→∃x s' σ' φ r' w',ev P E n sc nt c s σ=some (x,s',σ',φ)∧Acc r w r' w' φ∧k x s' σ' r' w'=some b
variable {P:Program} {E:Env} (hcc:E.conc=true) {call:CallF} {zc:ZCall β} (hc:ZCOk call zc) {nt:Nat}
theorem kzPut_ok {dst:Option Tmp} {s:Tr Value} {v:Value} {σ:St} {r w:Nat} {x:Option Foot} {k:KS β} {b:β} (h:kzPut nt dst s v σ r w x k=some b):∃s',aPut nt s dst v=some s'∧k s' σ r w x=some b:=by
 cases dst with
 |none=>exact⟨s,rfl,h⟩
 |some d=>
  simp only[kzPut] at h;simp only[aPut];cases hb:Nat.blt d nt
  ·rw[hb] at h;cases h
  ·rw[hb] at h;exact⟨_,rfl,h⟩
theorem kzX_ok {f:FuncId} {args:List Value} {σ:St} {v:Value} {σ':St} {φ:Foot} (h:call f args σ=some (v,σ',φ)):∀p,kzX call f args σ=some p→φ=p:=by
 intro p hp;unfold kzX at hp;rw[h] at hp;exact Option.some.inj hp
theorem kzGot_ok {nt:Nat} {dst:Option Tmp} {s:Tr Value} {σ:St} {k:KS β} {b:β} (hc:ZCOk call zc) {a:OpR} (h2:kzGot call zc nt dst s σ k a=some b):
  ∃s' σ' φ r w x,(match a with
   | .val r=>match resolve r.v r.σ with
     |some (v,σ')=>match aPut nt s dst v with
      |some s'=>some (s',σ',r.φ)
      |none=>none
     |none=>none
   | .enter f args=>match call f args σ with
     |some (v,σ1,φ)=>match resolve v σ1 with
      |some (v,σ')=>match aPut nt s dst v with
       |some s'=>some (s',σ',φ)
       |none=>none
      |none=>none
     |none=>none)=some (s',σ',φ)∧CovR r φ∧CovW w φ∧(∀p,x=some p→φ=p)∧k s' σ' r w x=some b:=by
 cases a with
 |val R=>
  obtain⟨v,σ1,φ⟩:=R;obtain⟨⟨u,τ⟩,h3,h4⟩:=ob_some (show ob (resolve v σ1) _=some b from h2);obtain⟨s',h5,h6⟩:=kzPut_ok h4;simp only[h3,h5];exact⟨_,_,_,_,_,_,rfl,accR_ok _ _,accW_ok _ _,fun p hp=>Option.some.inj hp,h6⟩
 |enter f args=>
  obtain⟨v,σ1,φ,r,w,e1,e2,e3,e4⟩:=hc _ _ _ _ _ (show zc f args σ _=some b from h2);obtain⟨⟨u,τ⟩,h3,h4⟩:=ob_some e4;obtain⟨s',h5,h6⟩:=kzPut_ok h4;simp only[e1,h3,h5];exact⟨_,_,_,_,_,_,rfl,e2,e3,kzX_ok e1,h6⟩
include hcc hc
theorem kzDo_ok {ops:List Oper} {o:Oper} {s:Tr Value} {σ:St} {k:KS β} {b:β} (hw:aWanted ops s o=some true) (h:kzDo P E call zc nt o s σ k=some b):
  ∃s' σ' φ r w x,aStep P E call nt ops o s σ=some (s',σ',φ)∧CovR r φ∧CovW w φ∧(∀p,x=some p→φ=p)∧k s' σ' r w x=some b:=by
 have hv:vOpC E s σ o=none:=by unfold vOpC;rw[hcc];rfl
 have key:∀a,aOpS P E s σ o=some a→kzGot call zc nt o.dst s σ k a=some b→∃s' σ' φ r w x,aStep P E call nt ops o s σ=some (s',σ',φ)∧CovR r φ∧CovW w φ∧(∀p,x=some p→φ=p)∧k s' σ' r w x=some b:=fun a h1 h2=>by
  obtain⟨s',σ',φ,r,w,x,e1,e2⟩:=kzGot_ok (call:=call) hc h2;refine⟨s',σ',φ,r,w,x,?_,e2⟩;simp only[aStep,hw,h1];cases a<;>exact e1
 have hS:aOpS P E s σ o=(Option.rec (kzSlow E s σ o) (fun r=>some r) (kOp P E s σ o.type o.op):Option OpR):=by
  rw[←kOpS_eq];unfold kOpS kzSlow;rw[hv]
 rcases kzOp_out h with⟨h1,h2⟩|⟨v,h1,h2⟩|⟨v,τ,φ,h1,h2⟩|⟨f,args,h1,h2⟩
 ·obtain⟨a,h3,h4⟩:=ob_some h2;exact key a (by rw[hS,h1];exact h3) h4
 ·refine(?_:∃s' σ' φ r w x,_);obtain⟨⟨u,τ⟩,h3,h4⟩:=ob_some (show ob (resolve v σ) _=some b from h2);obtain⟨s',h5,h6⟩:=kzPut_ok h4;have h7:aOpS P E s σ o=some (.val ⟨v,σ,.nil⟩):=by rw[hS,h1]
  simp only[aStep,hw,h7,h3,h5];exact⟨_,_,_,_,_,_,rfl,covR_nil _,covW_nil _,fun p hp=>Option.some.inj hp,h6⟩
 ·exact key (.val ⟨v,τ,φ⟩) (by rw[hS,h1]) h2
 ·exact key (.enter f args) (by rw[hS,h1]) h2
theorem kzStep_ok {ops:List Oper} {o:Oper} {s:Tr Value} {σ:St} {k:KS β} {b:β} (h:kzStep P E call zc nt ops o s σ k=some b):
  ∃s' σ' φ r w x,aStep P E call nt ops o s σ=some (s',σ',φ)∧CovR r φ∧CovW w φ∧(∀p,x=some p→φ=p)∧k s' σ' r w x=some b:=by
 unfold kzStep at h;cases hg:o.guard with
 |none=>
  rw[hg] at h;exact kzDo_ok hcc hc (by simp only[aWanted,hg]) h
 |some g=>
  rw[hg] at h;have h:(Option.rec none (fun b=>Bool.rec (kzPut nt o.dst s undef σ 0 0 (some .nil) k) (kzDo P E call zc nt o s σ k) b) (kzWant ops s g):Option β)=some b:=h;rw[←kzWant_eq hg] at h;cases h1:aWanted ops s o with
  |none=>rw[h1] at h;cases h
  |some a=>
   rw[h1] at h;cases a with
   |true=>exact kzDo_ok hcc hc h1 h
   |false=>
    obtain⟨s',h5,h6⟩:=kzPut_ok (show kzPut nt o.dst s undef σ 0 0 (some .nil) k=some b from h);simp only[aStep,h1,h5];exact⟨_,_,_,_,_,_,rfl,covR_nil _,covW_nil _,fun p hp=>Option.some.inj hp,h6⟩
theorem kzOps_ok {all:List Oper} {k:KX β} {b:β}:∀(l:List Oper) (s:Tr Value) (σ:St) (r w:Nat),kzOps P E call zc nt all k l s σ r w=some b→
  ∃s' σ' φ r' w',evOps P E call nt all l s σ=some (s',σ',φ)∧Acc r w r' w' φ∧k .normal s' σ' r' w'=some b
 |[],s,σ,r,w,h=>by
  have h:frc r (fun r=>frc w fun w=>k .normal s σ r w)=some b:=h;rw[frc_eq,frc_eq] at h;exact⟨_,_,_,_,_,rfl,Acc.nil _ _,h⟩
 |o::os,s,σ,r,w,h=>by
  obtain⟨s1,σ1,φ1,r1,w1,x,e1,e2,e3, -,e5⟩:=kzStep_ok hcc hc (show kzStep P E call zc nt all o s σ _=some b from h);obtain⟨s2,σ2,φ2,r2,w2,g1,g2,g3⟩:=kzOps_ok os _ _ _ _ (show kzOps P E call zc nt all k os s1 σ1 (Nat.lor r r1) (Nat.lor w w1)=some b from e5);simp only[evOps,e1,g1];exact⟨_,_,_,_,_,rfl,(Acc.lor e2 e3).trans g2,g3⟩
theorem kzSteps_ok {all:List Oper} {b:β}:∀(l:List Oper) (s:Tr Value) (σ:St) (k:KR β),kzSteps P E call zc nt all l s σ k=some b→
  ∃(S:Nat→Tr Value) (Z:Nat→St) (F:Nat→Foot) (recs:List Rec) (recs':List Rec2),S 0=s∧Z 0=σ∧recs.length=l.length∧recs'.length=l.length∧evSteps P E call nt all l s σ=some (S l.length,Z l.length,recs)∧RecsOf recs' recs∧k recs' (S l.length) (Z l.length)=some b∧
   (∀(i:Nat) o,l[i]?=some o→aStep P E call nt all o (S i) (Z i)=some (S (i+1),Z (i+1),F i))∧(∀i,i<l.length→recs[i]?=some (recOf Z F i))∧
   ∀i a,recs'[i]?=some a→a.s=S i∧a.σ=Z i∧a.s1=S (i+1)∧a.σ1=Z (i+1)∧a.lo=(Z i).next∧a.hi=(Z (i+1)).next∧∀p,a.x=some p→F i=p
 |[],s,σ,k,h=>⟨fun _=>s,fun _=>σ,fun _=>.nil,[],[],rfl,rfl,rfl,rfl,rfl,.nil,h,by simp,by simp,by simp⟩
 |o::os,s,σ,k,h=>by
  obtain⟨s1,σ1,φ1,r1,w1,x,e1,e2,e3,e4,e5⟩:=kzStep_ok hcc hc (show kzStep P E call zc nt all o s σ _=some b from h);obtain⟨S,Z,F,recs,recs',g1,g2,g3,g4,g5,g6,g7,g8,g9,g10⟩:=kzSteps_ok os _ _ _ (show kzSteps P E call zc nt all os s1 σ1 _=some b from e5);subst g1 g2;refine⟨fun i=>match i with|0=>s|i+1=>S i,fun i=>match i with|0=>σ|i+1=>Z i,fun i=>match i with|0=>φ1|i+1=>F i,⟨φ1.trim σ.next,σ.next,(Z 0).next⟩::recs,⟨Nat.mod r1 (Nat.pow 2 σ.next),Nat.mod w1 (Nat.pow 2 σ.next),σ.next,(Z 0).next,x,s,σ,S 0,Z 0⟩::recs',rfl,rfl,by rw[List.length_cons,List.length_cons,g3],by rw[List.length_cons,List.length_cons,g4],?_,.cons ⟨covR_trim e2,covW_trim e3,rfl,rfl,fun p hp=>by rw[e4 p hp]⟩ g6,g7,fun i o' hi=> ?_,fun i hi=> ?_,fun i a ha=> ?_⟩
  ·simp only[evSteps,e1,g5,List.length_cons]
  ·cases i with
   |zero=>simp at hi;subst hi;exact e1
   |succ i=>exact g8 i o' (by simpa using hi)
  ·cases i with
   |zero=>rfl
   |succ i=>
    have:=g9 i (by simpa using hi);rw[List.getElem?_cons_succ];exact this
  ·cases i with
   |zero=>simp at ha;subst ha;exact⟨rfl,rfl,rfl,rfl,rfl,rfl,e4⟩
   |succ i=>exact g10 i a (by simpa using ha)
omit hcc hc
theorem kzRec_ok:∀{l:List Rec2} {l':List Rec} (_:RecsOf l l') (r w:Nat),Acc r w (kzRecR l r) (kzRecW l w) (recsFoot l')
 |_,_,.nil,r,w=>Acc.nil r w
 |a::as,b::bs,.cons h t,r,w=>by
  have q:=kzRec_ok t r w;obtain⟨h1,h2, -⟩:=h;exact⟨fun i hi=>lor_l (q.r0 i hi),fun i hi=>lor_l (q.w0 i hi),fun id hf=>(Foot.add_Fi.1 hf).elim (fun hf=>lor_r (h1 id hf)) fun hf=>lor_l (q.r1 id hf),
   fun id k hf=>(Foot.add_Wc.1 hf).elim (fun hf=>lor_r (h2 id k hf)) fun hf=>lor_l (q.w1 id k hf)⟩
theorem kzFoot_ok {kc:KV β} {x:Option (Value×St×Foot)} {b:β} (h:ob x (kzFoot kc)=some b):∃v σ' φ r w,x=some (v,σ',φ)∧CovR r φ∧CovW w φ∧kc v σ' r w=some b:=by
 obtain⟨⟨v,σ',φ⟩,h1,h2⟩:=ob_some h;exact⟨v,σ',φ,_,_,h1,accR_ok _ _,accW_ok _ _,h2⟩
theorem kzRet_ok {fn:Func} {n:Nat} {kc:KV β} {s:Tr Value} {σ:St} {r w:Nat} {φ0:Foot} {b:β} (hr:CovR r φ0) (hw:CovW w φ0) (h:kzRet E fn n kc s σ r w=some b):
  ∃vs ψ r' w',resAll E s σ fn.results.toList=some (vs,ψ)∧CovR r' ((φ0.add ψ).trim n)∧CovW w' ((φ0.add ψ).trim n)∧kc (resV vs) σ r' w'=some b:=by
 obtain⟨⟨vs,ψ⟩,h1,h2⟩:=ob_some h;have h2:frc (Nat.mod (accR ψ r) (Nat.pow 2 n)) (fun r=>frc (Nat.mod (accW ψ w) (Nat.pow 2 n)) fun w=>kc (resV vs) σ r w)=some b:=h2;rw[frc_eq,frc_eq] at h2;refine⟨vs,ψ,_,_,h1,covR_trim fun id hf=> ?_,covW_trim fun id k hf=> ?_,h2⟩
 ·exact(Foot.add_Fi.1 hf).elim (fun hf=>accR_up _ _ _ (hr id hf)) fun hf=>accR_ok _ _ id hf
 ·exact(Foot.add_Wc.1 hf).elim (fun hf=>accW_up _ _ _ (hw id k hf)) fun hf=>accW_ok _ _ id k hf
theorem kzBy_ok {n:Nat} {z:ZIH β} (hz:ZEOk P E n z):ZCOk (callBy E fun nt c s σ=>ev P E n none nt c s σ) (kzBy E z):=by
 intro f args σ kc b h;unfold kzBy at h;unfold callBy;cases h1:E.cus f args σ with
 |some x=>
  rw[h1] at h;obtain⟨v,σ',φ⟩:=x;exact⟨v,σ',φ,_,_,rfl,accR_ok _ _,accW_ok _ _,h⟩
 |none=>
 rw[h1] at h;cases h2:E.sum f args with
 |some v=>
  rw[h2] at h;simp only;exact kzFoot_ok h
 |none=>
 rw[h2] at h;cases h3:E.spec f with
 |some S=>rw[h3] at h;cases h
 |none=>
 rw[h3] at h;cases h4:E.osp f with
 |some S=>rw[h4] at h;cases h
 |none=>
 rw[h4] at h;cases h5:E.vsp f with
 |some S=>rw[h5] at h;cases h
 |none=>
 rw[h5] at h;obtain⟨fn,h6,h7⟩:=ob_some h;obtain⟨body,h8,h9⟩:=ob_some h7;simp only[h6,h8];unfold kzBody at h9;cases hb:Nat.ble args.length fn.ntmps
 ·rw[hb] at h9;cases h9
 rw[hb] at h9;obtain⟨x,s',σ',φ,r',w',e1,e2,e3⟩:=hz _ _ _ _ _ _ _ _ _ h9;simp only[cond_true,e1];cases x<;>first|(cases e3;done)|skip
 all_goals
  obtain⟨vs,ψ,r2,w2,g1,g2,g3,g4⟩:=kzRet_ok e2.r1 e2.w1 e3;simp only[g1];exact⟨_,_,_,_,_,rfl,g2,g3,g4⟩
theorem kzSp_ok {ops:Array Oper} {S:Nat→Tr Value} {Z:Nat→St} {F:Nat→Foot} {i j:Nat} {x y:Oper} {a c:Rec2} (hx:ops[i]?=some x) (hy:ops[j]?=some y) (hap:x.apart ops y=true)
  (ha:a.s=S i∧a.σ=Z i∧a.s1=S (i+1)∧a.σ1=Z (i+1)∧a.lo=(Z i).next∧a.hi=(Z (i+1)).next∧∀p,a.x=some p→F i=p)
  (hc:c.s=S j∧c.σ=Z j∧c.s1=S (j+1)∧c.σ1=Z (j+1)∧c.lo=(Z j).next∧c.hi=(Z (j+1)).next∧∀p,c.x=some p→F j=p) (h:kzSp E ops i j a c=true):SpE E ops S Z F i j:=by
 obtain⟨a1,a2,a3,a4,a5,a6,a7⟩:=ha;obtain⟨c1,c2,c3,c4,c5,c6,c7⟩:=hc;unfold kzSp at h;simp only[hx,hy] at h
 split at h
 case h_2=>cases h
 rename_i t m k d fa fb hg hop hdst hfa hfb
 split at h
 case h_2=>cases h
 rename_i id0 w1 w2 w3 w4
 split at h
 case h_2=>cases h
 rename_i o1 v u z v1 v2 v3 v4
 split at h
 case h_2=>cases h
 rename_i r hr;simp only[Bool.and_eq_true] at h;obtain⟨h1,h2,h3,h4,h5,h6,h7,h8⟩:=h;have fi:=a7 fa hfa;have fj:=c7 fb hfb;rw[a1] at v2 v3;rw[a3] at v4;rw[c4] at v1;rw[a2] at hr;refine⟨x,y,t,m,k,d,id0,o1,v,u,r,{ lt:=blt_iff.1 h1,lo:= ?_,x0:=hx,y0:=hy,g:=hg,op:=hop,dst:=hdst,ap:=hap,wc:=by rw[fi];exact w1,wh:=by rw[fi];exact w2,nx:= ?_,wcj:=by rw[fj];exact w3,whj:=by rw[fj];exact w4,ho:=v1,vm:=v2,vk:=v3,hz:= ?_,hr:=hr,rc:= ?_,rh:= ?_,me:=h2,one:= ?_}⟩
 ·have:=blt_iff.1 h5;rw[a5] at this;exact this
 ·have:=Nat.eq_of_beq_eq_true h4;rw[a5,a6] at this;exact this
 ·rw[v4,eqV_eq 9 _ _ h6]
 ·simpa using h7
 ·intro id hid;have:=List.all_eq_true.1 h8 id hid;rw[fi];have mn:∀(n:Nat) (l:List Nat),memN n l=true→n∈l:=by
   intro n l
   induction l with
   |nil=>intro h;cases h
   |cons x xs ih=>
    intro h;simp only[memN] at h;cases hb:Nat.beq n x
    ·rw[hb] at h;exact List.mem_cons_of_mem _ (ih h)
    ·rw[Nat.eq_of_beq_eq_true hb];exact List.mem_cons_self ..
  exact mn _ _ this
 ·intro j' y' hy' hm;have:=kzOne_ok h3 j' y' (by rw[Array.getElem?_toList];exact hy') hm;omega
include hcc
theorem kzEv_ok:∀n,ZEOk (β:=β) P E n (kzEv P E n)
 |0=>fun sc nt c s σ r w k b h=>by cases h
 |n+1=>by
  have ih:=kzEv_ok n;have hcall:=kzBy_ok (β:=β) ih;intro sc nt c s σ r w k b h;have hcf:kBy E (kEv P E n)=callBy E fun nt c s σ=>ev P E n none nt c s σ:=by rw[kBy_eq,kEv_eq]
  have h:kzEv1 P E (kBy E (kEv P E n)) (kzEv P E n) sc nt c s σ r w k=some b:=h;rw[hcf] at h;have seq:∀c d:Code,kzSeq (kzEv P E n) nt c d s σ r w k=some b→∃x s' σ' φ r' w',(match ev P E n none nt c s σ with
    |some (e,s1,σ1,φ1)=>match e with
     | .normal=>match ev P E n none nt d s1 σ1 with
       |some (e2,s2,σ2,φ2)=>some (e2,s2,σ2,φ1.add φ2)
       |none=>none
     |e=>some (e,s1,σ1,φ1)
    |none=>none)=some (x,s',σ',φ)∧Acc r w r' w' φ∧k x s' σ' r' w'=some b:=fun c d h=>by
   obtain⟨x,s1,σ1,φ1,r1,w1,e1,e2,e3⟩:=ih _ _ _ _ _ _ _ _ _ h;simp only[e1];cases x<;>first|exact⟨_,_,_,_,_,_,rfl,e2,e3⟩|skip
   obtain⟨y,s2,σ2,φ2,r2,w2,g1,g2,g3⟩:=ih _ _ _ _ _ _ _ _ _ e3;simp only[g1];exact⟨_,_,_,_,_,_,rfl,e2.trans g2,g3⟩
  cases sc with
  |some body=>
   obtain⟨x,s1,σ1,φ1,r1,w1,e1,e2,e3⟩:=ih _ _ _ _ _ _ _ _ _ h;simp only[ev,e1];cases x<;>first|exact⟨_,_,_,_,_,_,rfl,e2,e3⟩|skip
   rename_i l;simp only at e3⊢;cases hl:findLabel body l with
   |none=>rw[hl] at e3;exact⟨_,_,_,_,_,_,rfl,e2,e3⟩
   |some rest=>
    rw[hl] at e3;obtain⟨y,s2,σ2,φ2,r2,w2,g1,g2,g3⟩:=ih _ _ _ _ _ _ _ _ _ e3;simp only[g1];exact⟨_,_,_,_,_,_,rfl,e2.trans g2,g3⟩
  |none=>
   have h:kzCode P E (callBy E fun nt c s σ=>ev P E n none nt c s σ) (kzEv P E n) nt s σ r w k c=some b:=h;cases c with
   |skip=>simp only[ev];exact⟨_,_,_,_,_,_,rfl,Acc.nil _ _,h⟩
   |label l=>simp only[ev];exact⟨_,_,_,_,_,_,rfl,Acc.nil _ _,h⟩
   |ret=>simp only[ev];exact⟨_,_,_,_,_,_,rfl,Acc.nil _ _,h⟩
   |exit id=>simp only[ev];exact⟨_,_,_,_,_,_,rfl,Acc.nil _ _,h⟩
   |goto l=>simp only[ev];exact⟨_,_,_,_,_,_,rfl,Acc.nil _ _,h⟩
   |seq c d=>simp only[ev];exact seq c d h
   |loop c=>simp only[ev];exact seq c (.loop c) h
   |scope body=>simp only[ev];exact ih _ _ _ _ _ _ _ _ _ h
   |cond cnd c d=>
    simp only[kzCode,kzCond] at h;simp only[ev]
    split at h
    ·rename_i hv;simp only[hv];exact ih _ _ _ _ _ _ _ _ _ h
    ·rename_i hv;simp only[hv];exact ih _ _ _ _ _ _ _ _ _ h
    ·cases h
   |block id body=>
    obtain⟨x,s1,σ1,φ1,r1,w1,e1,e2,e3⟩:=ih _ _ _ _ _ _ _ _ _ h;simp only[ev,e1];cases x<;>first|exact⟨_,_,_,_,_,_,rfl,e2,e3⟩|skip
    rename_i id';simp only at e3⊢;cases hb:Nat.beq id' id
    ·rw[hb] at e3;exact⟨_,_,_,_,_,_,rfl,e2,e3⟩
    ·rw[hb] at e3;exact⟨_,_,_,_,_,_,rfl,e2,e3⟩
   |region id ops draw=>
    simp only[kzCode,kzReg] at h;cases draw with
    |false=>
     obtain⟨s',σ',φ,r',w',e1,e2,e3⟩:=kzOps_ok hcc hcall _ _ _ _ _ h;simp only[ev,e1];exact⟨_,_,_,_,_,_,rfl,e2,e3⟩
    |true=>
     obtain⟨S,Z,F,recs,recs',q1,q2,q3,q4,q5,q6,q7,q8,q9,q10⟩:=kzSteps_ok hcc hcall _ _ _ _ h;subst q1 q2;simp only[ev,q5];cases hb:kzAll2 E ops recs'
     ·rw[hb] at q7;cases q7
     ·rw[hb] at q7;have e3:frc (kzRecR recs' r) (fun r=>frc (kzRecW recs' w) fun w=>k .normal (S ops.toList.length) (Z ops.toList.length) r w)=some b:=q7;rw[frc_eq,frc_eq] at e3;have hlen:ops.toList.length=ops.size:=Array.length_toList;have hdr:DrawOK P E (callBy E fun nt c s σ=>ev P E n none nt c s σ) nt ops (S 0) (Z 0) (S ops.toList.length) (Z ops.toList.length) recs:=by
       unfold kzAll2 at hb;cases hp:kzPs ops with
       |none=>rw[hp] at hb;cases hb
       |some ps=>
        rw[hp] at hb;obtain⟨k1,k2⟩:=kzP2_pair ops.toList [] ps hp (by simp) (by simp);refine⟨S,Z,F,rfl,rfl,by rw[hlen],by rw[hlen],by rw[q3,hlen],fun i o hi=>q8 i o (by rw[Array.getElem?_toList];exact hi),fun i hi=>q9 i (by rw[hlen];exact hi),fun j o ho=>k1 j o (Nat.zero_le _) ho,fun i j x y hij hx hy=> ?_⟩
        rcases k2 i j x y (Nat.zero_le _) hij hx hy with h3|⟨h3,h4⟩
        ·exact .inl h3
        ·obtain⟨a,c,g1,g2,g3⟩:=kzDyn2_ok (ps:=ps) hb i j h3;have hjl:=ops_lt hy;obtain⟨a',ga,oa⟩:=q6.get i _ (q9 i (by rw[hlen];omega));obtain⟨c',gc,oc⟩:=q6.get j _ (q9 j (by rw[hlen];omega));rw[g1] at ga;cases ga;rw[g2] at gc;cases gc;rcases g3 with g3|g3
         ·exact .inr (.inl (kzFE_ok h4 g3 oa oc))
         ·exact .inr (.inr (kzSp_ok hx hy h4 (q10 i a g1) (q10 j c g2) g3))
      rw[drawB_t.2 hdr,Bool.or_true,cond_true];exact⟨_,_,_,_,_,_,rfl,kzRec_ok q6 r w,e3⟩
   |_=>simp only[kzCode] at h;cases h
omit hcc
theorem kzRun_ok {n:Nat} {f:FuncId} {args:List Value} {σ:St} {v:Value} {σ':St} {w:Nat} (h:kzRun P E n f args σ=some (v,σ',w)):∃φ,evCall P E n f args σ=some (v,σ',φ)∧CovW w φ:=by
 unfold kzRun at h;cases hcc:E.conc with
 |false=>rw[hcc] at h;cases h
 |true=>
 rw[hcc] at h;obtain⟨v1,σ1,φ,r1,w1,e1, -,e3,e4⟩:=kzBy_ok (kzEv_ok hcc n) _ _ _ _ _ h;simp only[Option.some.injEq,Prod.mk.injEq] at e4;obtain⟨rfl,rfl,rfl⟩:=e4;exact⟨φ,e1,e3⟩
end
end Go.Eng
end
end
end
