/-
  The engine, part 5: an abstract evaluator over the model's code, proved sound. No condition.
-/
import Derived.Test.YtikedhemjoljpaaGreatDoorEng4
section
noncomputable section
noncomputable section
namespace Go.Eng
open Go
def Abs (σ:St) (r:R):Prop:=σ.next≤r.σ.next∧(σ.wf→r.σ.wf∧AFr σ r.σ r.φ)
section
variable {P:Program} {T:TE} {E:Env} {σ:St} {s:Tr Value}
theorem Abs.same (v:Value) (φ:Foot):Abs σ ⟨v,σ,φ⟩:=⟨Nat.le_refl _,fun hw=>⟨hw,AFr.refl _ _⟩⟩
theorem Abs.new (v:Value) (o:AO) (φ:Foot):Abs σ ⟨v,σ.new o,φ⟩:=⟨by simp[St.new],fun hw=>⟨St.new_wf hw _,AFr.new _ _ _⟩⟩
theorem Abs.lput {id off:Nat} {cs cs' vs:List Value} {elem:TypeId} {v:Value} {rc:List (Nat×Nat)} {rh:List Nat} {n:Nat} (hg:σ.heap.get id=some (.row cs elem false)) (hl:lput cs off vs=some cs') (hn:n=vs.length):
  Abs σ ⟨v,σ.put id (some (.row cs' elem false)),⟨rc,rh,locs id off n,[]⟩⟩:=
 ⟨Nat.le_refl _,fun hw=>⟨St.put_wf hw (St.lv_lt hw (St.lv_of hg)) _,AFr.lput hg hl (by rw[hn])⟩⟩
theorem Abs.whole {id:Nat} {o o':AO} {v:Value} (hg:σ.heap.get id=some o):Abs σ ⟨v,σ.put id (some o'),⟨[],[],[],[id]⟩⟩:=
 ⟨Nat.le_refl _,fun hw=>⟨St.put_wf hw (St.lv_lt hw (St.lv_of hg)) _,AFr.whole (by simp)⟩⟩
theorem Abs.giveUp {id:Nat} {o o':AO} {v:Value} {rc:List (Nat×Nat)} (hg:σ.heap.get id=some o):Abs σ ⟨v,(σ.put id none).new o',⟨rc,[],[],[id]⟩⟩:=
 ⟨by simp[St.new,St.put],fun hw=>⟨St.new_wf (St.put_wf hw (St.lv_lt hw (St.lv_of hg)) _) _,AFr.giveUp (by simp)⟩⟩
theorem aNew_abs {elem:TypeId} {cs:List Value} {r:R} (h:aNew T σ elem cs=some r):Abs σ r:=by
 unfold aNew at h;simp only[Bool.cond_eq_ite] at h
 repeat' split at h
 all_goals first|(cases h;exact Abs.new _ _ _)|cases h
theorem aAlloc_abs {elem:TypeId} {r:R} (h:aAlloc T σ elem=some r):Abs σ r:=by
 unfold aAlloc at h;simp only[Bool.cond_eq_ite] at h
 repeat' split at h
 all_goals first|exact aNew_abs h|cases h
theorem aLoad_abs {t:TypeId} {a:Value} {r:R} (h:aLoad T σ t a=some r):Abs σ r:=by
 unfold aLoad at h;simp only[Bool.cond_eq_ite] at h
 repeat' split at h
 all_goals first|(cases h;exact Abs.same _ _)|cases h
theorem aStore_abs {t:TypeId} {a v:Value} {r:R} (h:aStore T σ t a v=some r):Abs σ r:=by
 unfold aStore at h;simp only[Bool.cond_eq_ite] at h
 split at h
 ·split at h
  ·rename_i hg
   split at h
   ·split at h
    ·cases h
    ·split at h
     ·split at h
      ·rename_i hl;cases h;exact Abs.lput hg hl rfl
      ·cases h
     ·cases h
   ·cases h
  ·cases h
 ·cases h
theorem aFieldAddr_abs {t:TypeId} {a:Value} {f:Nat} {r:R} (h:aFieldAddr T σ t a f=some r):Abs σ r:=by
 unfold aFieldAddr at h;simp only[Bool.cond_eq_ite] at h
 repeat' split at h
 all_goals first|(cases h;exact Abs.same _ _)|cases h
theorem aIndexAddr_abs {t:TypeId} {x i:Value} {r:R} (h:aIndexAddr T σ t x i=some r):Abs σ r:=by
 unfold aIndexAddr at h;simp only[Bool.cond_eq_ite] at h
 repeat' split at h
 all_goals first|(cases h;exact Abs.same _ _)|cases h
theorem aSlice_abs {t:TypeId} {x:Value} {lo hi mx:Option Value} {r:R} (h:aSlice T σ t x lo hi mx=some r):Abs σ r:=by
 unfold aSlice at h;simp only[Bool.cond_eq_ite] at h
 repeat' split at h
 all_goals first|(cases h;exact Abs.same _ _)|cases h
theorem aGrow_abs {elem:TypeId} {e:TypeInfo} {z:Value} {old new:List Value} {need:Nat} {rc:List (Nat×Nat)} {r:R} (h:aGrow σ elem e z old new need rc=some r):Abs σ r:=by
 unfold aGrow at h;simp only[Bool.cond_eq_ite] at h
 split at h
 ·cases h;exact Abs.new _ _ _
 ·cases h
theorem aAppend_abs {args:Array TypeId} {x y:Value} {r:R} (h:aAppend T σ args x y=some r):Abs σ r:=by
 unfold aAppend at h;simp only[Bool.cond_eq_ite] at h
 split at h
 ·split at h
  ·split at h
   ·cases h
   ·split at h
    ·split at h
     ·split at h
      ·repeat' split at h
       all_goals first|(cases h;exact Abs.same _ _)|exact aGrow_abs h|cases h
      ·split at h
       ·rename_i hg
        split at h
        ·split at h
         ·cases h;exact Abs.same _ _
         ·split at h
          ·split at h
           ·cases h;exact Abs.giveUp hg
           ·cases h
          ·cases h
        ·split at h
         ·split at h
          ·cases h;exact Abs.same _ _
          ·split at h
           ·rename_i hb
            split at h
            ·rename_i hl;cases h;simp only[Bool.and_eq_true,Bool.not_eq_true'] at hb;have hro:=hb.1.2;subst hro;exact Abs.lput hg hl rfl
            ·cases h
           ·cases h
         ·split at h
          ·exact aGrow_abs h
          ·cases h
       ·cases h
      ·cases h
     ·cases h
    ·cases h
  ·cases h
 ·cases h
theorem aCopy_abs {args:Array TypeId} {x y:Value} {r:R} (h:aCopy T σ args x y=some r):Abs σ r:=by
 unfold aCopy at h;simp only[Bool.cond_eq_ite] at h
 split at h
 ·split at h
  ·split at h
   ·split at h
    ·cases h;exact Abs.same _ _
    ·split at h
     ·split at h
      ·cases h;exact Abs.same _ _
      ·split at h
       ·rename_i hg
        split at h
        ·split at h
         ·rename_i hl;cases h;exact Abs.lput hg hl rfl
         ·cases h
        ·cases h
       ·cases h
     ·cases h
    ·cases h
   ·cases h
  ·cases h
 ·cases h
theorem aBytesToString_abs {x:Value} {r:R} (h:aBytesToString σ x=some r):Abs σ r:=by
 unfold aBytesToString at h
 repeat' split at h
 all_goals first|(cases h;exact Abs.same _ _)|cases h
theorem aStringToBytes_abs {e:TypeId} {x:ByteArray} {r:R} (h:aStringToBytes T σ e x=some r):Abs σ r:=by
 unfold aStringToBytes at h;simp only[Bool.cond_eq_ite] at h
 repeat' split at h
 all_goals first|(cases h;exact Abs.new _ _ _)|cases h
theorem aMakeSlice_abs {t:TypeId} {l c:Value} {r:R} (h:aMakeSlice T σ t l c=some r):Abs σ r:=by
 unfold aMakeSlice at h;simp only[Bool.cond_eq_ite] at h
 repeat' split at h
 all_goals first|(cases h;exact Abs.new _ _ _)|cases h
theorem aBuildSlice_abs {t:TypeId} {n:Nat} {ps:List (Nat×Value)} {r:R} (h:aBuildSlice T σ t n ps=some r):Abs σ r:=by
 unfold aBuildSlice at h;simp only[Bool.cond_eq_ite] at h
 repeat' split at h
 all_goals first|(cases h;exact Abs.new _ _ _)|cases h
theorem aRange_abs {t:TypeId} {x:Value} {r:R} (h:aRange T σ t x=some r):Abs σ r:=by
 unfold aRange at h
 repeat' split at h
 all_goals first|(cases h;exact Abs.new _ _ _)|cases h
theorem aNext_abs {x:Value} {b:Bool} {r:R} (h:aNext σ x b=some r):Abs σ r:=by
 unfold aNext at h;simp only[Bool.cond_eq_ite] at h
 split at h
 ·split at h
  ·rename_i hg
   split at h
   ·cases h;exact Abs.whole hg
   ·cases h;exact Abs.same _ _
  ·cases h
 ·cases h
theorem aToUns_abs {t:TypeId} {x:Value} {r:R} (h:aToUns T σ t x=some r):Abs σ r:=by
 unfold aToUns at h;simp only[Bool.cond_eq_ite] at h
 repeat' split at h
 all_goals first|(cases h;exact Abs.same _ _)|cases h
theorem aFromUns_abs {t:TypeId} {x:Value} {r:R} (h:aFromUns T σ t x=some r):Abs σ r:=by
 unfold aFromUns at h;simp only[Bool.cond_eq_ite] at h
 repeat' split at h
 all_goals first|(cases h;exact Abs.same _ _)|cases h
theorem aUString_abs {t:TypeId} {x:Value} {n:Int} {r:R} (h:aUString T σ t x n=some r):Abs σ r:=by
 unfold aUString at h;simp only[Bool.cond_eq_ite] at h
 split at h
 ·split at h
  ·cases h;exact Abs.same _ _
  ·cases h
 ·split at h
  ·split at h
   ·rename_i hg _
    repeat' split at h
    all_goals first|(cases h;exact Abs.whole hg)|cases h
   ·cases h
  ·cases h
 ·cases h
theorem aConv_abs {a b:TypeId} {x:Value} {r:R} (h:aConv P T σ a b x=some r):Abs σ r:=by
 unfold aConv at h;simp only[Bool.cond_eq_ite] at h
 repeat' split at h
 all_goals first|exact aBytesToString_abs h|exact aStringToBytes_abs h|exact aToUns_abs h|exact aFromUns_abs h|(cases h;exact Abs.same _ _)|cases h
theorem aBuiltin_abs {b:Builtin} {argTypes:Array TypeId} {ty:TypeId} {consts:Array Bool} {args:List Value} {r:R} (h:aBuiltin P T σ b argTypes ty consts args=some r):Abs σ r:=by
 unfold aBuiltin at h;simp only[Bool.cond_eq_ite] at h
 repeat' split at h
 all_goals first|exact aAppend_abs h|exact aCopy_abs h|exact aUString_abs h|(cases h;exact Abs.same _ _)|cases h
theorem pureV_abs {v:Option Value} {r:R} (h:pureV σ v=some (.val r)):Abs σ r:=by
 obtain⟨u,_,rfl⟩:=pureV_spec h;exact Abs.same _ _
theorem aOp_abs {o:Oper} {r:R} (h:aOp P E s σ o=some (.val r)):Abs σ r:=by
 unfold aOp at h;simp only[Bool.cond_eq_ite] at h
 repeat' split at h
 all_goals first
  |exact pureV_abs h
  |exact aAlloc_abs (memV_spec h)
  |exact aNew_abs (memV_spec h)
  |exact aBuildSlice_abs (memV_spec h)
  |exact aLoad_abs (memV_spec h)
  |exact aStore_abs (memV_spec h)
  |exact aConv_abs (memV_spec h)
  |exact aMakeSlice_abs (memV_spec h)
  |exact aSlice_abs (memV_spec h)
  |exact aFieldAddr_abs (memV_spec h)
  |exact aIndexAddr_abs (memV_spec h)
  |exact aRange_abs (memV_spec h)
  |exact aNext_abs (memV_spec h)
  |exact aBuiltin_abs (memV_spec h)
  |cases h
end
end Go.Eng
end
end
end
section
noncomputable section
noncomputable section
namespace Go.Eng
open Go
inductive LR (D:Nat→Prop) (ι:Nat→Reg):List Value→List Value→Prop where
 |nil:LR D ι [] []
 |cons {v u vs us} (h:VR D ι v u) (t:LR D ι vs us):LR D ι (v::vs) (u::us)
section
variable {D:Nat→Prop} {ι:Nat→Reg}
theorem LR.of_AR:∀{vs:List Value} {us:List Value},AR D ι vs.toArray us.toArray→LR D ι vs us
 |[],us,h=>by
  have:us.length=0:=by simpa using h.1.symm
  rw[List.length_eq_zero_iff.1 this];exact .nil
 |v::vs,[],h=>by have:=h.1;simp at this
 |v::vs,u::us,h=>.cons (h.2 0 v u (by simp) (by simp)) (LR.of_AR ⟨by have:=h.1;simp at this;simpa using this,fun i x y hx hy=>h.2 (i+1) x y (by simpa using hx) (by simpa using hy)⟩)
theorem LR.AR:∀{vs us:List Value},LR D ι vs us→AR D ι vs.toArray us.toArray
 |_,_,.nil=>⟨rfl,by simp⟩
 |v::vs,u::us,.cons h t=>by
  obtain⟨h1,h2⟩:=LR.AR t;refine⟨by simpa using h1,fun i x y hx hy=> ?_⟩;rcases i with _|i
  ·simp at hx hy;subst hx hy;exact h
  ·exact h2 i x y (by simpa using hx) (by simpa using hy)
theorem LR.drop:∀(n:Nat) {vs us:List Value},LR D ι vs us→LR D ι (vs.drop n) (us.drop n)
 |0,_,_,h=>h
 |_+1,_,_,.nil=>.nil
 |n+1,_,_,.cons _ t=>LR.drop n t
theorem LR.len {vs us:List Value} (h:LR D ι vs us):vs.length=us.length:=by
 induction h with
 |nil=>rfl
 |cons _ _ ih=>simp[ih]
end
theorem AllP_append {p q:List Bool} (h:AllP (p++q)):AllP p∧AllP q:=by
 induction p with
 |nil=>exact⟨trivial,h⟩
 |cons a p ih=>exact⟨⟨h.1,(ih h.2).1⟩,(ih h.2).2⟩
theorem u8_back {n:Int} (h:inK .u8 n):n=((UInt8.ofNat n.toNat).toNat:Int):=by
 have h1:0≤n:=h.1;have h2:n≤2^8-1:=h.2;rw[UInt8.toNat_ofNat'];omega
def uner:Value→Option Bool
 | .nilIface=>some true
 | .iface _ _=>some false
 | .tuple a=>match a.toList with
   |[.chan (some 3),.bool b]=>some b
   |_=>none
 |_=>none
theorem uner_spec {D:Nat→Prop} {ι:Nat→Reg} {x x':Value} {b:Bool} (h:uner x=some b) (hx:VR D ι x x'):isE b x'=true:=by
 unfold uner at h
 split at h
 ·cases h;cases hx;rfl
 ·cases h;cases hx;rfl
 ·rename_i a
  split at h
  ·rename_i c hc;cases h;rw[tuple_eq hc] at hx;exact er_inv hx
  ·cases h
 ·cases h
def isFn:Value→Option Nat
 | .func (.func g) a b=>match a.toList,b.toList with
   |[],[]=>some g
   |_,_=>none
 |_=>none
theorem isFn_spec {D:Nat→Prop} {ι:Nat→Reg} {v u:Value} {g:Nat} (h:isFn v=some g) (hv:VR D ι v u):u=.func (.func g) #[] #[]:=by
 unfold isFn at h
 split at h
 ·rename_i g' a b
  split at h
  ·rename_i ha hb;cases h;have ha:a=#[]:=by cases a;simp_all
   have hb:b=#[]:=by cases b;simp_all
   subst ha hb;cases hv with
   |func _ _ bs _ ds hs hs' _ _=>
    have:bs=#[]:=Array.eq_empty_of_size_eq_zero (by simpa using hs.symm);have:ds=#[]:=Array.eq_empty_of_size_eq_zero (by simpa using hs'.symm)
    simp_all
  ·cases h
 ·cases h
def St.puts (σ:St):List Nat→St
 |[]=>σ
 |i::is=>(σ.puts is).put i none
section
variable {P:Program} {D:Nat→Prop} {ι:Nat→Reg} {σ:St} {w w':World}
theorem St.puts_next:∀(gs:List Nat),(σ.puts gs).next=σ.next
 |[]=>rfl
 |_::gs=>St.puts_next gs
theorem St.puts_pc:∀(gs:List Nat),(σ.puts gs).pc=σ.pc
 |[]=>rfl
 |_::gs=>St.puts_pc gs
theorem St.puts_get:∀(gs:List Nat) (j:Nat),(σ.puts gs).heap.get j=if j∈gs then none else σ.heap.get j
 |[],j=>by simp[St.puts]
 |g::gs,j=>by
  simp only[St.puts,St.put,Tr.set_get,St.puts_get gs j,List.mem_cons];by_cases h:j=g
  ·simp[h]
  ·simp[h]
theorem St.puts_hdr (gs:List Nat) (j:Nat):(σ.puts gs).H.hdr j=if j∈gs then none else σ.H.hdr j:=by
 simp only[St.H,St.puts_get];split<;>rfl
theorem St.puts_cell (gs:List Nat) (j k:Nat):(σ.puts gs).H.cell j k=if j∈gs then none else σ.H.cell j k:=by
 simp only[St.H,St.puts_get];split<;>rfl
theorem St.puts_wf (hw:σ.wf) (gs:List Nat):(σ.puts gs).wf:=fun id h=>by
 rw[St.puts_next] at h;rw[St.puts_get];split
 ·rfl
 ·exact hw id h
theorem AFr.puts {gs:List Nat} {o:AO} {φ:Foot} (hg:∀id,id∈gs→id∈φ.wh):AFr σ ((σ.puts gs).new o) φ where
 h:=fun id hn hx=>by
  rw[St.new_hdr,St.puts_next,if_neg fun e=>hn (by subst e;simp[St.rng,St.new,St.puts_next]),St.puts_hdr,if_neg fun h=>hx (hg id h)]
 c:=fun id k hn hx=>by
  rw[St.new_cell,St.puts_next,if_neg fun e=>hn (by subst e;simp[St.rng,St.new,St.puts_next]),St.puts_cell,if_neg fun h=>hx (.inr (hg id h))]
 ok:=fun h=>by unfold St.Ok at h⊢;rwa[show((σ.puts gs).new o).pc=σ.pc from St.puts_pc gs] at h
theorem Abs.puts {gs:List Nat} {o:AO} {v:Value} {rc:List (Nat×Nat)} {rh:List Nat}:Abs σ ⟨v,(σ.puts gs).new o,⟨rc,rh,[],gs⟩⟩:=
 ⟨by simp[St.new,St.puts_next],fun hw=>⟨St.new_wf (St.puts_wf hw _) _,AFr.puts fun _ h=>h⟩⟩
theorem St.rng_puts {gs:List Nat} {o:AO} {id:Nat}:σ.rng ((σ.puts gs).new o) id↔id=σ.next:=by simp only[St.rng,St.new,St.puts_next];omega
def vreg (blk base room esz:Nat) (fz:Nat→Option (Array Value)) (sv:Value):Reg:=⟨blk,base,room,esz,true,fz,sv⟩
theorem vecPost {gs:List Nat} {rc:List (Nat×Nat)} {rh:List Nat} {t:Ty} {xs:List t.Den} {elem:TypeId} {r:Reg} (hw:σ.wf)
  (hh:HdrOK P (upd ι σ.next r) σ.next w' (.vec t xs elem)) (hs:w.heap.size≤w'.heap.size) (hos:w'.os=w.os) (hout:w'.output=w.output)
  (hc:∀b,b<w.heap.size→(∀id,id∈gs→Wr σ.H id→¬(ι id).Own b)→w'.heap[b]?=w.heap[b]?) (hl:∀id,id∈gs→Lv σ.H id)
  (ho:r.own=true→(w.heap.size≤r.blk∧r.blk<w'.heap.size)∨∃k,k∈gs∧Wr σ.H k∧(ι k).Own r.blk)
  (hf:∀b,r.Fz b→(w.heap.size≤b∧b<w'.heap.size)∨(∃k,k∈gs∧Wr σ.H k∧(ι k).Own b)∨∃k,(k∈rh∨k∈gs)∧Lv σ.H k∧(ι k).Fz b):
  Post P D (σ.rng ((σ.puts gs).new (.vec t xs elem))) ι σ.H w ⟨rc,rh,[],gs⟩ (upd ι σ.next r) ((σ.puts gs).new (.vec t xs elem)).H w' where
 io:=fun id hn=>upd_ne _ _ fun e=>hn (St.rng_puts.2 e)
 size:=hs
 os:=hos
 out:=hout
 hdr:=by
  intro id x hx e;by_cases he:id=σ.next
  ·subst he;rw[St.new_hdr,St.puts_next,if_pos rfl] at e;cases e;exact hh
  ·rcases hx with hx|hx
   ·have hx:id∈gs:=hx;rw[St.new_hdr,St.puts_next,if_neg he,St.puts_hdr,if_pos hx] at e;cases e
   ·exact absurd (St.rng_puts.1 hx) he
 cel:=by
  intro id k v hx lv e;by_cases he:id=σ.next
  ·subst he;rw[St.new_cell,St.puts_next,if_pos rfl] at e;cases e
  ·rcases hx with(hx|hx)|hx
   ·cases hx
   ·have hx:id∈gs:=hx;rw[St.new_cell,St.puts_next,if_neg he,St.puts_cell,if_pos hx] at e;cases e
   ·exact absurd (St.rng_puts.1 hx) he
 ahdr:=fun id hn hx=>by rw[St.new_hdr,St.puts_next,if_neg fun e=>hn (St.rng_puts.2 e),St.puts_hdr,if_neg (show ¬id∈gs from hx)]
 acel:=fun id k hn hx=>by rw[St.new_cell,St.puts_next,if_neg fun e=>hn (St.rng_puts.2 e),St.puts_cell,if_neg fun h=>hx (.inr h)]
 cfr:=fun b hb hx=>by rw[hc b hb hx];exact ObjBut.refl _ _
 fresh:=fun id hn lv b hb=>by
  obtain rfl:=St.rng_puts.1 hn;rw[upd_eq] at hb;rcases ho hb.1 with h|⟨k,k1,k2,k3⟩
  ·left;rw[←hb.2];exact h
  ·have hne:k≠σ.next:=fun e=>by have:=St.lv_lt hw k2.lv;omega
   refine .inr ⟨k,k1,fun h=>hne (St.rng_puts.1 h),k2,fun⟨y,hy⟩=> ?_,by rw[←hb.2];exact k3⟩;rw[St.new_hdr,St.puts_next,if_neg hne,St.puts_hdr,if_pos k1] at hy;cases hy
 freshF:=fun id hn lv b hb=>by
  obtain rfl:=St.rng_puts.1 hn;rw[upd_eq] at hb;rcases hf b hb with h|⟨k,k1,k2,k3⟩|⟨k,k1,k2,k3⟩
  ·exact .inl h
  ·have hne:k≠σ.next:=fun e=>by have:=St.lv_lt hw k2.lv;omega
   refine .inr (.inl ⟨k,k1,fun h=>hne (St.rng_puts.1 h),k2,fun⟨y,hy⟩=> ?_,k3⟩);rw[St.new_hdr,St.puts_next,if_neg hne,St.puts_hdr,if_pos k1] at hy;cases hy
  ·have hne:k≠σ.next:=fun e=>by have:=St.lv_lt hw k2;omega
   exact .inr (.inr ⟨k,k1.elim (fun h=>.inr (.inl h)) fun h=>.inr (.inr (.inr h)),fun h=>hne (St.rng_puts.1 h),k2,k3⟩)
 dist:=fun i j hi hj _ _ hij=>by
  obtain rfl:=St.rng_puts.1 hi;exact absurd (St.rng_puts.1 hj).symm hij
 nl:=fun id hn=>by
  obtain rfl:=St.rng_puts.1 hn;exact St.hdr_none hw _ (Nat.le_refl _)
 wl:=fun id k hx _=>by
  rcases hx with hx|hx
  ·cases hx
  ·exact hl id hx
 wrm:=fun id hn hx=>by
  by_cases hg:id∈gs
  ·obtain⟨y,hy,_⟩:=hx;rw[St.new_hdr,St.puts_next,if_neg fun e=>hn (St.rng_puts.2 e),St.puts_hdr,if_pos hg] at hy;cases hy
  ·exact hx.of_hdr (by rw[St.new_hdr,St.puts_next,if_neg fun e=>hn (St.rng_puts.2 e),St.puts_hdr,if_neg hg])
 wrow:=fun id k hx hn=>by
  rcases hx with hx|hx
  ·cases hx
  ·exact absurd hx hn
theorem Post.setVec {id:Nat} {t:Ty} {xs xs':List t.Den} {elem:TypeId} {rh:List Nat} {rc:List (Nat×Nat)} (hg:σ.heap.get id=some (.vec t xs elem)) (hh:HdrOK P ι id w' (.vec t xs' elem)) (hs:w.heap.size≤w'.heap.size) (hos:w'.os=w.os) (hout:w'.output=w.output)
  (hc:∀b,b<w.heap.size→¬(ι id).Own b→w'.heap[b]?=w.heap[b]?):
  Post P D (σ.rng (σ.put id (some (.vec t xs' elem)))) ι σ.H w ⟨rc,rh,[],[id]⟩ ι (σ.put id (some (.vec t xs' elem))).H w' where
 io:=fun _ _=>rfl
 size:=hs
 os:=hos
 out:=hout
 hdr:=by
  rintro j x (hx|hx) e
  ·have:j=id:=by simpa[Foot.Wi] using hx
   subst this;rw[St.put_hdr,if_pos rfl] at e;cases e;exact hh
  ·simp only[St.rng,St.put] at hx;omega
 cel:=by
  rintro j k v (hx|hx) lv e
  ·have:j=id:=by simpa[Foot.Wc] using hx
   subst this;rw[St.put_cell,if_pos rfl] at e;cases e
  ·simp only[St.rng,St.put] at hx;omega
 ahdr:=fun j _ hx=>by rw[St.put_hdr,if_neg fun e=>hx (by simp[Foot.Wi,e])]
 acel:=fun j k _ hx=>by rw[St.put_cell,if_neg fun e=>hx (by simp[Foot.Wc,e])]
 cfr:=fun b hb hx=>by
  rw[hc b hb (hx id (by simp[Foot.Wi]) ⟨_,St.hdr_of hg,trivial⟩)];exact ObjBut.refl _ _
 fresh:=fun j hn=>by simp only[St.rng,St.put] at hn;omega
 freshF:=fun j hn=>by simp only[St.rng,St.put] at hn;omega
 dist:=fun i j hn=>by simp only[St.rng,St.put] at hn;omega
 nl:=fun j hn=>by simp only[St.rng,St.put] at hn;omega
 wl:=fun j k hx _=>by
  have:j=id:=by simpa[Foot.Wc] using hx
  subst this;exact St.lv_of hg
 wrm:=fun j _ hx=>by
  by_cases e:j=id
  ·subst e;exact⟨_,St.hdr_of hg,trivial⟩
  ·exact hx.of_hdr (by rw[St.put_hdr,if_neg e])
 wrow:=fun j k hx hn=>absurd (by rcases hx with hx|hx;cases hx;exact hx) hn
structure CD (α:Type) where
 x:α
 r:List Value
 i:List Nat
 g:List Nat
 p:List Bool
def rowC {α:Type} (f:List Value→Option (CD α)):Nat→List Value→Option (CD (List α))
 |0,cs=>some ⟨[],cs,[],[],[]⟩
 |n+1,cs=>match f cs with
  |some ⟨x,r,i,g,p⟩=>match rowC f n r with
   |some ⟨xs,r',j,h,q⟩=>some ⟨x::xs,r',i++j,g++h,p++q⟩
   |none=>none
  |none=>none
def cellsC (σ:St):(t:Ty)→List Value→Option (CD t.Den)
 | .int k,v::r=>match unsy v with
   |some (.int k' n)=>bif decide (k'=k) then some ⟨n,r,[],[],[]⟩ else none
   |_=>none
 | .byte,v::r=>match unsy v with
   |some (.int .u8 n)=>some ⟨UInt8.ofNat n.toNat,r,[],[],[decide (inK .u8 n)]⟩
   |_=>none
 | .bool,v::r=>match unsy v with
   |some (.bool b)=>some ⟨b,r,[],[],[]⟩
   |_=>none
 | .f64,v::r=>match unsy v with
   |some (.float .f64 b)=>some ⟨b,r,[],[],[]⟩
   |_=>none
 | .cx,v::r=>match unsy v with
   |some (.complex .f64 a b)=>some ⟨(a,b),r,[],[],[]⟩
   |_=>none
 | .str,v::r=>match unsy v with
   |some (.string s)=>some ⟨toL s,r,[],[],[]⟩
   |_=>none
 | .unit,cs=>some ⟨(),cs,[],[],[]⟩
 | .pair a b,cs=>match cellsC σ a cs with
   |some ⟨x,r,i,g,p⟩=>match cellsC σ b r with
    |some ⟨y,r',j,h,q⟩=>some ⟨(x,y),r',i++j,g++h,p++q⟩
    |none=>none
   |none=>none
 | .slice a,v::r=>match v with
   | .slice none 0 0=>some ⟨[],r,[],[],[]⟩
   | .slice (some ⟨_,_,some 0⟩) 0 _=>some ⟨[],r,[],[],[]⟩
   | .slice (some ⟨id,off,none⟩) n c=>match σ.heap.get id with
     |some (.row cs _ false)=>match rowC (cellsC σ a) n (cs.drop off) with
      |some ⟨xs,_,i,g,p⟩=>bif Nat.ble (off+n*a.sz) cs.length&&Nat.ble n c then some ⟨xs,r,i,id::g,p⟩ else none
      |none=>none
     |_=>none
   | .tuple arr=>match arr.toList with
     |[.chan (some 2),.pointer (some ⟨id,0,none⟩)]=>match σ.heap.get id with
      |some (.dat t xs)=>if h:t=a then some ⟨h▸xs,r,[id],[],[]⟩ else none
      |some (.vec t xs _)=>if h:t=a then some ⟨h▸xs,r,[],[id],[]⟩ else none
      |_=>none
     |_=>none
   |_=>none
 | .err,v::r=>match uner v with
   |some b=>some ⟨b,r,[],[],[]⟩
   |none=>none
 | .fn f,v::r=>match isFn v with
   |some g=>bif Nat.beq g f then some ⟨(),r,[],[],[]⟩ else none
   |none=>none
 | .fv,v::r=>match isFn v with
   |some g=>some ⟨g,r,[],[],[]⟩
   |none=>none
 | .ref a,v::r=>match v with
   | .pointer (some ⟨id,off,none⟩)=>match σ.heap.get id with
     |some (.row cs _ false)=>match rowC (cellsC σ a) 1 (cs.drop off) with
      |some ⟨xs,_,i,g,p⟩=>match xs with
       |[x]=>bif Nat.ble (off+a.sz) cs.length then some ⟨x,r,i,id::g,p⟩ else none
       |_=>none
      |none=>none
     |_=>none
   |_=>none
 | .clo f a,v::r=>match v with
   | .func (.func g) as cs=>match as.toList with
     |[]=>bif Nat.beq g f then match cellsC σ a cs.toList with
      |some ⟨x,[],i,g,p⟩=>some ⟨x,r,i,g,p⟩
      |_=>none
      else none
     |_=>none
   |_=>none
 |_,[]=>none
open Classical in
def fzC (ι:Nat→Reg) (is gs:List Nat) (w:World):Nat→Option (Array Value):=fun b=>
 if(∃id,id∈is∧(ι id).Fz b)∨∃id,id∈gs∧((ι id).Own b∨(ι id).Fz b) then(match w.heap[b]? with|some (.cells c _ _)=>some c|_=>none) else none
section
variable {is gs:List Nat}
theorem fzC_fz {id:Nat} (hm:id∈is∨id∈gs) (hz:FzOK (ι id).fz w) (b:Nat) (c:Array Value) (h:(ι id).fz b=some c):fzC ι is gs w b=some c:=by
 unfold fzC;rw[if_pos (hm.imp (fun h'=>⟨id,h',c,h⟩) fun h'=>⟨id,h',.inr ⟨c,h⟩⟩)];obtain⟨e,fr,he⟩:=hz b c h;rw[he]
theorem fzC_own {id:Nat} (hm:id∈gs) {b:Nat} (hb:(ι id).Own b) {c:Array Value} {e:TypeId} {fr:Nat×Nat} (h:w.heap[b]?=some (.cells c e fr)):fzC ι is gs w b=some c:=by
 unfold fzC;rw[if_pos (.inr ⟨id,hm,.inl hb⟩),h]
theorem fzC_ok:FzOK (fzC ι is gs w) w:=by
 intro b c h;unfold fzC at h
 split at h
 ·split at h
  ·rename_i c' e fr hh;cases h;exact⟨e,fr,hh⟩
  ·cases h
 ·cases h
theorem fzC_in {b:Nat} {c:Array Value} (h:fzC ι is gs w b=some c):(∃id,id∈is∧(ι id).Fz b)∨∃id,id∈gs∧((ι id).Own b∨(ι id).Fz b):=by
 unfold fzC at h
 split at h
 ·assumption
 ·cases h
theorem rowC_rd {fz:Nat→Option (Array Value)} {a:Ty} (ih:∀(cs us:List Value) (c:CD a.Den),cellsC σ a cs=some c→(∀id,id∈c.i→id∈is)→(∀id,id∈c.g→id∈gs)→AllP c.p→LR D ι cs us→∃u1 u2,us=u1++u2∧RdC fz a c.x u1∧LR D ι c.r u2):
  ∀(n:Nat) (cs us:List Value) (c:CD (List a.Den)),rowC (cellsC σ a) n cs=some c→(∀id,id∈c.i→id∈is)→(∀id,id∈c.g→id∈gs)→AllP c.p→LR D ι cs us→c.x.length=n∧∀i x,c.x[i]?=some x→RdC fz a x ((us.drop (i*a.sz)).take a.sz)
 |0,cs,us,c,h,_,_,_,_=>by
  simp only[rowC,Option.some.injEq] at h;subst h;exact⟨rfl,fun i x hx=>by simp at hx⟩
 |n+1,cs,us,c,h,hi,hg,hp,hl=>by
  simp only[rowC] at h
  split at h
  ·rename_i x r i g q h1
   split at h
   ·rename_i ys r2 j hh q2 h2;cases h;obtain⟨p1,p2⟩:=AllP_append hp;obtain⟨u1,u2,rfl,g1,g2⟩:=ih cs us ⟨x,r,i,g,q⟩ h1 (fun id h=>hi id (by simp at h⊢;exact .inl h)) (fun id h=>hg id (by simp at h⊢;exact .inl h)) p1 hl;obtain⟨k1,k2⟩:=rowC_rd ih n r u2 ⟨ys,r2,j,hh,q2⟩ h2 (fun id h=>hi id (by simp at h⊢;exact .inr h)) (fun id h=>hg id (by simp at h⊢;exact .inr h)) p2 g2
    have hlen:=(dcs_rd a x u1 g1).1;refine⟨by simp at k1⊢;exact k1,fun i y hy=> ?_⟩;rcases i with _|i
    ·simp only[List.getElem?_cons_zero,Option.some.injEq] at hy;subst hy;rw[Nat.zero_mul,List.drop_zero,List.take_append_of_le_length (by omega),List.take_of_length_le (by omega)];exact g1
    ·have:=k2 i y (by simpa using hy);rw[show(i+1)*a.sz=u1.length+i*a.sz by rw[hlen,Nat.add_mul];omega,←List.drop_drop,List.drop_left];exact this
   ·cases h
  ·cases h
theorem cellsC_rd (hd:∀id,id∈is∨id∈gs→∀x,σ.H.hdr id=some x→HdrOK P ι id w x) (hce:∀id,id∈gs→∀k v,Lv σ.H id→σ.H.cell id k=some v→CellOK D ι id w k v):
  ∀(t:Ty) (cs us:List Value) (c:CD t.Den),cellsC σ t cs=some c→(∀id,id∈c.i→id∈is)→(∀id,id∈c.g→id∈gs)→AllP c.p→LR D ι cs us→∃u1 u2,us=u1++u2∧RdC (fzC ι is gs w) t c.x u1∧LR D ι c.r u2:=by
 intro t
 induction t with
 |int k=>
  intro cs us c h _ _ _ hl;cases hl with
  |nil=>simp[cellsC] at h
  |cons hv ht=>
   simp only[cellsC] at h
   split at h
   ·rename_i k' n hu;cases hk:decide (k'=k)
    ·rw[hk] at h;cases h
    ·rw[hk] at h;cases h;have:=of_decide_eq_true hk;subst this;exact⟨[_],_,rfl,by rw[(unsy_spec hu hv).1];rfl,ht⟩
   ·cases h
 |byte=>
  intro cs us c h _ _ hp hl;cases hl with
  |nil=>simp[cellsC] at h
  |cons hv ht=>
   simp only[cellsC] at h
   split at h
   ·rename_i n hu;cases h;refine⟨[_],_,rfl,?_,ht⟩;rw[(unsy_spec hu hv).1];simp only[RdC];rw[←u8_back (of_decide_eq_true hp.1)]
   ·cases h
 |bool=>
  intro cs us c h _ _ _ hl;cases hl with
  |nil=>simp[cellsC] at h
  |cons hv ht=>
   simp only[cellsC] at h
   split at h
   ·rename_i b hu;cases h;exact⟨[_],_,rfl,by rw[(unsy_spec hu hv).1];rfl,ht⟩
   ·cases h
 |ref a ih=>
  intro cs us c h hi hg hp hl;cases hl with
  |nil=>simp[cellsC] at h
  |cons hv ht=>
   simp only[cellsC] at h
   split at h
   ·rename_i id off
    split at h
    ·rename_i cs' el hgt
     split at h
     ·rename_i xs r0 i0 g0 q hr
      split at h
      ·rename_i x;cases hb:Nat.ble (off+a.sz) cs'.length
       ·rw[hb] at h;cases h
       rw[hb,cond_true] at h;have hb:=Nat.le_of_ble_eq_true hb;cases h;have hmem:id∈gs:=hg id (by simp);have hdr:=hd id (.inr hmem) _ (St.hdr_of hgt);obtain⟨arr,e,fr,e1,e2,e3,⟨e4,e5⟩,e6⟩:=hdr;have hfz:=fzC_own (is:=is) hmem (⟨e4,rfl⟩:(ι id).Own (ι id).blk) e1;have hcell:∀k,k<cs'.length→∃u,arr.toList[(ι id).base+k]?=some u∧∃v,cs'[k]?=some v∧VR D ι v u:=by
        intro k hk;obtain⟨_,u,hu,hvu⟩:=hce id hmem k cs'[k] (St.lv_of hgt) (by rw[St.cell_of hgt];exact List.getElem?_eq_getElem hk);have hu:=hu.row e1;simp only[World.cell?,e1,Option.isSome_none,Bool.false_eq_true,if_false] at hu;exact⟨u,by rw[Array.getElem?_toList];exact hu,cs'[k],List.getElem?_eq_getElem hk,hvu⟩
       have hlr:LR D ι (cs'.drop off) (((arr.toList.drop (ι id).base).take cs'.length).drop off):=by
        refine LR.drop off (LR.of_AR ⟨?_,fun i a b ha hb=> ?_⟩)
        ·simp only[List.size_toArray,List.length_take,List.length_drop,Array.length_toList];have:cs'.length≤(ι id).room:=e3;omega
        ·simp only[List.getElem?_toArray] at ha hb;rw[List.getElem?_take] at hb
         split at hb
         ·rename_i hi;obtain⟨u,hu,v,hv',hvu⟩:=hcell i hi;rw[List.getElem?_drop,hu] at hb;rw[hv'] at ha;cases ha;cases hb;exact hvu
         ·cases hb
       obtain⟨k1,k2⟩:=rowC_rd (fz:=fzC ι is gs w) (fun cs us c h1 h2 h3 h4 h5=>ih cs us c h1 h2 h3 h4 h5) 1 _ _ ⟨[x],r0,i0,g0,q⟩ hr hi (fun id h=>hg id (by simp at h⊢;exact .inr h)) hp hlr;have hy2:=k2 0 x rfl;cases hv with
       |ptr _ _ hD=>
        refine⟨[_],_,rfl,⟨(ι id).blk,(ι id).base+off,arr,rfl,hfz,by have:cs'.length≤(ι id).room:=e3;omega,?_⟩,ht⟩;have e:((((arr.toList.drop (ι id).base).take cs'.length).drop off).drop (0*a.sz)).take a.sz=(arr.toList.drop ((ι id).base+off)).take a.sz:=by
         rw[Nat.zero_mul,List.drop_zero,List.drop_take,List.take_take,List.drop_drop];congr 1;omega
        rw[e] at hy2;exact hy2
      ·cases h
     ·cases h
    ·cases h
   ·cases h
 |clo f a ih=>
  intro cs us c h hi hg hp hl;cases hl with
  |nil=>simp[cellsC] at h
  |cons hv ht=>
   simp only[cellsC] at h
   split at h
   ·rename_i g as cs'
    split at h
    ·rename_i has;cases hb:Nat.beq g f
     ·rw[hb] at h;cases h
     rw[hb,cond_true] at h;have:=Nat.eq_of_beq_eq_true hb;subst this
     split at h
     ·rename_i x i0 g0 q hr;cases h;cases hv with
      |func _ _ bs' _ ds' h1 h2 h3 h4=>
       obtain⟨u1,u2,e1,k1,k2⟩:=ih cs'.toList ds'.toList ⟨x,[],i0,g0,q⟩ hr hi hg hp (LR.of_AR ⟨by simpa using h2,by simpa using h4⟩);cases k2;rw[List.append_nil] at e1;subst e1;have hz:bs'=#[]:=by
        have:as=#[]:=Array.toList_eq_nil_iff.1 has;subst this;exact Array.eq_empty_of_size_eq_zero (by simpa using h1.symm)
       subst hz;exact⟨[_],_,rfl,⟨ds'.toList,by simp,k1⟩,ht⟩
     ·cases h
    ·cases h
   ·cases h
 |f64=>
  intro cs us c h _ _ _ hl;cases hl with
  |nil=>simp[cellsC] at h
  |cons hv ht=>
   simp only[cellsC] at h
   split at h
   ·rename_i b hu;cases h;exact⟨[_],_,rfl,by rw[(unsy_spec hu hv).1];rfl,ht⟩
   ·cases h
 |cx=>
  intro cs us c h _ _ _ hl;cases hl with
  |nil=>simp[cellsC] at h
  |cons hv ht=>
   simp only[cellsC] at h
   split at h
   ·rename_i a b hu;cases h;exact⟨[_],_,rfl,by rw[(unsy_spec hu hv).1];rfl,ht⟩
   ·cases h
 |str=>
  intro cs us c h _ _ _ hl;cases hl with
  |nil=>simp[cellsC] at h
  |cons hv ht=>
   simp only[cellsC] at h
   split at h
   ·rename_i b hu;cases h;exact⟨[_],_,rfl,by rw[(unsy_spec hu hv).1];simp only[RdC,bs_toL],ht⟩
   ·cases h
 |unit=>
  intro cs us c h _ _ _ hl;simp only[cellsC,Option.some.injEq] at h;subst h;exact⟨[],us,rfl,rfl,hl⟩
 |err=>
  intro cs us c h _ _ _ hl;cases hl with
  |nil=>simp[cellsC] at h
  |cons hv ht=>
   simp only[cellsC] at h
   split at h
   ·rename_i b hu;cases h;exact⟨[_],_,rfl,⟨_,rfl,uner_spec hu hv⟩,ht⟩
   ·cases h
 |fv=>
  intro cs us c h _ _ _ hl;cases hl with
  |nil=>simp[cellsC] at h
  |cons hv ht=>
   simp only[cellsC] at h
   split at h
   ·rename_i g hu;cases h;exact⟨[_],_,rfl,by rw[isFn_spec hu hv];rfl,ht⟩
   ·cases h
 |fn f=>
  intro cs us c h _ _ _ hl;cases hl with
  |nil=>simp[cellsC] at h
  |cons hv ht=>
   simp only[cellsC] at h
   split at h
   ·rename_i g hu;cases hb:Nat.beq g f
    ·rw[hb] at h;cases h
    ·rw[hb] at h;cases h;have:=Nat.eq_of_beq_eq_true hb;subst this;exact⟨[_],_,rfl,by rw[isFn_spec hu hv];rfl,ht⟩
   ·cases h
 |pair a b iha ihb=>
  intro cs us c h hi hg hp hl;simp only[cellsC] at h
  split at h
  ·rename_i x1 r1 i1 g1 p1 h1
   split at h
   ·rename_i x2 r2 i2 g2 p2 h2;cases h;obtain⟨q1,q2⟩:=AllP_append hp;obtain⟨u1,u2,rfl,k1,k2⟩:=iha cs us ⟨x1,r1,i1,g1,p1⟩ h1 (fun id h=>hi id (by simp at h⊢;exact .inl h)) (fun id h=>hg id (by simp at h⊢;exact .inl h)) q1 hl;obtain⟨v1,v2,rfl,k3,k4⟩:=ihb r1 u2 ⟨x2,r2,i2,g2,p2⟩ h2 (fun id h=>hi id (by simp at h⊢;exact .inr h)) (fun id h=>hg id (by simp at h⊢;exact .inr h)) q2 k2
    exact⟨u1++v1,v2,by simp,⟨u1,v1,rfl,k1,k3⟩,k4⟩
   ·cases h
  ·cases h
 |slice a ih=>
  intro cs us c h hi hg hp hl;cases hl with
  |nil=>simp[cellsC] at h
  |cons hv ht=>
   simp only[cellsC] at h
   split at h
   ·cases h;cases hv;exact⟨[_],_,rfl,⟨_,rfl,.inl ⟨⟨_,_,rfl⟩,rfl⟩⟩,ht⟩
   ·cases h;cases hv;exact⟨[_],_,rfl,⟨_,rfl,.inl ⟨⟨_,_,rfl⟩,rfl⟩⟩,ht⟩
   ·rename_i id off n cp
    split at h
    ·rename_i cs' el hgt
     split at h
     ·rename_i xs r0 i0 g0 q hr;cases hb:(Nat.ble (off+n*a.sz) cs'.length&&Nat.ble n cp)
      ·rw[hb] at h;cases h
      rw[hb,cond_true] at h;rw[Bool.and_eq_true] at hb;have hb2:=Nat.le_of_ble_eq_true hb.2;have hb:=Nat.le_of_ble_eq_true hb.1;cases h;obtain⟨c',rfl,hD,hc1,hc2⟩:=hv.sl_inv;have hmem:id∈gs:=hg id (by simp);have hdr:=hd id (.inr hmem) _ (St.hdr_of hgt);obtain⟨arr,e,fr,e1,e2,e3,⟨e4,e5⟩,e6⟩:=hdr;have hfz:=fzC_own (is:=is) hmem (⟨e4,rfl⟩:(ι id).Own (ι id).blk) e1
      have hcell:∀k,k<cs'.length→∃u,arr.toList[(ι id).base+k]?=some u∧∃v,cs'[k]?=some v∧VR D ι v u:=by
       intro k hk;obtain⟨_,u,hu,hvu⟩:=hce id hmem k cs'[k] (St.lv_of hgt) (by rw[St.cell_of hgt];exact List.getElem?_eq_getElem hk);have hu:=hu.row e1;simp only[World.cell?,e1,Option.isSome_none,Bool.false_eq_true,if_false] at hu;exact⟨u,by rw[Array.getElem?_toList];exact hu,cs'[k],List.getElem?_eq_getElem hk,hvu⟩
      have hlr:LR D ι (cs'.drop off) (((arr.toList.drop (ι id).base).take cs'.length).drop off):=by
       refine LR.drop off (LR.of_AR ⟨?_,fun i a b ha hb=> ?_⟩)
       ·simp only[List.size_toArray,List.length_take,List.length_drop,Array.length_toList];have:cs'.length≤(ι id).room:=e3;omega
       ·simp only[List.getElem?_toArray] at ha hb;rw[List.getElem?_take] at hb
        split at hb
        ·rename_i hi;obtain⟨u,hu,v,hv',hvu⟩:=hcell i hi;rw[List.getElem?_drop,hu] at hb;rw[hv'] at ha;cases ha;cases hb;exact hvu
        ·cases hb
      obtain⟨k1,k2⟩:=rowC_rd (fz:=fzC ι is gs w) (fun cs us c h1 h2 h3 h4 h5=>ih cs us c h1 h2 h3 h4 h5) n _ _ ⟨xs,r0,i0,g0,q⟩ hr hi (fun id h=>hg id (by simp at h⊢;exact .inr h)) hp hlr;have k1:xs.length=n:=k1;have hnc:n≤c':=by
       by_cases hu:cp=unk
       ·exact(hc2 hu).1
       ·rw[hc1 hu];exact hb2
      refine⟨[_],_,rfl,⟨_,rfl,.inr ⟨(ι id).blk,(ι id).base+off,c',arr,by rw[k1],hfz,by rw[k1];have:cs'.length≤(ι id).room:=e3;omega,by rw[k1];exact hnc,fun i y hy=> ?_⟩⟩,ht⟩;have hy2:=k2 i y hy;have hi:i<n:=by
       rcases Nat.lt_or_ge i n with h|h
       ·exact h
       ·have hy:xs[i]?=some y:=hy;rw[List.getElem?_eq_none (by omega)] at hy;cases hy
      have hm:i*a.sz+a.sz≤n*a.sz:=by
       have:=Nat.mul_le_mul_right a.sz hi;rwa[Nat.succ_mul] at this
      have e:((((arr.toList.drop (ι id).base).take cs'.length).drop off).drop (i*a.sz)).take a.sz=(arr.toList.drop ((ι id).base+off+i*a.sz)).take a.sz:=by
       rw[List.drop_drop,List.drop_take,List.take_take,List.drop_drop,Nat.add_assoc];congr 1;omega
      rw[e] at hy2;exact hy2
     ·cases h
    ·cases h
   ·rename_i arr
    split at h
    ·rename_i id ha;rw[tuple_eq ha] at hv;obtain⟨a',l,cp,rfl,hD,hsv⟩:=dt_inv hv
     split at h
     ·rename_i t xs hgt
      split at h
      ·rename_i he;subst he;cases h;have hm:=hi id (by simp);obtain⟨g1, -, -,g4⟩:=hd id (.inl hm) _ (St.hdr_of hgt);rw[hsv] at g1;exact⟨[_],_,rfl,⟨_,rfl,(g1.mono fun b c h=>fzC_fz (.inl hm) g4 b c h)⟩,ht⟩
      ·cases h
     ·rename_i t xs el hgt
      split at h
      ·rename_i he;subst he;cases h;have hm:=hg id (by simp);obtain⟨-,g4,g5⟩:=hd id (.inr hm) _ (St.hdr_of hgt);refine⟨[_],_,rfl,⟨_,rfl,?_⟩,ht⟩;rw[←hsv];refine g5.imp (fun⟨_,e1,q,e2⟩=>⟨⟨_,_,e2⟩,e1⟩) ?_;rintro⟨o1,o2,cap,arr',fr,s1,s2,s3,s4,s5,s6,s7,s8⟩;have hmul:=Nat.mul_le_mul_right t.sz s2;refine⟨_,_,_,arr',s1,fzC_own hm ⟨o1,rfl⟩ s3,(by show(ι id).base+xs.length*t.sz≤arr'.size;omega),s2,fun i x hx=> ?_⟩
       have:=(s8 i x hx).2;rw[List.drop_drop] at this;exact RdC.mono (fun b c h=>fzC_fz (.inr hm) g4 b c h) _ _ _ this
      ·cases h
     ·cases h
    ·cases h
   ·cases h
end
end
end Go.Eng
end
end
end
section
noncomputable section
noncomputable section
namespace Go.Eng
open Go
section
variable {P:Program} {T:TE} (hT:T.OK P) {D:Nat→Prop} {ι:Nat→Reg} {σ:St} {w:World}
def vS2B (T:TE) (σ:St) (elem:TypeId) (s:List UInt8):Option R:=
 match T.inf elem with
 |some i=>bif Nat.beq i.size 1 then some ⟨dt σ.next,σ.new (.vec .byte s elem),.nil⟩ else none
 |none=>none
include hT
theorem vS2B_sound {elem:TypeId} {s:List UInt8} {r:R} (h:vS2B T σ elem s=some r):Sound P D ι σ w (Conv.stringToBytes elem (bs s)) r:=by
 unfold vS2B at h
 split at h
 ·rename_i i hi;cases hb:Nat.beq i.size 1
  ·rw[hb] at h;cases h
  ·rw[hb,cond_true] at h;have hz:=Nat.eq_of_beq_eq_true hb;cases h;refine⟨by simp[St.new],fun hw=>⟨St.new_wf hw _,AFr.new _ _ _⟩,fun hw hD _=> ?_⟩;have hDn:¬D σ.next:=hD _ (by simp[St.rng,St.new]);let cap:=(Question.appendCap (bs s).size 0 elem).cut (w.tape w.drawn (.appendCap (bs s).size 0 elem));have hcap:(bs s).size≤cap:=cut_ge _ _ _ _
   have hsz:(bs s).size=s.length:=rfl;let c:Array Value:=(bs s).data.map (fun b=>Value.int .u8 b.toNat)++Array.replicate (cap-(bs s).size) (.int .u8 0);have hc:c.size=cap:=by
    have hs:(bs s).data.size=(bs s).size:=rfl;simp only[c,Array.size_append,Array.size_map,Array.size_replicate,hs];omega
   let rg0:Reg:=vreg w.heap.size 0 c.size 1 (fun _=>none) (.slice (some ⟨w.heap.size,0,none⟩) s.length cap);refine⟨.slice (some ⟨w.heap.size,0,none⟩) s.length cap,upd ι σ.next rg0,{ w with drawn:=w.drawn+1,heap:=w.heap.push (.cells c elem (c.size,c.size+1))},?_,?_,?_⟩
   ·have hq:(Question.appendCap (bs s).size 0 elem).forced=false:=rfl;have hg:(w.heap.push (.cells c elem (0,0)))[w.heap.size]?=some (.cells c elem (0,0)):=heap_push_new w _;simp only[Conv.stringToBytes,Sem.run_bind,run_choose,hq,Bool.false_eq_true,if_false,Result.andThen_ok,newRow,run_newObj,Sem.run_pure,markStringish,run_shape,World.shape?]
    show((match(match(w.heap.push (.cells c elem (0,0)))[w.heap.size]? with|some (.cells c elem _)=>some (elem,c.size)|_=>none) with|some (_,n)=>freeze { block:=w.heap.size,off:=n} 1|_=>Pure.pure ()).run P _).andThen _=_;rw[hg];simp only[run_freeze,Result.andThen_ok,World.freeze];rw[if_neg (by omega)];simp only[modify_push,beq_self_eq_true,if_true]
    rfl
   ·exact .dat _ _ _ _ (.inr (by simp[St.rng,St.new])) (by rw[upd_eq];rfl)
   ·refine vecPost (gs:=[]) (rc:=[]) (rh:=[]) hw ?_ (by simp) rfl rfl (fun b hb _=>heap_push_old w _ hb) (fun id h=>by cases h) (fun _=>.inl ⟨Nat.le_refl _,by simp[rg0,vreg]⟩) (fun b ⟨c,h⟩=>by cases h);simp only[HdrOK,upd_eq];refine⟨rfl,fun b c h=>(by cases h),.inr ⟨rfl,fun⟨c,h⟩=>(by cases h),cap,c,(c.size,c.size+1),rfl,hcap,heap_push_new w _,by simp[rg0,vreg],?_,fun j hj=> ?_,fun o ho hx=> ?_,fun k x hx=> ?_⟩⟩
    ·simp only[Ty.sz,rg0,vreg,Nat.mul_one];omega
    ·rw[hT.inf _ _ hi] at hj;cases hj;exact⟨hz.symm,by rw[hz];exact Nat.mod_one _,by rw[hz];exact Nat.mod_one _⟩
    ·simp only at hx;omega
    ·have hlt:k<s.length:=by
      rcases Nat.lt_or_ge k s.length with h|h
      ·exact h
      ·rw[List.getElem?_eq_none h] at hx;cases hx
     have hck:c.toList[k]?=some (.int .u8 x.toNat):=by
      rw[Array.getElem?_toList];simp only[c];rw[Array.getElem?_append_left (by simpa[bs] using hlt),Array.getElem?_map,←Array.getElem?_toList];show Option.map _ (s[k]?)=_;rw[hx];rfl
     have hl:k<c.toList.length:=by simp[hc];omega
     simp only[rg0,vreg,List.drop_zero,Ty.sz,Nat.mul_one];refine⟨by omega,?_⟩;rw[List.getElem?_eq_getElem hl,Option.some.injEq] at hck;rw[List.drop_eq_getElem_cons hl,List.take_succ_cons,List.take_zero,hck];rfl
 ·cases h
omit hT
def vB2S (σ:St) (x:Value):Option R:=
 match x with
 | .tuple a=>match a.toList with
   |[.chan (some 2),.pointer (some ⟨id,0,none⟩)]=>match datOf (σ.heap.get id) with
    |some ⟨.byte,xs⟩=>some ⟨sy (.string (bs xs)),σ,⟨[],[id],[],[]⟩⟩
    |_=>none
   |_=>none
 |_=>none
theorem bytes_of_rd {fz:Nat→Option (Array Value)}:∀(xs:List UInt8) (us:List Value),us.length=xs.length→(∀i x,xs[i]?=some x→RdC fz .byte x ((us.drop (i*1)).take 1))→us=bytesV xs
 |[],[],_,_=>rfl
 |[],_::_,h,_=>by simp at h
 |_::_,[],h,_=>by simp at h
 |x::xs,u::us,h,hr=>by
  have h0:=hr 0 x rfl;simp only[RdC,Nat.zero_mul,List.drop_zero,List.take_succ_cons,List.take_zero,List.cons.injEq,and_true] at h0;have:=bytes_of_rd xs us (by simpa using h) fun i y hy=>by
   have:=hr (i+1) y (by simpa using hy);rwa[show(i+1)*1=i*1+1 by omega,List.drop_succ_cons] at this
  rw[h0,this];rfl
theorem bytesOfV_bytesV:∀(xs:List UInt8),bytesOfV (bytesV xs)=some xs
 |[]=>rfl
 |x::xs=>by simp[bytesV,bytesOfV,byteOfV,bytesOfV_bytesV xs]
theorem load_block {b o n:Nat} {arr:Array Value} {e:TypeId} {fr:Nat×Nat} (h:w.heap[b]?=some (.cells arr e fr)) (hle:o+n≤arr.size):
  ∃c:Array Value,(∀w':World,w'.heap=w.heap→(loadCells ⟨b,o,none⟩ n).run P w'=.ok c w')∧c.toList=(arr.toList.drop o).take n:=by
 refine⟨_,fun w' hw'=>run_loadCells w' _ n (fun j=>arr.getD (o+j) undef) fun j hj=> ?_,?_⟩
 ·rw[add_none,cell_heap hw'];simp only[World.cell?,h,Option.isSome_none,Bool.false_eq_true,if_false];rw[Array.getD_eq_getD_getElem?,Array.getElem?_eq_getElem (by omega)];rfl
 ·apply List.ext_getElem?;intro k;simp only[List.getElem?_map,List.getElem?_take];by_cases hk:k<n
  ·rw[if_pos hk,List.getElem?_range hk,List.getElem?_drop,Array.getElem?_toList,Array.getElem?_eq_getElem (by omega)];simp[Array.getD_eq_getD_getElem?,Array.getElem?_eq_getElem (show o+k<arr.size by omega)]
  ·rw[if_neg hk,List.getElem?_eq_none (by simp;omega)];rfl
theorem vB2S_sound {x x':Value} {r:R} (h:vB2S σ x=some r) (hx:VR D ι x x'):Sound P D ι σ w (Conv.bytesToString x') r:=by
 unfold vB2S at h
 split at h
 ·rename_i a
  split at h
  ·rename_i id ha;rw[tuple_eq ha] at hx;obtain⟨q,l,c,rfl,hD,hsv⟩:=dt_inv hx
   split at h
   ·rename_i xs hg;cases h;refine Sound.same (w':=w) (v':=.string (bs xs)) (fun ho=> ?_) rfl rfl;refine⟨?_,.sym _ rfl,rfl,rfl,rfl⟩;have hmem:=mem_of hg (.inr (.inl (by simp))) ho;rcases hmem.rd with⟨⟨q',c',e⟩,hn⟩|⟨b,o,c',arr,el,fr,g1,g2,g3,g4,g5,_⟩
    ·rw[hsv] at e;cases e;subst hn;cases q with
     |none=>rfl
     |some ad=>rfl
    ·rw[hsv] at g1;cases g1;simp only[Ty.sz,Nat.mul_one] at g3 g5;obtain⟨cc,e1,e2⟩:=load_block (P:=P) g2 g3;have hb:=bytes_of_rd xs cc.toList (by rw[e2];simp;omega) fun i x hx=>by
      have h1:=g5 i x hx;have hlt:i<xs.length:=by
       rcases Nat.lt_or_ge i xs.length with h|h
       ·exact h
       ·rw[List.getElem?_eq_none h] at hx;cases hx
      rw[e2,List.drop_take,List.take_take,List.drop_drop,Nat.mul_one];rwa[show min 1 (xs.length-i)=1 by omega]
     have hloop:=b2s_loop (D:=D) (ι:=ι) P w (bytesV xs) cc.toList xs .empty (bytesOfV_bytesV xs) (by rw[hb]) fun k v v' h1 h2=>by
      rw[hb,h1] at h2;cases h2;exact plain_refl 8 v (by
       rw[bytesV_eq] at h1;simp only[List.getElem?_map,Option.map_eq_some_iff] at h1;obtain⟨_,_,rfl⟩:=h1;rfl)
     have he:(⟨(ByteArray.empty).data++xs.toArray⟩:ByteArray)=bs xs:=by apply ByteArray.ext;simp[bs]
     rw[he] at hloop;simp only[Conv.bytesToString,Sem.run_bind,e1 w rfl,Result.andThen_ok];rw[←Array.forIn_toList];have:∀z:Result ByteArray,z=.ok (bs xs) w→(z.andThen fun a w'=>(Pure.pure (Value.string a):Sem Value).run P w')=.ok (.string (bs xs)) w:=fun z hz=>by rw[hz];rfl
     exact this _ hloop
   ·cases h
  ·cases h
 ·cases h
end
end Go.Eng
namespace Go.Eng
open Go
section
variable {fz fz':Nat→Option (Array Value)} {t:Ty}
theorem RdL.mono (h:∀b c,fz b=some c→fz' b=some c) {xs:List t.Den} {cs:List Value} (hr:RdL fz t xs cs):RdL fz' t xs cs:=fun i x hx=>⟨(hr i x hx).1,RdC.mono h _ _ _ (hr i x hx).2⟩
theorem get_lt {α:Type} {l:List α} {i:Nat} {x:α} (h:l[i]?=some x):i<l.length:=by
 rcases Nat.lt_or_ge i l.length with h'|h'
 ·exact h'
 ·rw[List.getElem?_eq_none h'] at h;cases h
theorem el_le {n k s:Nat} (h:k<n):k*s+s≤n*s:=by
 have:=Nat.mul_le_mul_right s (show k+1≤n from h);rwa[Nat.succ_mul] at this
theorem RdL.congr {xs:List t.Den} {cs ds:List Value} (hr:RdL fz t xs cs) (hl:xs.length*t.sz≤ds.length) (he:∀k,k<xs.length*t.sz→ds[k]?=cs[k]?):RdL fz t xs ds:=fun i x hx=>by
 have hi:=el_le (s:=t.sz) (get_lt hx);refine⟨by omega,?_⟩;have:=(hr i x hx).2;have e:(ds.drop (i*t.sz)).take t.sz=(cs.drop (i*t.sz)).take t.sz:=by
  apply List.ext_getElem?;intro k;rw[List.getElem?_take,List.getElem?_take]
  split
  ·rw[List.getElem?_drop,List.getElem?_drop,he _ (by omega)]
  ·rfl
 rw[e];exact this
theorem RdL.app {xs ys:List t.Den} {cs ds:List Value} (hx:RdL fz t xs cs) (hl:cs.length=xs.length*t.sz) (hy:RdL fz t ys ds):RdL fz t (xs++ys) (cs++ds):=fun i x h=>by
 by_cases hi:i<xs.length
 ·rw[List.getElem?_append_left hi] at h;have h1:=hx i x h;have:=el_le (s:=t.sz) hi;refine⟨by rw[List.length_append];omega,?_⟩;rw[List.drop_append_of_le_length (by omega),List.take_append_of_le_length (by rw[List.length_drop];omega)];exact h1.2
 ·rw[List.getElem?_append_right (by omega)] at h;have h1:=hy _ x h;have e:i*t.sz=cs.length+(i-xs.length)*t.sz:=by
   rw[hl,←Nat.add_mul];congr 1;omega
  refine⟨by rw[List.length_append,e];omega,?_⟩;rw[e,←List.drop_drop,List.drop_left];exact h1.2
theorem RdL.set {xs:List t.Den} {cs ds us:List Value} {i:Nat} {x:t.Den} (hr:RdL fz t xs cs) (hi:i<xs.length) (hx:RdC fz t x us) (hu:us.length=t.sz) (hl:ds.length=cs.length)
  (he:∀k,ds[k]?=if i*t.sz≤k∧k<i*t.sz+us.length then us[k-i*t.sz]? else cs[k]?):RdL fz t (xs.set i x) ds:=fun k y hy=>by
 have hk:k<xs.length:=by have:=get_lt hy;simpa using this
 have hle:=el_le (s:=t.sz) hk;have h1:=(hr k xs[k] (List.getElem?_eq_getElem hk)).1;refine⟨by omega,?_⟩;by_cases hki:k=i
 ·subst hki;rw[List.getElem?_set_self hk] at hy;cases hy;have e:(ds.drop (k*t.sz)).take t.sz=us:=by
   apply List.ext_getElem?;intro j;rw[List.getElem?_take]
   split
   ·rw[List.getElem?_drop,he,if_pos (by omega)];congr 1;omega
   ·rw[List.getElem?_eq_none (by omega)]
  rw[e];exact hx
 ·rw[List.getElem?_set_ne (Ne.symm hki)] at hy;have:=(hr k y hy).2;have e:(ds.drop (k*t.sz)).take t.sz=(cs.drop (k*t.sz)).take t.sz:=by
   apply List.ext_getElem?;intro j;rw[List.getElem?_take,List.getElem?_take]
   split
   ·rename_i hj;rw[List.getElem?_drop,List.getElem?_drop,he,if_neg];rintro⟨q1,q2⟩;rcases Nat.lt_or_ge k i with h|h
    ·have:=el_le (s:=t.sz) h;omega
    ·have:=el_le (s:=t.sz) (show i<k by omega);omega
   ·rfl
  rw[e];exact this
theorem RdC_one:∀(t:Ty) (x:t.Den) (cs:List Value),RdC fz t x cs→∀v,v∈cs→oneV v=true:=by
 intro t
 induction t with
 |int k=>intro x cs h v hv;simp only[RdC] at h;subst h;rw[List.mem_singleton] at hv;subst hv;rfl
 |byte=>intro x cs h v hv;simp only[RdC] at h;subst h;rw[List.mem_singleton] at hv;subst hv;rfl
 |bool=>intro x cs h v hv;simp only[RdC] at h;subst h;rw[List.mem_singleton] at hv;subst hv;rfl
 |str=>intro x cs h v hv;simp only[RdC] at h;subst h;rw[List.mem_singleton] at hv;subst hv;rfl
 |unit=>intro x cs h v hv;simp only[RdC] at h;subst h;cases hv
 |pair a b iha ihb=>
  intro x cs h v hv;simp only[RdC] at h;obtain⟨c1,c2,rfl,h1,h2⟩:=h;rcases List.mem_append.1 hv with hv|hv
  ·exact iha _ _ h1 v hv
  ·exact ihb _ _ h2 v hv
 |slice a ih=>
  intro x cs h v hv;simp only[RdC] at h;obtain⟨sv,rfl,h⟩:=h;rw[List.mem_singleton] at hv;subst hv;rcases h with⟨⟨q,c,rfl⟩,_⟩|⟨b,o,c,arr,rfl,_⟩<;>rfl
 |err=>
  intro x cs h v hv;obtain⟨u,rfl,hu⟩:=h;rw[List.mem_singleton] at hv;subst hv;cases v<;>first|rfl|cases hu
 |fn f=>intro x cs h v hv;simp only[RdC] at h;subst h;rw[List.mem_singleton] at hv;subst hv;rfl
 |fv=>intro x cs h v hv;simp only[RdC] at h;subst h;rw[List.mem_singleton] at hv;subst hv;rfl
 |f64=>intro x cs h v hv;simp only[RdC] at h;subst h;rw[List.mem_singleton] at hv;subst hv;rfl
 |cx=>intro x cs h v hv;simp only[RdC] at h;subst h;rw[List.mem_singleton] at hv;subst hv;rfl
 |ref a ih=>intro x cs h v hv;simp only[RdC] at h;obtain⟨b,o,arr,rfl,_⟩:=h;rw[List.mem_singleton] at hv;subst hv;rfl
 |clo f a ih=>intro x cs h v hv;simp only[RdC] at h;obtain⟨us,rfl,_⟩:=h;rw[List.mem_singleton] at hv;subst hv;rfl
theorem RdL_one {xs:List t.Den} {cs:List Value} (h:RdL fz t xs cs) (hl:cs.length=xs.length*t.sz):∀v,v∈cs→oneV v=true:=by
 intro v hv;obtain⟨k,hk,rfl⟩:=List.mem_iff_getElem.1 hv;have hz:0<t.sz:=by
  rcases Nat.eq_zero_or_pos t.sz with h0|h0
  ·rw[h0] at hl;omega
  ·exact h0
 have hi:k/t.sz<xs.length:=(Nat.div_lt_iff_lt_mul hz).2 (by omega);have hr:=(h _ _ (List.getElem?_eq_getElem hi)).2;refine RdC_one t _ _ hr _ ?_;have hm:=Nat.div_add_mod k t.sz;have hlt:=Nat.mod_lt k hz;rw[List.mem_iff_getElem?];refine⟨k%t.sz,?_⟩;rw[List.getElem?_take,if_pos hlt,List.getElem?_drop,show k/t.sz*t.sz+k%t.sz=k by rw[Nat.mul_comm];exact hm,List.getElem?_eq_getElem hk]
end
section
variable {P:Program} {T:TE} (hT:T.OK P) {D:Nat→Prop} {ι:Nat→Reg} {σ:St} {w:World}
def vStore (T:TE) (σ:St) (t:TypeId) (a v:Value):Option R:=
 match a with
 | .pointer (some ⟨id,i,some 0⟩)=>match σ.heap.get id,T.inf t with
   |some (.vec te xs elem),some ti=>match v.cells.toList with
    |[]=>none
    |y::ys=>bif Nat.beq ti.size (ys.length+1)&&Nat.beq te.sz (ys.length+1)&&(y::ys).all oneC then match cellsC σ te (y::ys) with
      |some ⟨x,[],[],[],ps⟩=>some ⟨undef,((σ.put id (some (.vec te (xs.set i x) elem))).assumes ps).assume (decide (i<xs.length)),⟨[],[],[],[id]⟩⟩
      |_=>none
     else none
   |_,_=>none
 |_=>none
include hT
theorem vStore_sound {t:TypeId} {a a' v v':Value} {r:R} (h:vStore T σ t a v=some r) (hok:r.σ.Ok) (ha:VR D ι a a') (hv:VR D ι v v'):Sound P D ι σ w (do Instr.storeAt t a' v';Pure.pure undef) r:=by
 unfold vStore at h
 split at h
 ·rename_i id i;obtain⟨b,o,l,c0,rfl,hD,hsv⟩:=pel_inv ha
  split at h
  ·rename_i te xs elem ti hg hi
   split at h
   ·cases h
   ·rename_i y ys hcs;cases hb:(Nat.beq ti.size (ys.length+1)&&Nat.beq te.sz (ys.length+1)&&(y::ys).all oneC)
    ·rw[hb] at h;cases h
    rw[hb,cond_true] at h;rw[Bool.and_eq_true,Bool.and_eq_true] at hb;obtain⟨⟨hb1,hb2⟩,hb3⟩:=hb;have hb1:=Nat.eq_of_beq_eq_true hb1;have hb2:=Nat.eq_of_beq_eq_true hb2
    split at h
    ·rename_i x ps hc;cases h;have hlt:i<xs.length:=of_decide_eq_true hok.1;obtain⟨hps, -⟩:=(assumes_ok _ _).1 hok.2;refine Sound.assume (Sound.assumes ps ⟨Nat.le_refl _,fun hw=>⟨St.put_wf hw (St.lv_lt hw (St.lv_of hg)) _,AFr.whole (by simp)⟩,fun hw hDn ho=> ?_⟩);obtain⟨e1,e2,e3⟩:=ho.hd id _ (.inr (.inr (.inr (by simp)))) (St.hdr_of hg)
     rcases e3 with⟨_,hn,_⟩|⟨g1,g2,cap,c,fr,g3,g4,g5,g6,g7,g8,g9,g10⟩
     ·rw[hn] at hlt;simp at hlt
     obtain⟨rfl,rfl,rfl,rfl⟩:b=(ι id).blk∧o=(ι id).base∧l=xs.length∧cap=c0:=by
      rw[hsv] at g3;simp only[Value.slice.injEq,Option.some.injEq,Addr.mk.injEq,and_true] at g3;exact⟨g3.1.1,g3.1.2,g3.2.1,g3.2.2.symm⟩
     have hnj:notJ v=true:=by
      cases v with
      |chan r=>cases r with
       |none=>rfl
       |some r=>
        have hx2:[Value.chan (some r)]=y::ys:=hcs;rw[←hx2] at hb3;cases hb3
      |_=>rfl
     obtain⟨c1,c2⟩:=hv.cells hnj;have hlr:LR D ι (y::ys) v'.cells.toList:=LR.of_AR ⟨by rw[←hcs];simpa using c1,fun k u u' h1 h2=>c2 k u u' (by rw[←hcs] at h1;simpa using h1) (by simpa using h2)⟩;obtain⟨u1,u2,hu,hrd,hr2⟩:=cellsC_rd (is:=[]) (gs:=[]) (P:=P) (w:=w) (fun id h=>by simp at h) (fun id h=>by simp at h) te (y::ys) v'.cells.toList _ hc (fun id h=>by simp at h) (fun id h=>by simp at h) hps hlr
     cases hr2;rw[List.append_nil] at hu;subst hu;have hrd:RdC (ι id).fz te x v'.cells.toList:=RdC.mono (fun b c h=>by rcases fzC_in h with⟨_,h,_⟩|⟨_,h,_⟩<;>cases h) _ _ _ hrd;have hlen:v'.cells.toList.length=te.sz:=by rw[hb2];exact hlr.len.symm
     have hle:=el_le (s:=te.sz) hlt;have hcap:=Nat.mul_le_mul_right te.sz g4;have hrun:=run_storeL P (ι id).blk ((ι id).base+i*(ι id).esz+0) elem fr v'.cells.toList 0 c w g5 (by rw[e1];omega) (RdC_one te _ _ hrd) g9;rw[e1] at hrun;refine⟨undef,ι,_,?_,.tuple #[] #[] rfl (by simp),Post.setVec hg (w':={ w with heap:=w.heap.setIfInBounds (ι id).blk (.cells (setL c ((ι id).base+i*te.sz+0+0) v'.cells.toList) elem fr)}) ?_ (by simp) rfl rfl fun b hb hno=> ?_⟩
     ·have hsz:¬v'.cells.size≠ti.size:=by
       have:v'.cells.toList.length=ti.size:=by rw[hlen,hb1,hb2]
       simpa using this
      simp only[Instr.storeAt,Instr.sureAddr,storeVar,Sem.run_bind,Sem.run_pure,Result.andThen_ok,run_siz hT hi];rw[if_neg hsz,e1,hrun];rfl
     ·have hblk:=heap_lt g5;refine⟨e1,e2.keep fun b c' hb=> ?_,.inr ⟨g1,g2,cap,setL c ((ι id).base+i*te.sz+0+0) v'.cells.toList,fr,by rw[List.length_set];exact hsv,by rw[List.length_set];exact g4,by simp[hblk],by rw[setL_size];exact g6,g7,fun j hj=>by rw[setL_size];exact g8 j hj,fun o ho=>g9 o (by rwa[setL_size] at ho),?_⟩⟩
      ·have hne:(ι id).blk≠b:=fun e=>g2 ⟨c',by rw[e];exact hb⟩
       simp[hne]
      ·refine RdL.set g10 hlt hrd hlen (by simp[setL_size]) fun k=> ?_
       rw[List.getElem?_drop,Array.getElem?_toList,setL_get _ _ _ _ (by omega),List.getElem?_drop,Array.getElem?_toList];by_cases hk:i*te.sz≤k∧k<i*te.sz+v'.cells.toList.length
       ·rw[if_pos (by omega),if_pos hk,show(ι id).base+k-((ι id).base+i*te.sz+0+0)=k-i*te.sz by omega];exact(Array.getElem?_toList).symm
       ·rw[if_neg (by omega),if_neg hk];exact(Array.getElem?_toList).symm
     ·have hne:(ι id).blk≠b:=fun e=>hno ⟨g1,e⟩
      simp[hne]
    ·cases h
  ·cases h
 ·cases h
omit hT
end
end Go.Eng
namespace Go.Eng
open Go
section
variable {P:Program} {T:TE} (hT:T.OK P) {D:Nat→Prop} {ι:Nat→Reg} {σ:St} {w:World}
def isLive (σ:St):List Nat→Bool
 |[]=>true
 |i::is=>match σ.heap.get i with
  |some _=>isLive σ is
  |none=>false
def isWr (σ:St):List Nat→Bool
 |[]=>true
 |i::is=>match σ.heap.get i with
  |some (.row _ _ false)=>isWr σ is
  |some (.vec _ _ _)=>isWr σ is
  |_=>false
def memL:Nat→List Nat→Bool
 |_,[]=>false
 |n,x::xs=>bif Nat.beq n x then true else memL n xs
def memAny:List Nat→List Nat→Bool
 |[],_=>false
 |i::is,l=>memL i l||memAny is l
theorem isLive_spec:∀{l:List Nat},isLive σ l=true→∀id,id∈l→Lv σ.H id
 |[],_,_,h=>by cases h
 |i::is,h,id,hm=>by
  simp only[isLive] at h
  split at h
  ·rename_i o ho;rcases List.mem_cons.1 hm with rfl|hm
   ·exact St.lv_of ho
   ·exact isLive_spec h id hm
  ·cases h
theorem isWr_spec:∀{l:List Nat},isWr σ l=true→∀id,id∈l→Wr σ.H id
 |[],_,_,h=>by cases h
 |i::is,h,id,hm=>by
  simp only[isWr] at h
  split at h
  ·rename_i cs e ho;rcases List.mem_cons.1 hm with rfl|hm
   ·exact⟨_,St.hdr_of ho,rfl⟩
   ·exact isWr_spec h id hm
  ·rename_i t xs e ho;rcases List.mem_cons.1 hm with rfl|hm
   ·exact⟨_,St.hdr_of ho,trivial⟩
   ·exact isWr_spec h id hm
  ·cases h
theorem memL_spec {n:Nat}:∀{l:List Nat},memL n l=false→n∉l
 |[],_=>by simp
 |x::xs,h=>by
  simp only[memL] at h;cases hb:Nat.beq n x
  ·rw[hb,cond_false] at h;have hne:n≠x:=fun e=>by rw[beq_t e] at hb;cases hb
   simp only[List.mem_cons,not_or];exact⟨hne,memL_spec h⟩
  ·rw[hb] at h;cases h
theorem memAny_spec:∀{l m:List Nat},memAny l m=false→∀id,id∈l→id∉m
 |[],_,_,_,h=>by cases h
 |i::is,m,h,id,hm=>by
  simp only[memAny,Bool.or_eq_false_iff] at h;rcases List.mem_cons.1 hm with rfl|hm
  ·exact memL_spec h.1
  ·exact memAny_spec h.2 id hm
def vList (σ:St) (t:Ty) (elem:TypeId) (s:Value):Option (List t.Den×List Nat):=
 match s with
 | .slice none 0 0=>some ([],[])
 | .tuple a=>match a.toList with
   |[.chan (some 2),.pointer (some ⟨id,0,none⟩)]=>match σ.heap.get id with
    |some (.vec t' xs e)=>if h:t'=t then(bif Nat.beq e elem then some (h▸xs,[id]) else none) else none
    |_=>none
   |_=>none
 |_=>none
def isTup:Value→Bool
 | .tuple _=>true
 |_=>false
def vListA (σ:St) (t:Ty) (elem:TypeId) (s x:Value):Option (List t.Den×List Nat):=
 match s with
 | .slice (some ⟨_,_,none⟩) 0 0=>bif isTup x then some ([],[]) else none
 |s=>vList σ t elem s
def strB (t:Ty) (s:List UInt8):Option (List t.Den):=match t with
 | .byte=>some s
 |_=>none
def vArg (σ:St) (t:Ty) (x:Value):Option (CD (List t.Den)):=
 match unsy x with
 |some (.string s)=>match strB t (toL s) with
  |some l=>some ⟨l,[],[],[],[]⟩
  |none=>none
 |_=>cellsC σ (.slice t) [x]
def vApp (T:TE) (vt:TypeId→Option Ty) (σ:St) (args:Array TypeId) (s x:Value):Option R:=
 match args.toList with
 |sT::xT::_=>match T.und sT,T.und xT with
  |some (.slice elem),some d=>bif isIntD d then none else match vt elem,T.inf elem with
   |some t,some e=>match e.zero,vListA σ t elem s x,vArg σ t x with
    |some z,some (xs,gs),some ⟨ys,_,i,g,ps⟩=>
     bif Nat.beq e.size t.sz&&Nat.beq z.cells.size e.size&& !Nat.beq e.bytes 0&&isLive σ i&&isWr σ g&& !memAny gs (i++g) then
      some ⟨dt σ.next,(((σ.puts (gs++g)).new (.vec t (xs++ys) elem)).assumes ps).assume (decide ((2*(xs.length+ys.length)+400)*e.bytes≤281474976710656)),⟨[],i,[],gs++g⟩⟩
     else none
    |_,_,_=>none
   |_,_=>none
  |_,_=>none
 |_=>none
theorem vArg_run {t:Ty} {x x':Value} {c:CD (List t.Den)} {is gs:List Nat} (h:vArg σ t x=some c) (hx:VR D ι x x') (hi:∀id,id∈c.i→id∈is) (hg:∀id,id∈c.g→id∈gs) (hp:AllP c.p)
  (hd:∀id,id∈is∨id∈gs→∀x,σ.H.hdr id=some x→HdrOK P ι id w x) (hce:∀id,id∈gs→∀k v,Lv σ.H id→σ.H.cell id k=some v→CellOK D ι id w k v):
  (∀w,(Builtin.lenOf x').run P w=.ok c.x.length w)∧∃new:Array Value,(∀w':World,w'.heap=w.heap→(Builtin.firstCells t.sz c.x.length x').run P w'=.ok new w')∧new.toList.length=c.x.length*t.sz∧RdL (fzC ι is gs w) t c.x new.toList:=by
 unfold vArg at h
 split at h
 ·rename_i s hu;obtain⟨rfl,_⟩:=unsy_spec hu hx;unfold strB at h
  split at h
  ·rename_i l hl
   split at hl
   ·cases hl;cases h;refine⟨fun _=>rfl,(bytesV (toL s)).toArray,fun w' _=> ?_,by simp[bytesV_len,Ty.sz],fun k x hk=> ?_⟩
    ·simp only[Builtin.firstCells,Sem.run_pure];congr 1;apply Array.ext';rw[bytesV_eq];show(Array.map (fun b=>Value.int IntKind.u8 b.toNat) (s.extract 0 (toL s).length).data).toList=_;have:s.extract 0 (toL s).length=s:=by rw[←size_toL];exact ByteArray.extract_zero_size
     rw[this];simp[toL]
    ·have hlt:k<(toL s).length:=get_lt hk;simp only[Ty.sz,Nat.mul_one];refine⟨by rw[bytesV_len];omega,?_⟩;have hb:(bytesV (toL s))[k]?=some (.int .u8 x.toNat):=by rw[bytesV_eq,List.getElem?_map,hk];rfl
     have hlt2:k<(bytesV (toL s)).length:=by rw[bytesV_len];exact hlt
     rw[List.getElem?_eq_getElem hlt2,Option.some.injEq] at hb;rw[List.drop_eq_getElem_cons hlt2,List.take_succ_cons,List.take_zero,hb];rfl
   ·cases hl
  ·cases h
 ·obtain⟨u1,u2,hu,hrd, -⟩:=cellsC_rd (is:=is) (gs:=gs) hd hce (.slice t) [x] [x'] c h hi hg hp (.cons hx .nil);simp only[RdC] at hrd;obtain⟨sv,rfl,hrd⟩:=hrd;simp only[List.singleton_append,List.cons.injEq] at hu;obtain⟨rfl, -⟩:=hu;rcases hrd with⟨⟨q,cp,rfl⟩,hn⟩|⟨b,o,cp,arr,rfl,h1,h2,h3,h4⟩
  ·rw[hn];refine⟨fun _=>rfl,#[],fun w' _=> ?_,by simp,fun k x hk=>by simp at hk⟩;cases q with
   |none=>rfl
   |some a=>simp[Builtin.firstCells,loadCells,loadCellsFrom]
  ·obtain⟨e,fr,hh⟩:=fzC_ok b arr h1;obtain⟨cc,e1,e2⟩:=load_block (P:=P) (n:=c.x.length*t.sz) hh h2;refine⟨fun _=>rfl,cc,fun w' hw'=>e1 w' hw',by rw[e2];simp;omega,fun k x hk=> ?_⟩;have hle:=el_le (s:=t.sz) (get_lt hk);refine⟨by rw[e2];simp;omega,?_⟩;have:=h4 k x hk;rw[e2,List.drop_take,List.take_take,List.drop_drop,show min t.sz (c.x.length*t.sz-k*t.sz)=t.sz by omega]
   exact this
theorem vList_run {t:Ty} {elem:TypeId} {s s':Value} {xs:List t.Den} {gs:List Nat} (h:vList σ t elem s=some (xs,gs)) (hs:VR D ι s s'):
  (gs=[]∧xs=[]∧s'=.slice none 0 0)∨∃id q l c,gs=[id]∧σ.heap.get id=some (.vec t xs elem)∧s'=.slice q l c∧(ι id).sv=.slice q l c:=by
 unfold vList at h
 split at h
 ·cases h;cases hs;exact .inl ⟨rfl,rfl,rfl⟩
 ·rename_i a
  split at h
  ·rename_i id ha;rw[tuple_eq ha] at hs;obtain⟨q,l,c,rfl,hD,hsv⟩:=dt_inv hs
   split at h
   ·rename_i t' xs' e hg
    split at h
    ·rename_i ht;subst ht;cases hb:Nat.beq e elem
     ·rw[hb] at h;cases h
     rw[hb] at h;cases h;have:=Nat.eq_of_beq_eq_true hb;subst this;exact .inr ⟨id,q,l,c,rfl,hg,rfl,hsv⟩
    ·cases h
   ·cases h
  ·cases h
 ·cases h
theorem vListA_run {t:Ty} {elem:TypeId} {s s' x:Value} {xs:List t.Den} {gs:List Nat} (h:vListA σ t elem s x=some (xs,gs)) (hs:VR D ι s s'):
  (gs=[]∧xs=[]∧∃q,s'=.slice q 0 0)∨∃id q l c,gs=[id]∧σ.heap.get id=some (.vec t xs elem)∧s'=.slice q l c∧(ι id).sv=.slice q l c:=by
 unfold vListA at h
 split at h
 ·cases hb:isTup x
  ·rw[hb] at h;cases h
  rw[hb] at h;cases h;cases hs;exact .inl ⟨rfl,rfl,_,rfl⟩
 ·rcases vList_run h hs with⟨h1,h2,h3⟩|h
  ·exact .inl ⟨h1,h2,_,h3⟩
  ·exact .inr h
include hT
theorem vApp_sound {vt:TypeId→Option Ty} {args:Array TypeId} {ty:TypeId} {s s' x x':Value} {r:R} (h:vApp T vt σ args s x=some r) (hok:r.σ.Ok) (hs:VR D ι s s') (hx:VR D ι x x'):
  Sound P D ι σ w (Builtin.append_ args ty #[s',x']) r:=by
 unfold vApp at h
 split at h
 ·rename_i sT xT rest hargs;have h0:args[0]?=some sT:=by rw[←Array.getElem?_toList,hargs];rfl
  have h1:args[1]?=some xT:=by rw[←Array.getElem?_toList,hargs];rfl
  split at h
  ·rename_i elem d hsT hxT;cases hd:isIntD d
   case true=>rw[hd] at h;cases h
   rw[hd,cond_false] at h;have hd:=isIntD_spec hd
   split at h
   ·rename_i t e hvt he
    split at h
    ·rename_i z xs gs ys r0 is g ps hz hl ha;cases hb:(Nat.beq e.size t.sz&&Nat.beq z.cells.size e.size&& !Nat.beq e.bytes 0&&isLive σ is&&isWr σ g&& !memAny gs (is++g))
     ·rw[hb] at h;cases h
     rw[hb,cond_true] at h;simp only[Bool.and_eq_true,Bool.not_eq_true'] at hb;obtain⟨⟨⟨⟨⟨b1,b2⟩,b3⟩,b4⟩,b5⟩,b6⟩:=hb;have b1:=Nat.eq_of_beq_eq_true b1;have b2:=Nat.eq_of_beq_eq_true b2;have b3:e.bytes≠0:=fun e=>by rw[beq_t e] at b3;cases b3
     have b4:=isLive_spec b4;have b5:=isWr_spec b5;have b6:=memAny_spec b6;cases h;have hbnd:(2*(xs.length+ys.length)+400)*e.bytes≤2^48:=of_decide_eq_true hok.1;obtain⟨hps, -⟩:=(assumes_ok _ _).1 hok.2;have hwrs:∀id,id∈gs→Wr σ.H id:=fun id hm=>by
      rcases vListA_run hl hs with⟨rfl, -⟩|⟨id0,q,l,c,rfl,h2, -⟩
      ·cases hm
      ·rw[List.mem_singleton] at hm;subst hm;exact⟨_,St.hdr_of h2,trivial⟩
     have hwr:∀id,id∈gs++g→Wr σ.H id:=fun id hm=>(List.mem_append.1 hm).elim (hwrs id) (b5 id)
     refine Sound.assume (Sound.assumes ps ⟨by simp[St.new,St.puts_next],fun hw=>(Abs.puts (v:=undef)).2 hw,fun hw hDn ho=> ?_⟩);obtain⟨hlen,new,hn,nl,hrd⟩:=vArg_run (is:=is) (gs:=g) (P:=P) (w:=w) ha hx (fun _ h=>h) (fun _ h=>h) hps
      (fun id hm x=>ho.hd id x (hm.elim (fun h=>.inr (.inl h)) fun h=>.inr (.inr (.inr (List.mem_append_right _ h)))))
      (fun id hm k v=>ho.ce id k v (.inr (.inr (.inr (List.mem_append_right _ hm)))))
     have hlen:∀w,(Builtin.lenOf x').run P w=.ok ys.length w:=hlen;have nl:new.toList.length=ys.length*t.sz:=nl;have hn:∀w':World,w'.heap=w.heap→(Builtin.firstCells e.size ys.length x').run P w'=.ok new w':=by rw[b1];exact hn
     have hrd:RdL (fzC ι is g w) t ys new.toList:=hrd;have hfz1:∀b,(∃c,fzC ι is g w b=some c)→(w.heap.size≤b∧b<w.heap.size)∨(∃k,k∈gs++g∧Wr σ.H k∧(ι k).Own b)∨∃k,(k∈is∨k∈gs++g)∧Lv σ.H k∧(ι k).Fz b:=fun b ⟨c,hc⟩=>by
      rcases fzC_in hc with⟨k,k1,k2⟩|⟨k,k1,k2|k2⟩
      ·exact .inr (.inr ⟨k,.inl k1,b4 k k1,k2⟩)
      ·exact .inr (.inl ⟨k,List.mem_append_right _ k1,b5 k k1,k2⟩)
      ·exact .inr (.inr ⟨k,.inr (List.mem_append_right _ k1),(b5 k k1).lv,k2⟩)
     rcases vListA_run hl hs with⟨rfl,rfl,q,rfl⟩|⟨id,q,l,c,rfl,hg,rfl,hsv⟩
     ·
      by_cases hy:ys.length=0
      ·have hy0:ys=[]:=List.length_eq_zero_iff.1 hy;subst hy0;refine⟨.slice q 0 0,upd ι σ.next ⟨0,0,0,t.sz,false,fun _=>none,.slice q 0 0⟩,w,?_,.dat _ _ _ _ (.inr (St.rng_puts.2 rfl)) (by rw[upd_eq]),?_⟩
       ·rw[append_fits hT h0 h1 hsT hxT hd he hlen (Nat.le_refl 0) (hn w rfl)];have hnew:new.toList=[]:=List.length_eq_zero_iff.1 (by rw[nl];simp);rw[hnew];cases q<;>rfl
       ·exact vecPost (gs:=g) (rc:=[]) (rh:=is) hw ⟨by rw[upd_eq],fun b c h=>(by rw[upd_eq] at h;cases h),.inl ⟨by rw[upd_eq],rfl,q,by rw[upd_eq]⟩⟩ (Nat.le_refl _) rfl rfl (fun _ _ _=>rfl) (fun id h=>(b5 id h).lv) (fun h=>by cases h) (fun b ⟨c,h⟩=>by cases h)
      ·obtain⟨newCap,w',c1,c2,c3,c4,c5⟩:=append_grows hT (ty:=ty) (w:=w) (base:=q) (sLen:=0) (cap:=0) (old:=#[]) (n:=ys.length) h0 h1 hsT hxT hd he hz b3 (by simpa using hbnd) hlen (by omega) (fun w' _=>by cases q<;>simp[Builtin.firstCells,loadCells,loadCellsFrom]) hn;rw[Nat.zero_add] at c1 c2 c5;refine⟨_,upd ι σ.next (vreg w.heap.size 0 (#[]++new++Builtin.zeroCells z.cells (newCap-ys.length)).size t.sz (fzC ι is g w) (.slice (some ⟨w.heap.size,0,none⟩) ys.length newCap)),w',c5,.dat _ _ _ _ (.inr (St.rng_puts.2 rfl)) (by rw[upd_eq];rfl),?_⟩
       have hsize:(#[]++new++Builtin.zeroCells z.cells (newCap-ys.length)).size=newCap*t.sz:=by
        have:new.size=ys.length*t.sz:=by simpa using nl
        simp only[Array.empty_append,Array.size_append,zeroCells_size,b2,b1,this,←Nat.add_mul];congr 1;omega
       refine vecPost (gs:=g) (rc:=[]) (rh:=is) hw ?_ (by rw[c2];simp) c3 c4 (fun b hb _=>by rw[c2];exact heap_push_old w _ hb) (fun id h=>(b5 id h).lv) (fun _=>.inl ⟨Nat.le_refl _,by rw[c2];simp[vreg]⟩) (fun b hb=>(hfz1 b hb).imp (fun h=>by omega) fun h=>h);simp only[HdrOK,upd_eq];refine⟨rfl,fun b c h=> ?_,.inr ⟨rfl,fun⟨c,h⟩=> ?_,newCap,_,(0,0),rfl,by simpa using c1,by rw[c2];exact heap_push_new w _,by simp[vreg],by simp only[vreg];rw[hsize];exact Nat.le_refl _,fun j hj=> ?_,fun o _ h=>by simp at h,?_⟩⟩
       ·obtain⟨e',fr,h'⟩:=fzC_ok b c h;exact⟨e',fr,by rw[c2,heap_push_old w _ (heap_lt h')];exact h'⟩
       ·obtain⟨e',fr,h'⟩:=fzC_ok _ c h;have:=heap_lt h';simp only[vreg] at this;omega
       ·rw[hT.inf _ _ he] at hj;cases hj;exact⟨b1.symm,Nat.zero_mod _,by rw[hsize,b1];exact Nat.mul_mod_left _ _⟩
       ·simp only[List.nil_append];refine hrd.congr ?_ fun k hk=> ?_
        ·simp only[vreg,List.drop_zero,Array.length_toList];rw[hsize];exact Nat.mul_le_mul_right _ c1
        ·simp only[vreg,List.drop_zero,Array.empty_append,Array.toList_append];rw[List.getElem?_append_left (by omega)]
     ·obtain⟨k1,k2,k3⟩:=ho.hd id _ (.inr (.inr (.inr (by simp)))) (St.hdr_of hg);have hidg:∀k,k∈is∨k∈g→k≠id:=fun k hk e=>b6 id (by simp) (by subst e;exact List.mem_append.2 hk)
      let fzU:Nat→Option (Array Value):=fun b=>match(ι id).fz b with|some c=>some c|none=>fzC ι is g w b
      have u1:∀b c,(ι id).fz b=some c→fzU b=some c:=fun b c h=>by simp only[fzU,h]
      have u2:∀b c,fzC ι is g w b=some c→fzU b=some c:=fun b c h=>by
       simp only[fzU]
       split
       ·rename_i c' hc';obtain⟨_,_,q1⟩:=fzC_ok b c h;obtain⟨_,_,q2⟩:=k2 b c' hc';rw[q1] at q2;cases q2;rfl
       ·exact h
      have u3:∀b c,fzU b=some c→(ι id).fz b=some c∨fzC ι is g w b=some c:=fun b c h=>by
       simp only[fzU] at h
       split at h
       ·rename_i c' hc';cases h;exact .inl hc'
       ·exact .inr h
      have uok:FzOK fzU w:=fun b c h=>(u3 b c h).elim (k2 b c) (fzC_ok b c)
      have uf:∀b,(∃c,fzU b=some c)→(∃k,k∈[id]++g∧Wr σ.H k∧(ι k).Own b)∨∃k,(k∈is∨k∈[id]++g)∧Lv σ.H k∧(ι k).Fz b:=fun b ⟨c,hc⟩=>by
       rcases u3 b c hc with h|h
       ·exact .inr ⟨id,.inr (by simp),St.lv_of hg,c,h⟩
       ·exact(hfz1 b ⟨c,h⟩).elim (fun h=>by omega) fun h=>h
      rcases k3 with⟨j1,j2,q',j3⟩|⟨j1,j2,cap,c0,fr,j3,j4,j5,j6,j7,j8,j9,j10⟩
      ·
       rw[hsv] at j3;cases j3;have j2:xs=[]:=j2;subst j2;by_cases hy:ys.length=0
       ·have hy0:ys=[]:=List.length_eq_zero_iff.1 hy;subst hy0;refine⟨.slice q 0 0,upd ι σ.next ⟨0,0,0,t.sz,false,fun _=>none,.slice q 0 0⟩,w,?_,.dat _ _ _ _ (.inr (St.rng_puts.2 rfl)) (by rw[upd_eq]),?_⟩
        ·rw[append_fits hT h0 h1 hsT hxT hd he hlen (Nat.le_refl 0) (hn w rfl)];have hnew:new.toList=[]:=List.length_eq_zero_iff.1 (by rw[nl];simp);rw[hnew];cases q<;>rfl
        ·exact vecPost (gs:=[id]++g) (rc:=[]) (rh:=is) hw ⟨by rw[upd_eq],fun b c h=>(by rw[upd_eq] at h;cases h),.inl ⟨by rw[upd_eq],rfl,q,by rw[upd_eq]⟩⟩ (Nat.le_refl _) rfl rfl (fun _ _ _=>rfl) (fun id h=>(hwr id h).lv) (fun h=>by cases h) (fun b ⟨c,h⟩=>by cases h)
       ·obtain⟨newCap,w',c1,c2,c3,c4,c5⟩:=append_grows hT (ty:=ty) (w:=w) (base:=q) (sLen:=0) (cap:=0) (old:=#[]) (n:=ys.length) h0 h1 hsT hxT hd he hz b3 (by simpa using hbnd) hlen (by omega) (fun w' _=>by cases q<;>simp[Builtin.firstCells,loadCells,loadCellsFrom]) hn;rw[Nat.zero_add] at c1 c2 c5;refine⟨_,upd ι σ.next (vreg w.heap.size 0 (#[]++new++Builtin.zeroCells z.cells (newCap-ys.length)).size t.sz (fzC ι is g w) (.slice (some ⟨w.heap.size,0,none⟩) ys.length newCap)),w',c5,.dat _ _ _ _ (.inr (St.rng_puts.2 rfl)) (by rw[upd_eq];rfl),?_⟩
        have hsize:(#[]++new++Builtin.zeroCells z.cells (newCap-ys.length)).size=newCap*t.sz:=by
         have:new.size=ys.length*t.sz:=by simpa using nl
         simp only[Array.empty_append,Array.size_append,zeroCells_size,b2,b1,this,←Nat.add_mul];congr 1;omega
        refine vecPost (gs:=[id]++g) (rc:=[]) (rh:=is) hw ?_ (by rw[c2];simp) c3 c4 (fun b hb _=>by rw[c2];exact heap_push_old w _ hb) (fun id h=>(hwr id h).lv) (fun _=>.inl ⟨Nat.le_refl _,by rw[c2];simp[vreg]⟩) (fun b hb=>(hfz1 b hb).imp (fun h=>by omega) fun h=>h);simp only[HdrOK,upd_eq];refine⟨rfl,fun b c h=> ?_,.inr ⟨rfl,fun⟨c,h⟩=> ?_,newCap,_,(0,0),rfl,by simpa using c1,by rw[c2];exact heap_push_new w _,by simp[vreg],by simp only[vreg];rw[hsize];exact Nat.le_refl _,fun j hj=> ?_,fun o _ h=>by simp at h,?_⟩⟩
        ·obtain⟨e',fr,h'⟩:=fzC_ok b c h;exact⟨e',fr,by rw[c2,heap_push_old w _ (heap_lt h')];exact h'⟩
        ·obtain⟨e',fr,h'⟩:=fzC_ok _ c h;have:=heap_lt h';simp only[vreg] at this;omega
        ·rw[hT.inf _ _ he] at hj;cases hj;exact⟨b1.symm,Nat.zero_mod _,by rw[hsize,b1];exact Nat.mul_mod_left _ _⟩
        ·simp only[List.nil_append];refine hrd.congr ?_ fun k hk=> ?_
         ·simp only[vreg,List.drop_zero,Array.length_toList];rw[hsize];exact Nat.mul_le_mul_right _ c1
         ·simp only[vreg,List.drop_zero,Array.empty_append,Array.toList_append];rw[List.getElem?_append_left (by omega)]
      ·
       obtain⟨rfl,rfl,rfl⟩:q=some ⟨(ι id).blk,(ι id).base,none⟩∧l=xs.length∧cap=c:=by
        rw[hsv] at j3;simp only[Value.slice.injEq] at j3;exact⟨j3.1,j3.2.1,j3.2.2.symm⟩
       have hcap:=Nat.mul_le_mul_right t.sz j4;have hownfz:∀b c,fzU b=some c→b≠(ι id).blk:=fun b c h e=>by
        subst e;rcases u3 _ c h with h|h
        ·exact j2 ⟨c,h⟩
        ·rcases fzC_in h with⟨k,q1,q2⟩|⟨k,q1,q2|q2⟩
         ·exact(ho.inj id k (.inr (.inr (.inr (by simp)))) (.inr (.inl q1)) ⟨_,St.hdr_of hg,trivial⟩ (b4 k q1) (fun e=>hidg k (.inl q1) e.symm) _ ⟨j1,rfl⟩).2 q2
         ·exact(ho.inj id k (.inr (.inr (.inr (by simp)))) (.inr (.inr (.inr (List.mem_append_right _ q1)))) ⟨_,St.hdr_of hg,trivial⟩ (b5 k q1).lv (fun e=>hidg k (.inr q1) e.symm) _ ⟨j1,rfl⟩).1 q2
         ·exact(ho.inj id k (.inr (.inr (.inr (by simp)))) (.inr (.inr (.inr (List.mem_append_right _ q1)))) ⟨_,St.hdr_of hg,trivial⟩ (b5 k q1).lv (fun e=>hidg k (.inr q1) e.symm) _ ⟨j1,rfl⟩).2 q2
       by_cases hfit:xs.length+ys.length≤cap
       ·
        have hcap2:=Nat.mul_le_mul_right t.sz hfit;rw[Nat.add_mul] at hcap2;have hrun:=run_storeL P (ι id).blk ((ι id).base+xs.length*t.sz) elem fr new.toList 0 c0 w j5 (by omega) (RdL_one hrd nl) j9;refine⟨.slice (some ⟨(ι id).blk,(ι id).base,none⟩) (xs.length+ys.length) cap,upd ι σ.next (vreg (ι id).blk (ι id).base (ι id).room t.sz fzU (.slice (some ⟨(ι id).blk,(ι id).base,none⟩) (xs.length+ys.length) cap)),{ w with heap:=w.heap.setIfInBounds (ι id).blk (.cells (setL c0 ((ι id).base+xs.length*t.sz+0) new.toList) elem fr)},?_,.dat _ _ _ _ (.inr (St.rng_puts.2 rfl)) (by rw[upd_eq];rfl),?_⟩
        ·rw[append_fits hT h0 h1 hsT hxT hd he hlen hfit (hn w rfl)];simp only[add_none,b1,hrun,Result.andThen_ok]
        have hne:∀b,b≠(ι id).blk→(w.heap.setIfInBounds (ι id).blk (.cells (setL c0 ((ι id).base+xs.length*t.sz+0) new.toList) elem fr))[b]?=w.heap[b]?:=fun b hb=>by simp[Ne.symm hb]
        refine vecPost (gs:=[id]++g) (rc:=[]) (rh:=is) hw ?_ (by simp) rfl rfl (fun b hb hx=>hne b fun e=>hx id (by simp) ⟨_,St.hdr_of hg,trivial⟩ ⟨j1,e.symm⟩) (fun id h=>(hwr id h).lv) (fun _=>.inr ⟨id,by simp,⟨_,St.hdr_of hg,trivial⟩,j1,rfl⟩) (fun b hb=>.inr (uf b hb));simp only[HdrOK,upd_eq];refine⟨rfl,uok.keep fun b c h=>hne b (hownfz b c h),.inr ⟨rfl,fun⟨c,h⟩=>hownfz _ c h rfl,cap,setL c0 ((ι id).base+xs.length*t.sz+0) new.toList,fr,by simp[vreg],by simpa using hfit,by simp[vreg,heap_lt j5],by rw[setL_size];exact j6,j7,fun j hj=>by rw[setL_size];exact j8 j hj,fun o ho=>j9 o (by rwa[setL_size] at ho),?_⟩⟩
        have hA:RdL fzU t xs (((c0.toList.drop (ι id).base).take (xs.length*t.sz))):=(j10.mono u1).congr (by simp;omega) fun k hk=>by rw[List.getElem?_take,if_pos hk]
        refine(hA.app (by simp;omega) (hrd.mono u2)).congr ?_ fun k hk=> ?_
        ·simp only[vreg,List.length_append,List.length_drop,Array.length_toList,setL_size,Nat.add_mul];omega
        ·simp only[List.length_append,Nat.add_mul] at hk;simp only[vreg,List.getElem?_drop,Array.getElem?_toList];rw[setL_get _ _ _ _ (by omega)];by_cases hk2:k<xs.length*t.sz
         ·rw[if_neg (by omega),List.getElem?_append_left (by simp;omega),List.getElem?_take,if_pos hk2,List.getElem?_drop,Array.getElem?_toList]
         ·rw[if_pos (by omega),List.getElem?_append_right (by simp;omega)];congr 1;simp;omega
       ·
        obtain⟨oldc,o1,o2⟩:=load_block (P:=P) (w:=w) (o:=(ι id).base) (n:=xs.length*t.sz) j5 (by omega);obtain⟨newCap,w',c1,c2,c3,c4,c5⟩:=append_grows hT (ty:=ty) (w:=w) (base:=some ⟨(ι id).blk,(ι id).base,none⟩) (sLen:=xs.length) (cap:=cap) (old:=oldc) (n:=ys.length) h0 h1 hsT hxT hd he hz b3 hbnd hlen (by omega) (fun w' hw'=>by simp only[Builtin.firstCells,b1];exact o1 w' hw') hn
        have hol:oldc.toList.length=xs.length*t.sz:=by rw[o2];simp;omega
        refine⟨_,upd ι σ.next (vreg w.heap.size 0 (oldc++new++Builtin.zeroCells z.cells (newCap-(xs.length+ys.length))).size t.sz fzU (.slice (some ⟨w.heap.size,0,none⟩) (xs.length+ys.length) newCap)),w',c5,.dat _ _ _ _ (.inr (St.rng_puts.2 rfl)) (by rw[upd_eq];rfl),?_⟩;have hsize:(oldc++new++Builtin.zeroCells z.cells (newCap-(xs.length+ys.length))).size=newCap*t.sz:=by
         have q1:new.size=ys.length*t.sz:=by simpa using nl
         have q2:oldc.size=xs.length*t.sz:=by simpa using hol
         simp only[Array.size_append,zeroCells_size,b2,b1,q1,q2,←Nat.add_mul];congr 1;omega
        refine vecPost (gs:=[id]++g) (rc:=[]) (rh:=is) hw ?_ (by rw[c2];simp) c3 c4 (fun b hb _=>by rw[c2];exact heap_push_old w _ hb) (fun id h=>(hwr id h).lv) (fun _=>.inl ⟨Nat.le_refl _,by rw[c2];simp[vreg]⟩) (fun b hb=>.inr (uf b hb));simp only[HdrOK,upd_eq];refine⟨rfl,fun b c h=> ?_,.inr ⟨rfl,fun⟨c,h⟩=> ?_,newCap,_,(0,0),by simp[vreg],by simpa using c1,by rw[c2];exact heap_push_new w _,by simp[vreg],by simp only[vreg];rw[hsize];exact Nat.le_refl _,fun j hj=> ?_,fun o _ h=>by simp at h,?_⟩⟩
        ·obtain⟨e',fr',h'⟩:=uok b c h;exact⟨e',fr',by rw[c2,heap_push_old w _ (heap_lt h')];exact h'⟩
        ·obtain⟨e',fr',h'⟩:=uok _ c h;have:=heap_lt h';simp only[vreg] at this;omega
        ·rw[hT.inf _ _ he] at hj;cases hj;exact⟨b1.symm,Nat.zero_mod _,by rw[hsize,b1];exact Nat.mul_mod_left _ _⟩
        ·have hA:RdL fzU t xs oldc.toList:=(j10.mono u1).congr (by omega) fun k hk=>by rw[o2,List.getElem?_take,if_pos hk]
         refine(hA.app hol (hrd.mono u2)).congr ?_ fun k hk=> ?_
         ·simp only[vreg,List.drop_zero,Array.length_toList,List.length_append];rw[hsize];exact Nat.mul_le_mul_right _ c1
         ·simp only[List.length_append,Nat.add_mul] at hk;simp only[vreg,List.drop_zero,Array.toList_append];rw[List.getElem?_append_left (by simp only[List.length_append];omega)]
    ·cases h
   ·cases h
  ·cases h
 ·cases h
omit hT
end
end Go.Eng
namespace Go.Eng
open Go
section
variable {P:Program} {T:TE} (hT:T.OK P) {D:Nat→Prop} {ι:Nat→Reg} {σ:St} {w:World}
theorem LR.append {a b c d:List Value} (h:LR D ι a b) (h':LR D ι c d):LR D ι (a++c) (b++d):=by
 induction h with
 |nil=>exact h'
 |cons h _ ih=>exact .cons h ih
theorem LR.take:∀(n:Nat) {vs us:List Value},LR D ι vs us→LR D ι (vs.take n) (us.take n)
 |0,_,_,_=>.nil
 |_+1,_,_,.nil=>.nil
 |n+1,_,_,.cons h t=>.cons h (LR.take n t)
def dcV:List DC→Option (List Value)
 |[]=>some []
 | .v x::r=>match dcV r with
   |some l=>some (x::l)
   |none=>none
 |_::_=>none
theorem dcV_rel {fz:Nat→Option (Array Value)}:∀{l:List DC} {vs us:List Value},dcV l=some vs→l.length=us.length→(∀(k:Nat) d u,l[k]?=some d→us[k]?=some u→DCR fz d u)→LR D ι vs us
 |[],vs,us,h,hl,_=>by
  simp only[dcV,Option.some.injEq] at h;subst h;rw[List.length_eq_zero_iff.1 hl.symm];exact .nil
 | .v x::r,vs,us,h,hl,hd=>by
   cases us with
   |nil=>simp at hl
   |cons u us=>
    simp only[dcV] at h
    split at h
    ·rename_i l h1;cases h;obtain⟨rfl,hs⟩:=hd 0 _ u rfl rfl;exact .cons (.sym u hs) (dcV_rel h1 (by simpa using hl) fun k d u' h2 h3=>hd (k+1) d u' (by simpa using h2) (by simpa using h3))
    ·cases h
 | .s _ _::r,vs,us,h,_,_=>by simp[dcV] at h
 | .e _::r,vs,us,h,_,_=>by simp[dcV] at h
 | .k _::r,vs,us,h,_,_=>by simp[dcV] at h
def vStoreP (T:TE) (σ:St) (t:TypeId) (a v:Value):Option R:=
 match a with
 | .pointer (some ⟨id,i,some j⟩)=>match σ.heap.get id,T.inf t with
   |some (.vec te xs elem),some ti=>match v.cells.toList with
    |[]=>none
    |y::ys=>match dcV (dcs te (xs.getD i te.dflt)) with
     |some old=>bif Nat.beq ti.size (ys.length+1)&&Nat.ble (j+(ys.length+1)) te.sz&&(y::ys).all oneC then match cellsC σ te (old.take j++((y::ys)++old.drop (j+(ys.length+1)))) with
      |some ⟨x,[],[],[],ps⟩=>some ⟨undef,((σ.put id (some (.vec te (xs.set i x) elem))).assumes ps).assume (decide (i<xs.length)),⟨[],[],[],[id]⟩⟩
      |_=>none
      else none
     |none=>none
   |_,_=>none
 |_=>none
include hT
theorem vStoreP_sound {t:TypeId} {a a' v v':Value} {r:R} (h:vStoreP T σ t a v=some r) (hok:r.σ.Ok) (ha:VR D ι a a') (hv:VR D ι v v'):Sound P D ι σ w (do Instr.storeAt t a' v';Pure.pure undef) r:=by
 unfold vStoreP at h
 split at h
 ·rename_i id i j;obtain⟨b,o,l,c0,rfl,hD,hsv⟩:=pel_inv ha
  split at h
  ·rename_i te xs elem ti hg hi
   split at h
   ·cases h
   ·rename_i y ys hcs
    split at h
    ·rename_i old hold;cases hb:(Nat.beq ti.size (ys.length+1)&&Nat.ble (j+(ys.length+1)) te.sz&&(y::ys).all oneC)
     ·rw[hb] at h;cases h
     rw[hb,cond_true] at h;rw[Bool.and_eq_true,Bool.and_eq_true] at hb;obtain⟨⟨hb1,hb2⟩,hb3⟩:=hb;have hb1:=Nat.eq_of_beq_eq_true hb1;have hb2:=Nat.le_of_ble_eq_true hb2
     split at h
     ·rename_i x ps hc;cases h;have hlt:i<xs.length:=of_decide_eq_true hok.1;obtain⟨hps, -⟩:=(assumes_ok _ _).1 hok.2;refine Sound.assume (Sound.assumes ps ⟨Nat.le_refl _,fun hw=>⟨St.put_wf hw (St.lv_lt hw (St.lv_of hg)) _,AFr.whole (by simp)⟩,fun hw hDn ho=> ?_⟩);obtain⟨e1,e2,e3⟩:=ho.hd id _ (.inr (.inr (.inr (by simp)))) (St.hdr_of hg)
      rcases e3 with⟨_,hn,_⟩|⟨g1,g2,cap,c,fr,g3,g4,g5,g6,g7,g8,g9,g10⟩
      ·rw[hn] at hlt;simp at hlt
      obtain⟨rfl,rfl,rfl,rfl⟩:b=(ι id).blk∧o=(ι id).base∧l=xs.length∧cap=c0:=by
       rw[hsv] at g3;simp only[Value.slice.injEq,Option.some.injEq,Addr.mk.injEq,and_true] at g3;exact⟨g3.1.1,g3.1.2,g3.2.1,g3.2.2.symm⟩
      have hnj:notJ v=true:=by
       cases v with
       |chan r=>cases r with
        |none=>rfl
        |some r=>
         have hx2:[Value.chan (some r)]=y::ys:=hcs;rw[←hx2] at hb3;cases hb3
       |_=>rfl
      obtain⟨c1,c2⟩:=hv.cells hnj;have hlr:LR D ι (y::ys) v'.cells.toList:=LR.of_AR ⟨by rw[←hcs];simpa using c1,fun k u u' h1 h2=>c2 k u u' (by rw[←hcs] at h1;simpa using h1) (by simpa using h2)⟩;have hvl:v'.cells.toList.length=ys.length+1:=hlr.len.symm;have hel:xs.getD i te.dflt=xs[i]:=by rw[List.getD_eq_getElem?_getD,List.getElem?_eq_getElem hlt];rfl
      obtain⟨f1,f2⟩:=g10 i xs[i] (List.getElem?_eq_getElem hlt);obtain⟨d1,d2,d3⟩:=dcs_rd te xs[i] _ f2;rw[hel] at hold;have hol:=dcV_rel (D:=D) (ι:=ι) hold (d2.trans d1.symm) d3;generalize hco:((c.toList.drop (ι id).base).drop (i*te.sz)).take te.sz=co at f2 d1 hol;have hnew:=LR.append (LR.take j hol) (LR.append hlr (LR.drop (j+(ys.length+1)) hol))
      obtain⟨u1,u2,hu,hrd,hr2⟩:=cellsC_rd (is:=[]) (gs:=[]) (P:=P) (w:=w) (fun id h=>by simp at h) (fun id h=>by simp at h) te _ _ _ hc (fun id h=>by simp at h) (fun id h=>by simp at h) hps hnew;cases hr2;rw[List.append_nil] at hu;subst hu;have hrd:RdC (ι id).fz te x (co.take j++(v'.cells.toList++co.drop (j+(ys.length+1)))):=RdC.mono (fun b c h=>by rcases fzC_in h with⟨_,h,_⟩|⟨_,h,_⟩<;>cases h) _ _ _ hrd
      have hlen:(co.take j++(v'.cells.toList++co.drop (j+(ys.length+1)))).length=te.sz:=by
       simp only[List.length_append,List.length_take,List.length_drop,d1,hvl];omega
      have hget:∀m,(co.take j++(v'.cells.toList++co.drop (j+(ys.length+1))))[m]?=if j≤m∧m<j+v'.cells.toList.length then v'.cells.toList[m-j]? else co[m]?:=fun m=>by
       by_cases h1:m<j
       ·rw[if_neg (by omega),List.getElem?_append_left (by rw[List.length_take];omega),List.getElem?_take,if_pos h1]
       ·rw[List.getElem?_append_right (by rw[List.length_take];omega),List.length_take,show min j co.length=j by omega];by_cases h2:m<j+v'.cells.toList.length
        ·rw[if_pos ⟨by omega,h2⟩,List.getElem?_append_left (by omega)]
        ·rw[if_neg (by omega),List.getElem?_append_right (by omega),List.getElem?_drop,hvl];congr 1;omega
      have hle:=el_le (s:=te.sz) hlt;have hcap:=Nat.mul_le_mul_right te.sz g4;have hone:∀u,u∈v'.cells.toList→oneV u=true:=fun u hu=>RdC_one te _ _ hrd u (List.mem_append_right _ (List.mem_append_left _ hu))
      have hrun:=run_storeL P (ι id).blk ((ι id).base+i*(ι id).esz+j) elem fr v'.cells.toList 0 c w g5 (by rw[e1];omega) hone g9;rw[e1] at hrun;refine⟨undef,ι,_,?_,.tuple #[] #[] rfl (by simp),Post.setVec hg (w':={ w with heap:=w.heap.setIfInBounds (ι id).blk (.cells (setL c ((ι id).base+i*te.sz+j+0) v'.cells.toList) elem fr)}) ?_ (by simp) rfl rfl fun b hb hno=> ?_⟩
      ·have hsz:¬v'.cells.size≠ti.size:=by
        have:v'.cells.toList.length=ti.size:=by rw[hvl,hb1]
        simpa using this
       simp only[Instr.storeAt,Instr.sureAddr,storeVar,Sem.run_bind,Sem.run_pure,Result.andThen_ok,run_siz hT hi];rw[if_neg hsz,e1,hrun];rfl
      ·have hblk:=heap_lt g5;refine⟨e1,e2.keep fun b c' hb=> ?_,.inr ⟨g1,g2,cap,setL c ((ι id).base+i*te.sz+j+0) v'.cells.toList,fr,by rw[List.length_set];exact hsv,by rw[List.length_set];exact g4,by simp[hblk],by rw[setL_size];exact g6,g7,fun j hj=>by rw[setL_size];exact g8 j hj,fun o ho=>g9 o (by rwa[setL_size] at ho),?_⟩⟩
       ·have hne:(ι id).blk≠b:=fun e=>g2 ⟨c',by rw[e];exact hb⟩
        simp[hne]
       ·refine RdL.set g10 hlt hrd hlen (by simp[setL_size]) fun k=> ?_
        rw[hlen,hget];rw[List.getElem?_drop,Array.getElem?_toList,setL_get _ _ _ _ (by omega),List.getElem?_drop,Array.getElem?_toList];by_cases hk:i*te.sz≤k∧k<i*te.sz+te.sz
        ·rw[if_pos hk];by_cases hk2:j≤k-i*te.sz∧k-i*te.sz<j+v'.cells.toList.length
         ·rw[if_pos hk2,if_pos (by omega),show(ι id).base+k-((ι id).base+i*te.sz+j+0)=k-i*te.sz-j by omega];exact(Array.getElem?_toList).symm
         ·rw[if_neg hk2,if_neg (by omega),←hco,List.getElem?_take,if_pos (by omega),List.getElem?_drop,List.getElem?_drop,Array.getElem?_toList];congr 1;omega
        ·rw[if_neg hk,if_neg (by omega)];exact(Array.getElem?_toList).symm
      ·have hne:(ι id).blk≠b:=fun e=>hno ⟨g1,e⟩
       simp[hne]
     ·cases h
    ·cases h
  ·cases h
 ·cases h
omit hT
def vStoreA (T:TE) (σ:St) (t:TypeId) (a v:Value):Option R:=match vStore T σ t a v with
 |some r=>some r
 |none=>vStoreP T σ t a v
include hT
theorem vStoreA_sound {t:TypeId} {a a' v v':Value} {r:R} (h:vStoreA T σ t a v=some r) (hok:r.σ.Ok) (ha:VR D ι a a') (hv:VR D ι v v'):Sound P D ι σ w (do Instr.storeAt t a' v';Pure.pure undef) r:=by
 unfold vStoreA at h
 split at h
 ·rename_i r' h';cases h;exact vStore_sound hT h' hok ha hv
 ·exact vStoreP_sound hT h hok ha hv
omit hT
def isZ8 (z:Value):Bool:=match z.cells.toList with
 |[.int .u8 (.ofNat 0)]=>true
 |_=>false
theorem isZ8_spec {z:Value} (h:isZ8 z=true):z.cells.toList=[.int .u8 0]:=by
 unfold isZ8 at h
 split at h
 ·rename_i hz;exact hz
 ·cases h
def vMake (T:TE) (σ:St) (t:TypeId) (l c:Value):Option R:=
 match unsy l,unsy c,T.und t with
 |some (.int _ n),some (.int _ m),some (.slice elem)=>match T.inf elem with
  |some e=>match e.zero with
   |some z=>bif Nat.beq e.size 1&&(Nat.beq e.bytes 1&&isZ8 z) then
    some ⟨dt σ.next,(((σ.new (.vec .byte (List.replicate n.toNat 0) elem)).assume (decide (n=m))).assume (decide (n≤1099511627776))).assume (decide (0≤n)),.nil⟩ else none
   |none=>none
  |none=>none
 |_,_,_=>none
include hT
theorem vMake_sound {t:TypeId} {l l' c c':Value} {r:R} (h:vMake T σ t l c=some r) (hok:r.σ.Ok) (hl:VR D ι l l') (hc:VR D ι c c'):Sound P D ι σ w (Instr.makeSlice t l' c') r:=by
 unfold vMake at h
 split at h
 ·rename_i k1 n k2 m elem h1 h2 hu;obtain⟨rfl, -⟩:=unsy_spec h1 hl;obtain⟨rfl, -⟩:=unsy_spec h2 hc
  split at h
  ·rename_i e he
   split at h
   ·rename_i z hz;cases hb:(Nat.beq e.size 1&&(Nat.beq e.bytes 1&&isZ8 z))
    ·rw[hb] at h;cases h
    ·rw[hb,cond_true] at h;rw[Bool.and_eq_true,Bool.and_eq_true] at hb;obtain⟨b1,b2,b3⟩:=hb;have b1:=Nat.eq_of_beq_eq_true b1;have b2:=Nat.eq_of_beq_eq_true b2;have b3:=isZ8_spec b3;cases h;have g0:0≤n:=of_decide_eq_true hok.1;have g1:n≤1099511627776:=of_decide_eq_true hok.2.1;have g2:n=m:=of_decide_eq_true hok.2.2.1
     subst g2;obtain⟨k,rfl⟩:=Int.eq_ofNat_of_zero_le g0;have g1:k≤1099511627776:=by omega
     refine Sound.assume (Sound.assume (Sound.assume ⟨by simp[St.new],fun hw=>⟨St.new_wf hw _,AFr.new _ _ _⟩,fun hw hD _=> ?_⟩));have hDn:¬D σ.next:=hD _ (by simp[St.rng,St.new]);have hlen:(repL k z.cells.toList).length=k:=by rw[repL_len,b3];simp
     let c:Array Value:=(repL k z.cells.toList).toArray;have hcs:c.size=k:=by simp only[c];rw[List.size_toArray,hlen]
     have hxs:(List.replicate ((k:Int)).toNat (0:UInt8)).length=k:=by rw[List.length_replicate];rfl
     let rg0:Reg:=vreg w.heap.size 0 c.size 1 (fun _=>none) (.slice (some ⟨w.heap.size,0,none⟩) (List.replicate ((k:Int)).toNat (0:UInt8)).length k);refine⟨.slice (some ⟨w.heap.size,0,none⟩) (List.replicate ((k:Int)).toNat (0:UInt8)).length k,upd ι σ.next rg0,{ w with heap:=w.heap.push (.cells c elem (0,0))},?_,?_,?_⟩
     ·have e3:¬((e.bytes:Int)*(k:Int)>2^48):=by rw[b2];omega
      have hcond:((((k:Int)<0||decide ((e.bytes:Int)*(k:Int)>2^48))||decide ((k:Int)<0)||decide ((k:Int)>(k:Int)))=true)=False:=by
       simp only[Bool.or_eq_true,decide_eq_true_eq,eq_iff_iff,iff_false];omega
      simp only[Instr.makeSlice,Sem.run_bind,run_und hT hu,Result.andThen_ok,asInt,asIntOf,Sem.run_pure,run_inf hT he,wrap64_small g1,hcond,if_false,run_askRoom,run_siz hT he,Int.toNat_natCast,List.length_replicate];by_cases hn:k*e.size=0
      ·rw[if_pos hn];have h0:c=#[]:=Array.eq_empty_of_size_eq_zero (by rw[hcs];rw[b1] at hn;omega);rw[h0,hn];have hr:∀f:Nat→Value,Array.map f (Array.range 0)=#[]:=fun f=>Array.eq_empty_of_size_eq_zero (by simp)
       simp only[Sem.run_bind,Sem.run_pure,Result.andThen_ok,newRow,run_newObj,hr]
      ·rw[if_neg hn];have hzs:z.cells.size=e.size:=by rw[b1,←Array.length_toList,b3];rfl
       simp only[Sem.run_bind,run_zero hT he hz,Result.andThen_ok,Sem.run_pure,newRow,run_newObj];rw[←hzs,repL_eq]
     ·exact .dat _ _ _ _ (.inr (by simp[St.rng,St.new])) (by rw[upd_eq];rfl)
     ·refine vecPost (gs:=[]) (rc:=[]) (rh:=[]) hw ?_ (by simp) rfl rfl (fun b hb _=>heap_push_old w _ hb) (fun id h=>by cases h) (fun _=>.inl ⟨Nat.le_refl _,by simp[rg0,vreg]⟩) (fun b ⟨c,h⟩=>by cases h);simp only[HdrOK,upd_eq];refine⟨rfl,fun b c h=>(by cases h),.inr ⟨rfl,fun⟨c,h⟩=>(by cases h),k,c,(0,0),rfl,by rw[hxs];exact Nat.le_refl _,heap_push_new w _,by simp[rg0,vreg],?_,fun j hj=> ?_,fun o ho hx=> ?_,fun i x hx=> ?_⟩⟩
      ·simp only[Ty.sz,rg0,vreg,Nat.mul_one];omega
      ·rw[hT.inf _ _ he] at hj;cases hj;exact⟨b1.symm,by rw[b1];exact Nat.mod_one _,by rw[b1];exact Nat.mod_one _⟩
      ·simp only at hx;omega
      ·have hlt:i<k:=by
        rcases Nat.lt_or_ge i (List.replicate ((k:Int)).toNat (0:UInt8)).length with h|h
        ·rw[hxs] at h;exact h
        ·rw[List.getElem?_eq_none h] at hx;cases hx
       have hx0:x=(0:UInt8):=by
        have:=List.mem_of_getElem? hx;exact(List.mem_replicate.1 this).2
       subst hx0;have hck:c.toList[i]?=some (.int .u8 0):=by
        show(repL k z.cells.toList)[i]?=_;rw[repL_get _ _ _ (by rw[b3];simpa using hlt),b3];show [Value.int .u8 0][i%1]?=_;rw[Nat.mod_one];rfl
       have hl2:i<c.toList.length:=by rw[Array.length_toList,hcs];exact hlt
       simp only[rg0,vreg,List.drop_zero,Ty.sz,Nat.mul_one];refine⟨by omega,?_⟩;rw[List.getElem?_eq_getElem hl2,Option.some.injEq] at hck;rw[List.drop_eq_getElem_cons hl2,List.take_succ_cons,List.take_zero,hck];rfl
   ·cases h
  ·cases h
 ·cases h
omit hT
end
end Go.Eng
end
end
end
section
noncomputable section
namespace Go.Eng
open Go
section
variable {P:Program} {T:TE} (hT:T.OK P) {D:Nat→Prop} {ι:Nat→Reg} {σ:St} {w:World}
theorem Post.newMap {P:Program} {D:Nat→Prop} {ι:Nat→Reg} {σ:St} {w:World} (hw:σ.wf):
  Post P D (σ.rng (σ.new (.mp [] (some ([],0))))) ι σ.H w .nil (upd ι σ.next (rg w.heap.size 0 0 0)) (σ.new (.mp [] (some ([],0)))).H { w with heap:=w.heap.push (.map #[] 0)} where
 io:=fun id hn=>upd_ne _ _ fun e=>hn (St.rng_new.2 e)
 size:=by simp
 os:=rfl
 out:=rfl
 hdr:=by
  rintro id x (hx|hx) e
  ·cases hx
  ·obtain rfl:=St.rng_new.1 hx;rw[St.new_hdr,if_pos rfl] at e;cases e;simp only[HdrOK,AO.hd,upd_eq];exact⟨⟨#[],0,heap_push_new _ _,.nil,⟨fun e he=>by simp at he,List.nodup_nil⟩,List.nodup_nil,fun bs c h=>by cases h;exact⟨rfl,rfl,rfl⟩⟩,rfl,rfl,fun b ⟨c,h⟩=>by simp[rg] at h⟩
 cel:=by
  rintro id k v (hx|hx) lv e
  ·rcases hx with hx|hx<;>cases hx
  ·obtain rfl:=St.rng_new.1 hx;rw[St.new_cell,if_pos rfl] at e;simp[cellOf] at e
 ahdr:=fun id hn _=>by rw[St.new_hdr,if_neg fun e=>hn (St.rng_new.2 e)]
 acel:=fun id k hn _=>by rw[St.new_cell,if_neg fun e=>hn (St.rng_new.2 e)]
 cfr:=fun b hb _=>by rw[heap_push_old _ _ hb];exact ObjBut.refl _ _
 fresh:=fun id hn _ b hb=>by
  obtain rfl:=St.rng_new.1 hn;rw[upd_eq] at hb;obtain⟨_,rfl⟩:=hb;left;simp[rg]
 freshF:=fun id hn _ b hb=>by
  obtain rfl:=St.rng_new.1 hn;rw[upd_eq] at hb;obtain⟨_,hb⟩:=hb;simp[rg] at hb
 dist:=fun i j hi hj _ _ hij=>by
  obtain rfl:=St.rng_new.1 hi;exact absurd (St.rng_new.1 hj).symm hij
 nl:=fun id hn=>by
  obtain rfl:=St.rng_new.1 hn;simp[St.H,hw σ.next (Nat.le_refl _)]
 wl:=fun id k hx=>by rcases hx with hx|hx<;>cases hx
 wrm:=fun id hn hx=>by
  refine hx.of_hdr ?_;rw[St.new_hdr,if_neg fun e=>hn (St.rng_new.2 e)]
 wrow:=fun id k hx=>by rcases hx with hx|hx<;>cases hx
theorem Post.setMap {P:Program} {D:Nat→Prop} {ι:Nat→Reg} {σ:St} {w:World} {es es1:List (Value×Value)} {ex ex1:Option (List Nat×Nat)} {id:Nat} {m m1:Array MapEntry} {clk clk1:Nat}
  (hg:σ.heap.get id=some (.mp es ex)) (hm:w.heap[(ι id).blk]?=some (.map m clk)) (hr:(ι id).base=0∧(ι id).own=true∧∀b,¬(ι id).Fz b)
  (h1:(m1.toList.map MapEntry.key).Perm (es1.map Prod.fst)) (h2:(∀e,e∈m1.toList→e.born<clk1)∧(m1.toList.map MapEntry.born).Nodup) (h3:(es1.map Prod.fst).Nodup)
  (h4:∀bs c,ex1=some (bs,c)→m1.toList.map MapEntry.key=es1.map Prod.fst∧m1.toList.map MapEntry.born=bs∧clk1=c)
  (h5:∀(k:Nat) a,es1[k]?=some a→∃e,e∈m1.toList∧VR D ι (.tuple #[a.1,a.2]) (.tuple #[e.key,e.val])):
  Post P D (σ.rng (σ.put id (some (.mp es1 ex1)))) ι σ.H w ⟨[],[],[],[id]⟩ ι (σ.put id (some (.mp es1 ex1))).H { w with heap:=w.heap.setIfInBounds (ι id).blk (.map m1 clk1)} where
 io:=fun _ _=>rfl
 size:=by simp
 os:=rfl
 out:=rfl
 hdr:=by
  rintro j x (hx|hx) e
  ·have:j=id:=by simpa[Foot.Wi] using hx
   subst this;rw[St.put_hdr,if_pos rfl] at e;cases e;have hlt:=heap_lt hm;exact⟨⟨m1,clk1,by simp[hlt],h1,h2,h3,h4⟩,hr⟩
  ·simp only[St.rng,St.put] at hx;omega
 cel:=by
  rintro j k v (hx|hx) lv e
  ·have:j=id:=by simpa[Foot.Wc] using hx
   subst this;rw[St.put_cell,if_pos rfl] at e;have hlt:=heap_lt hm;obtain⟨a,ha,rfl⟩:=Option.map_eq_some_iff.1 e;obtain⟨e1,g1,g2⟩:=h5 k a ha;exact⟨hr.2.1,_,.inr ⟨m1,clk1,by simp[hlt],e1,g1,rfl⟩,g2.mono (fun _=>.inl) fun _ _=>rfl⟩
  ·simp only[St.rng,St.put] at hx;omega
 ahdr:=fun j _ hx=>by rw[St.put_hdr,if_neg fun e=>hx (by simp[Foot.Wi,e])]
 acel:=fun j k _ hx=>by rw[St.put_cell,if_neg fun e=>hx (by simp[Foot.Wc,e])]
 cfr:=fun b hb hx=>by
  have:(ι id).blk≠b:=fun e=>hx id (by simp[Foot.Wi]) ⟨_,St.hdr_of hg,trivial⟩ ⟨hr.2.1,e⟩
  simp only[Array.getElem?_setIfInBounds,if_neg this];exact ObjBut.refl _ _
 fresh:=fun j hn=>by simp only[St.rng,St.put] at hn;omega
 freshF:=fun j hn=>by simp only[St.rng,St.put] at hn;omega
 dist:=fun i j hn=>by simp only[St.rng,St.put] at hn;omega
 nl:=fun j hn=>by simp only[St.rng,St.put] at hn;omega
 wl:=fun j k hx _=>by
  have:j=id:=by simpa[Foot.Wc] using hx
  subst this;exact St.lv_of hg
 wrm:=fun j _ hx=>by
  by_cases e:j=id
  ·subst e;exact⟨_,St.hdr_of hg,trivial⟩
  ·exact hx.of_hdr (by rw[St.put_hdr,if_neg e])
 wrow:=fun j k hx hn=>absurd (by rcases hx with hx|hx;cases hx;exact hx) hn
def aMakeMap (σ:St) (hint:Option Value):Option R:=
 match hint with
 |none=>some ⟨.map (some σ.next),σ.new (.mp [] (some ([],0))),.nil⟩
 |some _=>none
theorem aMakeMap_sound {t:TypeId} {x:Option Value} {x':Option Value} {r:R} (h:aMakeMap σ x=some r) (hx:OR D ι x x'):Sound P D ι σ w (Instr.makeMap t x') r:=by
 unfold aMakeMap at h
 split at h
 ·cases h;cases hx;refine⟨by simp[St.new],fun hw=>⟨St.new_wf hw _,AFr.new _ _ _⟩,fun hw _ _=> ?_⟩;refine⟨.map (some w.heap.size),upd ι σ.next (rg w.heap.size 0 0 0),{ w with heap:=w.heap.push (.map #[] 0)},?_,?_,Post.newMap hw⟩
  ·simp only[Instr.makeMap,Sem.run_bind,Sem.run_pure,Result.andThen_ok,run_newObj]
  ·have:=VR.mapP (D:=fun i=>D i∨σ.rng (σ.new (.mp [] (some ([],0)))) i) (ι:=upd ι σ.next (rg w.heap.size 0 0 0)) σ.next (.inr (St.rng_new.2 rfl));rw[upd_eq] at this;exact this
 ·cases h
theorem ba_beq (s t:ByteArray):(s==t)=true↔s=t:=by
 cases s with|mk a=>cases t with|mk b=>
 show ByteArray.beq ⟨a⟩ ⟨b⟩=true↔_;simp[ByteArray.beq]
def keyK:TypeDesc→Value→Bool
 | .int _,.int _ _=>true
 | .string,.string _=>true
 |_,_=>false
def mFind (d:TypeDesc) (k:Value):List (Value×Value)→Option (Option (Nat×Value))
 |[]=>some none
 |(a,v)::l=>match Instr.sameNow d k a,mFind d k l with
  |some true,some _=>some (some (0,v))
  |some false,some (some (i,u))=>some (some (i+1,u))
  |some false,some none=>some none
  |_,_=>none
theorem sameNow_plain {d:TypeDesc} {k a:Value} {b:Bool} (h:Instr.sameNow d k a=some b) (hk:keyK d k=true):keyK d a=true∧(b=true↔a=k):=by
 cases d<;>cases k<;>first|(simp[keyK] at hk;done)|skip
 ·cases a<;>simp only[Instr.sameNow] at h<;>first|(cases h;done)|skip
  split at h
  ·rename_i hkk;cases h;subst hkk;refine⟨rfl,?_⟩;constructor
   ·intro e;rw[eq_of_beq e]
   ·intro e;cases e;exact beq_self_eq_true _
  ·cases h
 ·cases a<;>simp only[Instr.sameNow] at h<;>first|(cases h;done)|skip
  cases h;refine⟨rfl,?_⟩;rw[ba_beq];constructor
  ·intro e;rw[e]
  ·intro e;cases e;rfl
theorem mFind_all {d:TypeDesc} {k:Value} (hk:keyK d k=true):∀{l:List (Value×Value)} {r:Option (Nat×Value)},mFind d k l=some r→(∀a,a∈l→∃b,Instr.sameNow d k a.1=some b)∧
  (r=none→∀a,a∈l→a.1≠k)∧∀i v,r=some (i,v)→l[i]?=some (k,v)
 |[],r,h=>by cases h;exact⟨fun a ha=>(by cases ha),fun _ a ha=>(by cases ha),fun i v h=>(by cases h)⟩
 |(a,v)::l,r,h=>by
  unfold mFind at h
  split at h
  ·rename_i u h1 h2;cases h;obtain⟨g1,g2,g3⟩:=mFind_all hk h2;obtain⟨e1,e2⟩:=sameNow_plain h1 hk;have e2:=e2.1 rfl;refine⟨fun x hx=> ?_,fun h=>(by cases h),fun i v h=> ?_⟩
   ·rcases List.mem_cons.1 hx with rfl|hx
    ·exact⟨_,h1⟩
    ·exact g1 x hx
   ·cases h;simp[e2]
  ·rename_i i u h1 h2;cases h;obtain⟨g1,g2,g3⟩:=mFind_all hk h2;refine⟨fun x hx=> ?_,fun h=>(by cases h),fun i v h=> ?_⟩
   ·rcases List.mem_cons.1 hx with rfl|hx
    ·exact⟨_,h1⟩
    ·exact g1 x hx
   ·cases h;simpa using g3 _ _ rfl
  ·rename_i h1 h2;cases h;obtain⟨g1,g2,g3⟩:=mFind_all hk h2;obtain⟨e1,e2⟩:=sameNow_plain h1 hk;refine⟨fun x hx=> ?_,fun _ x hx=> ?_,fun i v h=>by cases h⟩
   ·rcases List.mem_cons.1 hx with rfl|hx
    ·exact⟨_,h1⟩
    ·exact g1 x hx
   ·rcases List.mem_cons.1 hx with rfl|hx
    ·exact fun e=>by have:=e2.2 e;cases this
    ·exact g2 rfl x hx
  ·cases h
theorem findNow_spec {d:TypeDesc} {k:Value} (hk:keyK d k=true):∀(l:List MapEntry) (i:Nat),(∀e,e∈l→∃b,Instr.sameNow d k e.key=some b)→
  (∃j e,l[j]?=some e∧e.key=k∧Instr.findNow d k l i=some (some (i+j,e.val)))∨((∀e,e∈l→e.key≠k)∧Instr.findNow d k l i=some none)
 |[],i,_=>.inr ⟨fun e he=>by(cases he),rfl⟩
 |e::l,i,h=>by
  obtain⟨b,hb⟩:=h e (List.mem_cons_self ..);obtain⟨e1,e2⟩:=sameNow_plain hb hk;cases b with
  |true=>exact .inl ⟨0,e,rfl,e2.1 rfl,by simp only[Instr.findNow,hb];rfl⟩
  |false=>
   rcases findNow_spec hk l (i+1) fun x hx=>h x (List.mem_cons_of_mem _ hx) with⟨j,x,g1,g2,g3⟩|⟨g1,g2⟩
   ·exact .inl ⟨j+1,x,by simpa using g1,g2,by simp only[Instr.findNow,hb,g3];congr 3;omega⟩
   ·refine .inr ⟨fun x hx=> ?_,by simp only[Instr.findNow,hb,g2]⟩;rcases List.mem_cons.1 hx with rfl|hx
    ·exact fun hh=>by have:=e2.2 hh;cases this
    ·exact g1 x hx
theorem run_getMap (P:Program) (w:World) {b:Nat} {m:Array MapEntry} {c:Nat} (h:w.heap[b]?=some (.map m c)):(getObj b).run P w=.ok (.map m c) w:=by
 simp only[getObj,Sem.run,h]
theorem run_setMap (P:Program) (w:World) {b:Nat} {m:Array MapEntry} {c:Nat} (h:w.heap[b]?=some (.map m c)) (o:Obj):(setObj b o).run P w=.ok () { w with heap:=w.heap.setIfInBounds b o}:=by
 simp only[setObj,Sem.run,h]
include hT in
theorem run_checkKeyN {kt:TypeId} {d:TypeDesc} {k:Value} (hu:T.und kt=some d) (hk:keyK d k=true) (e:Bool) (n:Nat) (w:World):(Instr.checkKey e (n+1) kt k).run P w=.ok () w:=by
 cases d<;>cases k<;>first|(simp[keyK] at hk;done)|simp only[Instr.checkKey,Sem.run_bind,run_und hT hu,Result.andThen_ok,Sem.run_pure]
include hT in
theorem run_checkKey {kt:TypeId} {d:TypeDesc} {k:Value} (hu:T.und kt=some d) (hk:keyK d k=true) (e:Bool) (w:World):(Instr.checkKey e 10000 kt k).run P w=.ok () w:=run_checkKeyN hT hu hk e 9999 w
include hT in
theorem run_findKey {kt:TypeId} {d:TypeDesc} {k:Value} (hu:T.und kt=some d) {l:List MapEntry} {r:Option (Nat×Value)} (h:Instr.findNow d k l 0=some r) (w:World):(Instr.findKey kt k l).run P w=.ok r w:=by
 simp only[Instr.findKey,Sem.run_bind,run_und hT hu,Result.andThen_ok,h,Sem.run_pure]
theorem keyK_plain {d:TypeDesc} {k:Value} (hk:keyK d k=true):plainN 8 k=true:=by
 cases d<;>cases k<;>first|(simp[keyK] at hk;done)|rfl
theorem keyK_ne {d:TypeDesc} {n:Nat}:keyK d (.chan (some n))=false:=by cases d<;>rfl
theorem VR.pair_inv {d:TypeDesc} {k v k' v':Value} (h:VR D ι (.tuple #[k,v]) (.tuple #[k',v'])) (hk:keyK d k=true):k'=k∧VR D ι v v':=by
 cases h with
 |tuple as bs hs hh=>
  exact⟨plain_eq 8 _ _ (keyK_plain hk) (hh 0 k k' rfl rfl),hh 1 v v' rfl rfl⟩
 |sym _ h=>simp[scal] at h
 |err _ _ h=>simp[isE] at h
theorem mp_look {φ:Foot} {id:Nat} {es:List (Value×Value)} {ex:Option (List Nat×Nat)} {d:TypeDesc} (ho:HOn P D ι σ.H φ w) (hf:∀k,φ.Fc id k) (hg:σ.heap.get id=some (.mp es ex)) (hall:∀a,a∈es→keyK d a.1=true):
  ∃(m:Array MapEntry) (clk:Nat),w.heap[(ι id).blk]?=some (.map m clk)∧((ι id).base=0∧(ι id).own=true∧∀b,¬(ι id).Fz b)∧(m.toList.map MapEntry.key).Perm (es.map Prod.fst)∧((∀e,e∈m.toList→e.born<clk)∧(m.toList.map MapEntry.born).Nodup)∧(es.map Prod.fst).Nodup∧
   (∀bs c,ex=some (bs,c)→m.toList.map MapEntry.key=es.map Prod.fst∧m.toList.map MapEntry.born=bs∧clk=c)∧
   ∀(i:Nat) a,es[i]?=some a→∃e,e∈m.toList∧e.key=a.1∧VR D ι a.2 e.val:=by
 obtain⟨⟨m,clk,h1,h2,h3,h4,h5⟩,h6⟩:=ho.hd id _ (hf 0).fi (St.hdr_of hg);refine⟨m,clk,h1,h6,h2,h3,h4,h5,fun i a ha=> ?_⟩;obtain⟨_,v',e1,e2⟩:=ho.ce id i (.tuple #[a.1,a.2]) (hf i) (St.lv_of hg) (by simp[St.H,hg,cellOf,ha]);obtain⟨e,he,rfl⟩:=e1.map h1;obtain⟨g1,g2⟩:=e2.pair_inv (hall a (List.mem_of_getElem? ha))
 exact⟨e,he,g1,g2⟩
theorem nodup_key {m:List MapEntry} {ks:List Value} (hp:(m.map MapEntry.key).Perm ks) (hn:ks.Nodup) {e e':MapEntry} (h:e∈m) (h':e'∈m) (hk:e.key=e'.key):e=e':=by
 have hn:=hp.nodup_iff.2 hn;have key:∀(l:List MapEntry),(l.map MapEntry.key).Nodup→e∈l→e'∈l→e=e':=by
  intro l
  induction l with
  |nil=>intro _ h;cases h
  |cons x l ih=>
   intro hn q q';rw[List.map_cons,List.nodup_cons] at hn;rcases List.mem_cons.1 q with a|a
   ·rcases List.mem_cons.1 q' with b|b
    ·rw[a,b]
    ·exact absurd (List.mem_map.2 ⟨e',b,by rw[←hk,a]⟩) hn.1
   ·rcases List.mem_cons.1 q' with b|b
    ·exact absurd (List.mem_map.2 ⟨e,a,by rw[hk,b]⟩) hn.1
    ·exact ih hn.2 a b
 exact key m hn h h'
theorem mp_find {es:List (Value×Value)} {m:Array MapEntry} {d:TypeDesc} {k:Value} {r:Option (Nat×Value)} (hk:keyK d k=true) (hr:mFind d k es=some r) (hp:(m.toList.map MapEntry.key).Perm (es.map Prod.fst)) (_:(es.map Prod.fst).Nodup):
  (∃i v j e,r=some (i,v)∧es[i]?=some (k,v)∧m.toList[j]?=some e∧e.key=k∧Instr.findNow d k m.toList 0=some (some (j,e.val)))∨
   (r=none∧(∀e,e∈m.toList→e.key≠k)∧Instr.findNow d k m.toList 0=some none):=by
 obtain⟨g1,g2,g3⟩:=mFind_all hk hr;have hs:∀e,e∈m.toList→∃b,Instr.sameNow d k e.key=some b:=fun e he=>by
  obtain⟨a,ha,hae⟩:=List.mem_map.1 (hp.mem_iff.1 (List.mem_map.2 ⟨e,he,rfl⟩));rw[←hae];exact g1 a ha
 rcases findNow_spec hk m.toList 0 hs with⟨j,e,e1,e2,e3⟩|⟨e1,e2⟩
 ·rw[Nat.zero_add] at e3;cases r with
  |none=>
   obtain⟨a,ha,hae⟩:=List.mem_map.1 (hp.mem_iff.1 (List.mem_map.2 ⟨e,List.mem_of_getElem? e1,rfl⟩));exact absurd (hae.trans e2) (g2 rfl a ha)
  |some iv=>obtain⟨i,v⟩:=iv;exact .inl ⟨i,v,j,e,rfl,g3 i v rfl,e1,e2,e3⟩
 ·cases r with
  |none=>exact .inr ⟨rfl,e1,e2⟩
  |some iv=>
   obtain⟨i,v⟩:=iv;have:=g3 i v rfl;obtain⟨e,he,hek⟩:=List.mem_map.1 (hp.mem_iff.2 (List.mem_map.2 ⟨(k,v),List.mem_of_getElem? this,rfl⟩));exact absurd hek (e1 e he)
def mVal (ok:Bool) (v:Value) (b:Bool):Value:=bif ok then .tuple #[v,.bool b] else v
def mZero (T:TE) (el:TypeId):Option Value:=
 match T.inf el with
 |some e=>match e.zero with
  |some z=>bif plainN 8 z then some z else none
  |none=>none
 |none=>none
theorem VR.mVal {ok b:Bool} {v v':Value} (h:VR D ι v v'):VR D ι (mVal ok v b) (if ok then .tuple #[v',.bool b] else v'):=by
 cases ok
 ·exact h
 ·refine .tuple _ _ rfl fun i a a' ha ha'=> ?_
  match i with
  |0=>cases ha;cases ha';exact h
  |1=>cases ha;cases ha';exact .bool b
  |i+2=>simp at ha
def aLookup (T:TE) (σ:St) (t:TypeId) (x i:Value) (ok:Bool):Option R:=
 match T.und t with
 |some (.map kt el)=>match T.und kt with
  |some d=>bif keyK d i then match x with
   | .map none=>match mZero T el with
     |some z=>some ⟨mVal ok z false,σ,.nil⟩
     |none=>none
   | .map (some id)=>match σ.heap.get id with
     |some (.mp es _)=>match mFind d i es with
      |some (some (_,v))=>some ⟨mVal ok v true,σ,⟨[],[id],[],[]⟩⟩
      |some none=>match mZero T el with
       |some z=>some ⟨mVal ok z false,σ,⟨[],[id],[],[]⟩⟩
       |none=>none
      |none=>none
     |_=>none
   |_=>none
   else none
  |none=>none
 |_=>none
theorem mFind_keys {d:TypeDesc} {k:Value} {es:List (Value×Value)} {r:Option (Nat×Value)} (hk:keyK d k=true) (h:mFind d k es=some r):∀a,a∈es→keyK d a.1=true:=fun a ha=>by
 obtain⟨b,hb⟩:=(mFind_all hk h).1 a ha;exact(sameNow_plain hb hk).1
include hT in
theorem mZero_run {el:TypeId} {z:Value} (h:mZero T el=some z) (w:World):(zeroValue el).run P w=.ok z w∧VR D ι z z:=by
 unfold mZero at h
 split at h
 ·rename_i e he
  split at h
  ·rename_i z' hz;cases hp:plainN 8 z'
   ·rw[hp] at h;cases h
   ·rw[hp] at h;cases h;exact⟨run_zero hT he hz w,plain_refl 8 _ hp⟩
  ·cases h
 ·cases h
include hT in
theorem aLookup_sound {t:TypeId} {x i x' i':Value} {ok:Bool} {r:R} (h:aLookup T σ t x i ok=some r) (hx:VR D ι x x') (hi:VR D ι i i'):Sound P D ι σ w (Instr.lookup t x' i' ok) r:=by
 unfold aLookup at h
 split at h
 ·rename_i kt el hu
  split at h
  ·rename_i d hd;cases hk:keyK d i
   ·rw[hk] at h;cases h
   rw[hk,cond_true] at h;have ei:=plain_eq 8 i i' (keyK_plain hk) hi;subst ei
   split at h
   ·split at h
    ·rename_i z hz;cases h;cases hx;obtain⟨z1,z2⟩:=mZero_run (P:=P) (D:=D) (ι:=ι) hT hz w;refine Sound.pure (v':=if ok then .tuple #[z,.bool false] else z) ?_ z2.mVal;simp only[Instr.lookup,Sem.run_bind,run_und hT hu,Result.andThen_ok,Sem.run_pure,run_checkKey hT hd hk,run_findKey hT hd (l:=[]) (r:=none) rfl,z1]
    ·cases h
   ·rename_i id;have hx2:x'=.map (some (ι id).blk):=by cases hx;rfl
    subst hx2
    split at h
    ·rename_i es ex hg
     split at h
     ·rename_i j v hf;cases h;refine⟨Nat.le_refl _,fun hw=>⟨hw,AFr.refl _ _⟩,fun _ _ ho=> ?_⟩;obtain⟨m,clk,q1,q2,q3,q4,q5,q6,q7⟩:=mp_look ho (fun k=>.inr (.inl (by simp))) hg (mFind_keys hk hf);rcases mp_find hk hf q3 q5 with⟨i1,v1,j1,e,e0,e1,e2,e3,p2⟩|⟨e,_,_⟩
      ·cases e0;obtain⟨e',he',hk',hv'⟩:=q7 _ _ e1;obtain rfl:=nodup_key q3 q5 he' (List.mem_of_getElem? e2) (hk'.trans e3.symm);refine⟨if ok then .tuple #[e'.val,.bool true] else e'.val,ι,w,?_,(VR.mVal hv').mono (fun _=>.inl) fun _ _=>rfl,Post.same (St.rng_self σ) rfl rfl rfl rfl rfl⟩;simp only[Instr.lookup,Sem.run_bind,run_und hT hu,Result.andThen_ok,run_getMap P w q1,Sem.run_pure,run_checkKey hT hd hk,run_findKey hT hd p2]
      ·cases e
     ·rename_i hf
      split at h
      ·rename_i z hz;cases h;obtain⟨z1,z2⟩:=mZero_run (P:=P) (D:=D) (ι:=ι) hT hz w;refine Sound.same (w':=w) (v':=if ok then .tuple #[z,.bool false] else z) (fun ho=> ?_) rfl rfl;obtain⟨m,clk,q1,q2,q3,q4,q5,q6,q7⟩:=mp_look ho (fun k=>.inr (.inl (by simp))) hg (mFind_keys hk hf);rcases mp_find hk hf q3 q5 with⟨_,_,_,_,e,_⟩|⟨_,p1,p2⟩
       ·cases e
       refine⟨?_,z2.mVal,rfl,rfl,rfl⟩;simp only[Instr.lookup,Sem.run_bind,run_und hT hu,Result.andThen_ok,run_getMap P w q1,Sem.run_pure,run_checkKey hT hd hk,run_findKey hT hd p2,z1]
      ·cases h
     ·cases h
    ·cases h
   ·cases h
  ·cases h
 ·cases h
theorem sameBits_key {d:TypeDesc} {k:Value} (hk:keyK d k=true):∀n,Instr.sameBits n k k=true:=by
 intro n;cases d<;>cases k<;>first|(simp[keyK] at hk;done)|(cases n<;>simp[Instr.sameBits];done)|skip
 all_goals (cases n<;>simp only[Instr.sameBits]<;>exact(ba_beq _ _).2 rfl)
def aMapUpdate (T:TE) (σ:St) (t:TypeId) (m k v:Value):Option R:=
 match T.und t with
 |some (.map kt _)=>match T.und kt with
  |some d=>bif keyK d k then match m with
   | .map (some id)=>match σ.heap.get id with
     |some (.mp es ex)=>match mFind d k es with
      |some (some (i,_))=>some ⟨undef,σ.put id (some (.mp (es.set i (k,v)) ex)),⟨[],[],[],[id]⟩⟩
      |some none=>some ⟨undef,σ.put id (some (.mp (es++[(k,v)]) (match ex with|some (bs,c)=>some (bs++[c],c+1)|none=>none))),⟨[],[],[],[id]⟩⟩
      |none=>none
     |_=>none
   |_=>none
   else none
  |none=>none
 |_=>none
theorem VR.mkPair {k v v':Value} (hk:plainN 8 k=true) (h:VR D ι v v'):VR D ι (.tuple #[k,v]) (.tuple #[k,v']):=by
 refine .tuple _ _ rfl fun i a a' ha ha'=> ?_
 match i with
 |0=>cases ha;cases ha';exact plain_refl 8 _ hk
 |1=>cases ha;cases ha';exact h
 |i+2=>simp at ha
include hT in
theorem aMapUpdate_sound {t:TypeId} {m k v m' k' v':Value} {r:R} (h:aMapUpdate T σ t m k v=some r) (hm:VR D ι m m') (hk:VR D ι k k') (hv:VR D ι v v'):
  Sound P D ι σ w (do Instr.mapUpdate t m' k' v';pure undef) r:=by
 unfold aMapUpdate at h
 split at h
 ·rename_i kt el hu
  split at h
  ·rename_i d hd;cases hkk:keyK d k
   ·rw[hkk] at h;cases h
   rw[hkk,cond_true] at h;have ek:=plain_eq 8 k k' (keyK_plain hkk) hk;subst ek
   split at h
   ·rename_i id;have hm2:m'=.map (some (ι id).blk):=by cases hm;rfl
    subst hm2
    split at h
    ·rename_i es ex hg
     split at h
     ·rename_i i vo hf;cases h;refine⟨Nat.le_refl _,fun hw=>⟨St.put_wf hw (St.lv_lt hw (St.lv_of hg)) _,AFr.whole (by simp)⟩,fun _ _ ho=> ?_⟩;obtain⟨m,clk,q1,q2,q3,q4,q5,q6,q7⟩:=mp_look ho (fun k=>.inr (.inr (.inr (by simp)))) hg (mFind_keys hkk hf);rcases mp_find hkk hf q3 q5 with⟨i1,v1,j1,e,e0,e1,e2,e3,p2⟩|⟨e,_,_⟩
      ·cases e0;have hj:j1<m.toList.length:=by
        rcases Nat.lt_or_ge j1 m.toList.length with h|h
        ·exact h
        ·rw[List.getElem?_eq_none h] at e2;cases e2
       have hl:(m.modify j1 fun e=>{ e with key:=k',val:=v'}).toList=m.toList.modify j1 fun e=>{ e with key:=k',val:=v'}:=Array.toList_modify ..
       have hget:∀n x,(m.toList.modify j1 fun e=>{ e with key:=k',val:=v'})[n]?=some x→(n=j1∧x={ e with key:=k',val:=v'})∨(n≠j1∧m.toList[n]?=some x):=by
        intro n x hx;rw[List.getElem?_modify] at hx;by_cases en:j1=n
        ·subst en;rw[e2] at hx;simp at hx;exact .inl ⟨rfl,hx.symm⟩
        ·simp only[if_neg en] at hx;exact .inr ⟨fun h=>en h.symm,by simpa using hx⟩
       have hkeys:(m.toList.modify j1 fun e=>{ e with key:=k',val:=v'}).map MapEntry.key=m.toList.map MapEntry.key:=by
        refine List.ext_getElem? fun n=> ?_
        rw[List.getElem?_map,List.getElem?_map,List.getElem?_modify];by_cases en:j1=n
        ·subst en;rw[e2];simp[e3]
        ·simp only[if_neg en];cases m.toList[n]?<;>rfl
       have hborn:(m.toList.modify j1 fun e=>{ e with key:=k',val:=v'}).map MapEntry.born=m.toList.map MapEntry.born:=by
        refine List.ext_getElem? fun n=> ?_
        rw[List.getElem?_map,List.getElem?_map,List.getElem?_modify];by_cases en:j1=n
        ·subst en;rw[e2];simp
        ·simp only[if_neg en];cases m.toList[n]?<;>rfl
       have hek:(es.set i (k',v)).map Prod.fst=es.map Prod.fst:=by
        refine List.ext_getElem? fun n=> ?_
        rw[List.getElem?_map,List.getElem?_map,List.getElem?_set];by_cases en:i=n
        ·subst en;rw[e1];have:i<es.length:=by
          rcases Nat.lt_or_ge i es.length with h|h
          ·exact h
          ·rw[List.getElem?_eq_none h] at e1;cases e1
         simp[this]
        ·rw[if_neg en]
       refine⟨undef,ι,_,?_,plain_refl 8 _ rfl,Post.setMap (m1:=m.modify j1 fun e=>{ e with key:=k',val:=v'}) (clk1:=clk) hg q1 q2 ?_ ?_ ?_ ?_ ?_⟩
       ·have hmi:m[j1]?=some e:=by rw[←Array.getElem?_toList];exact e2
        simp only[Instr.mapUpdate,Sem.run_bind,run_und hT hu,Result.andThen_ok,run_getMap P w q1,run_checkKey hT hd hkk,run_findKey hT hd p2,hmi,Option.map_some,Option.getD_some,Instr.keyThatStays,e3,sameBits_key hkk,if_true,Sem.run_pure,run_setMap P w q1]
       ·rw[hl,hkeys,hek];exact q3
       ·refine⟨fun x hx=> ?_,by rw[hl,hborn];exact q4.2⟩;rw[hl] at hx;obtain⟨n,hn⟩:=List.mem_iff_getElem?.1 hx;rcases hget n x hn with⟨-,rfl⟩|⟨-,hn⟩
        ·exact q4.1 e (List.mem_of_getElem? e2)
        ·exact q4.1 x (List.mem_of_getElem? hn)
       ·rw[hek];exact q5
       ·intro bs c hbc;rw[hl,hkeys,hborn,hek];exact q6 bs c hbc
       ·intro n a ha;rw[List.getElem?_set] at ha;by_cases en:i=n
        ·rw[if_pos en] at ha
         split at ha
         ·cases ha;refine⟨{ e with key:=k',val:=v'},?_,VR.mkPair (keyK_plain hkk) hv⟩;rw[hl];refine List.mem_iff_getElem?.2 ⟨j1,?_⟩;rw[List.getElem?_modify,e2];simp
         ·cases ha
        ·rw[if_neg en] at ha;obtain⟨x,hx,hxk,hxv⟩:=q7 n a ha;have hak:keyK d a.1=true:=mFind_keys hkk hf a (List.mem_of_getElem? ha);have hne:x.key≠k':=fun h=>by
          have h1:(es.map Prod.fst)[n]?=some k':=by rw[List.getElem?_map,ha,←h,hxk];rfl
          have h2:(es.map Prod.fst)[i]?=some k':=by rw[List.getElem?_map,e1];rfl
          have l1:i<(es.map Prod.fst).length:=by
           rcases Nat.lt_or_ge i (es.map Prod.fst).length with h|h
           ·exact h
           ·rw[List.getElem?_eq_none h] at h2;cases h2
          exact en ((List.getElem?_inj l1 q5).1 (h2.trans h1.symm))
         obtain⟨n2,hn2⟩:=List.mem_iff_getElem?.1 hx;refine⟨x,?_,?_⟩
         ·rw[hl];refine List.mem_iff_getElem?.2 ⟨n2,?_⟩;have:j1≠n2:=fun h=>by subst h;rw[e2] at hn2;cases hn2;exact hne e3
          rw[List.getElem?_modify,hn2];simp[this]
         ·have:=VR.mkPair (keyK_plain hak) hxv;rw[hxk];exact this
      ·cases e
     ·rename_i hf;cases h;refine⟨Nat.le_refl _,fun hw=>⟨St.put_wf hw (St.lv_lt hw (St.lv_of hg)) _,AFr.whole (by simp)⟩,fun _ _ ho=> ?_⟩;obtain⟨m,clk,q1,q2,q3,q4,q5,q6,q7⟩:=mp_look ho (fun k=>.inr (.inr (.inr (by simp)))) hg (mFind_keys hkk hf);rcases mp_find hkk hf q3 q5 with⟨_,_,_,_,e,_⟩|⟨_,p1,p2⟩
      ·cases e
      have hl:(m.push { key:=k',val:=v',born:=clk}).toList=m.toList++[{ key:=k',val:=v',born:=clk}]:=Array.toList_push ..;refine⟨undef,ι,_,?_,plain_refl 8 _ rfl,Post.setMap (m1:=m.push { key:=k',val:=v',born:=clk}) (clk1:=clk+1) hg q1 q2 ?_ ?_ ?_ ?_ ?_⟩
      ·simp only[Instr.mapUpdate,Sem.run_bind,run_und hT hu,Result.andThen_ok,run_getMap P w q1,run_checkKey hT hd hkk,run_findKey hT hd p2,Sem.run_pure,run_setMap P w q1]
      ·rw[hl,List.map_append,List.map_append];exact q3.append_right _
      ·refine⟨fun x hx=> ?_,?_⟩
       ·rw[hl] at hx;rcases List.mem_append.1 hx with hx|hx
        ·exact Nat.lt_succ_of_lt (q4.1 x hx)
        ·rw[List.mem_singleton] at hx;subst hx;exact Nat.lt_succ_self _
       ·rw[hl,List.map_append,List.nodup_append];refine⟨q4.2,by simp,fun a ha b hb=> ?_⟩;obtain⟨x,hx,rfl⟩:=List.mem_map.1 ha;have:=q4.1 x hx;have hb:b=clk:=by simpa using hb
        omega
      ·rw[List.map_append,List.nodup_append];refine⟨q5,by simp,fun a ha b hb=> ?_⟩;simp only[List.map_cons,List.map_nil,List.mem_singleton] at hb;subst hb;intro e;subst e;obtain⟨x,hx,hxa⟩:=List.mem_map.1 ha;exact(mFind_all hkk hf).2.1 rfl x hx hxa
      ·intro bs c hbc;cases ex with
       |none=>cases hbc
       |some p=>
        obtain⟨bs0,c0⟩:=p;cases hbc;obtain⟨r1,r2,r3⟩:=q6 bs0 c0 rfl;subst r3;rw[hl,List.map_append,List.map_append,List.map_append,r1,r2];exact⟨rfl,rfl,rfl⟩
      ·intro n a ha;rw[hl];rcases Nat.lt_or_ge n es.length with hn|hn
       ·rw[List.getElem?_append_left hn] at ha;obtain⟨x,hx,hxk,hxv⟩:=q7 n a ha;have hak:keyK d a.1=true:=mFind_keys hkk hf a (List.mem_of_getElem? ha);refine⟨x,List.mem_append_left _ hx,?_⟩;rw[hxk];exact VR.mkPair (keyK_plain hak) hxv
       ·rw[List.getElem?_append_right hn] at ha;have:a=(k',v):=by
         have:=List.mem_of_getElem? ha;simpa using this
        subst this;exact⟨_,List.mem_append_right _ (List.mem_singleton.2 rfl),VR.mkPair (keyK_plain hkk) hv⟩
     ·cases h
    ·cases h
   ·cases h
  ·cases h
 ·cases h
theorem erase_perm {α:Type} {l:List α} {i:Nat} {a:α} (h:l[i]?=some a):l.Perm (a::l.eraseIdx i):=by
 have hi:i<l.length:=by
  rcases Nat.lt_or_ge i l.length with h'|h'
  ·exact h'
  ·rw[List.getElem?_eq_none h'] at h;cases h
 rw[List.getElem?_eq_getElem hi] at h;cases h;have e:l=l.take i++l[i]::l.drop (i+1):=by rw[←List.drop_eq_getElem_cons hi,List.take_append_drop]
 rw[List.eraseIdx_eq_take_drop_succ];exact(List.Perm.of_eq e).trans List.perm_middle
def aDelete (T:TE) (σ:St) (args:Array TypeId) (m k:Value):Option R:=
 match args.toList with
 |t::_=>match T.und t with
  |some (.map kt _)=>match T.und kt with
   |some d=>bif keyK d k then match m with
    | .map (some id)=>match σ.heap.get id with
      |some (.mp es _)=>match mFind d k es with
       |some (some (i,_))=>some ⟨.tuple #[],σ.put id (some (.mp (es.eraseIdx i) none)),⟨[],[],[],[id]⟩⟩
       |some none=>some ⟨.tuple #[],σ.put id (some (.mp es none)),⟨[],[],[],[id]⟩⟩
       |none=>none
      |_=>none
    |_=>none
    else none
   |none=>none
  |_=>none
 |_=>none
include hT in
theorem aDelete_sound {args:Array TypeId} {ty:TypeId} {m k m' k':Value} {r:R} (h:aDelete T σ args m k=some r) (hm:VR D ι m m') (hk:VR D ι k k'):
  Sound P D ι σ w (Builtin.delete_ args ty #[m',k']) r:=by
 unfold aDelete at h
 split at h
 ·rename_i t rest hargs;have h0:args[0]?=some t:=by rw[←Array.getElem?_toList,hargs];rfl
  split at h
  ·rename_i kt el hu
   split at h
   ·rename_i d hd;cases hkk:keyK d k
    ·rw[hkk] at h;cases h
    rw[hkk,cond_true] at h;have ek:=plain_eq 8 k k' (keyK_plain hkk) hk;subst ek
    split at h
    ·rename_i id;have hm2:m'=.map (some (ι id).blk):=by cases hm;rfl
     subst hm2;have ha0:(#[Value.map (some (ι id).blk),k']:Array Value)[0]?=some (.map (some (ι id).blk)):=rfl;have ha1:(#[Value.map (some (ι id).blk),k']:Array Value)[1]?=some k':=rfl
     split at h
     ·rename_i es ex hg
      split at h
      ·rename_i i vo hf;cases h;refine⟨Nat.le_refl _,fun hw=>⟨St.put_wf hw (St.lv_lt hw (St.lv_of hg)) _,AFr.whole (by simp)⟩,fun _ _ ho=> ?_⟩;obtain⟨m,clk,q1,q2,q3,q4,q5,q6,q7⟩:=mp_look ho (fun k=>.inr (.inr (.inr (by simp)))) hg (mFind_keys hkk hf);rcases mp_find hkk hf q3 q5 with⟨i1,v1,j1,e,e0,e1,e2,e3,p2⟩|⟨e,_,_⟩
       ·cases e0;have hl:(m.eraseIdxIfInBounds j1).toList=m.toList.eraseIdx j1:=Array.toList_eraseIdxIfInBounds;have pm:=erase_perm e2;have pe:=erase_perm e1;have hpk:((m.toList.eraseIdx j1).map MapEntry.key).Perm ((es.eraseIdx i).map Prod.fst):=by
         have a:=(pm.map MapEntry.key).symm.trans (q3.trans (pe.map Prod.fst));simp only[List.map_cons,e3] at a;exact a.cons_inv
        have hnd:(k'::(es.eraseIdx i).map Prod.fst).Nodup:=by
         have:=(pe.map Prod.fst).nodup_iff.1 q5;simpa only[List.map_cons] using this
        refine⟨.tuple #[],ι,_,?_,plain_refl 8 _ rfl,Post.setMap (m1:=m.eraseIdxIfInBounds j1) (clk1:=clk) hg q1 q2 ?_ ?_ ?_ ?_ ?_⟩
        ·simp only[Builtin.delete_,h0,ha0,ha1,Sem.run_bind,run_und hT hu,Result.andThen_ok,run_getMap P w q1,run_checkKey hT hd hkk,run_findKey hT hd p2,run_setMap P w q1,Sem.run_pure]
        ·rw[hl];exact hpk
        ·refine⟨fun x hx=> ?_,?_⟩
         ·rw[hl] at hx;exact q4.1 x (pm.mem_iff.2 (List.mem_cons_of_mem _ hx))
         ·rw[hl];exact(List.nodup_cons.1 ((pm.map MapEntry.born).nodup_iff.1 q4.2)).2
        ·exact(List.nodup_cons.1 hnd).2
        ·intro bs c hbc;cases hbc
        ·intro n a ha;have ham:a∈es.eraseIdx i:=List.mem_of_getElem? ha;obtain⟨n2,hn2⟩:=List.mem_iff_getElem?.1 (pe.mem_iff.2 (List.mem_cons_of_mem _ ham));obtain⟨x,hx,hxk,hxv⟩:=q7 n2 a hn2;have hak:keyK d a.1=true:=mFind_keys hkk hf a (List.mem_of_getElem? hn2);refine⟨x,?_,by rw[hxk];exact VR.mkPair (keyK_plain hak) hxv⟩
         rw[hl];rcases List.mem_cons.1 (pm.mem_iff.1 hx) with h|h
         ·subst h;have:a.1=k':=hxk.symm.trans e3;exact absurd (List.mem_map.2 ⟨a,ham,this⟩) (List.nodup_cons.1 hnd).1
         ·exact h
       ·cases e
      ·rename_i hf;cases h;refine⟨Nat.le_refl _,fun hw=>⟨St.put_wf hw (St.lv_lt hw (St.lv_of hg)) _,AFr.whole (by simp)⟩,fun _ _ ho=> ?_⟩;obtain⟨m,clk,q1,q2,q3,q4,q5,q6,q7⟩:=mp_look ho (fun k=>.inr (.inr (.inr (by simp)))) hg (mFind_keys hkk hf);rcases mp_find hkk hf q3 q5 with⟨_,_,_,_,e,_⟩|⟨_,p1,p2⟩
       ·cases e
       refine⟨.tuple #[],ι,_,?_,plain_refl 8 _ rfl,Post.setMap (m1:=m) (clk1:=clk) hg q1 q2 q3 q4 q5 ?_ ?_⟩
       ·simp only[Builtin.delete_,h0,ha0,ha1,Sem.run_bind,run_und hT hu,Result.andThen_ok,run_getMap P w q1,run_checkKey hT hd hkk,run_findKey hT hd p2,run_setMap P w q1,Sem.run_pure]
       ·intro bs c hbc;cases hbc
       ·intro n a ha;obtain⟨x,hx,hxk,hxv⟩:=q7 n a ha;have hak:keyK d a.1=true:=mFind_keys hkk hf a (List.mem_of_getElem? ha);exact⟨x,hx,by rw[hxk];exact VR.mkPair (keyK_plain hak) hxv⟩
      ·cases h
     ·cases h
    ·cases h
   ·cases h
  ·cases h
 ·cases h
theorem aMakeMap_abs {x:Option Value} {r:R} (h:aMakeMap σ x=some r):Abs σ r:=by
 unfold aMakeMap at h
 split at h
 ·cases h;exact Abs.new _ _ _
 ·cases h
theorem aLookup_abs {t:TypeId} {x i:Value} {ok:Bool} {r:R} (h:aLookup T σ t x i ok=some r):Abs σ r:=by
 unfold aLookup at h;simp only[Bool.cond_eq_ite] at h
 repeat' split at h
 all_goals first|(cases h;exact Abs.same _ _)|cases h
theorem aMapUpdate_abs {t:TypeId} {m k v:Value} {r:R} (h:aMapUpdate T σ t m k v=some r):Abs σ r:=by
 unfold aMapUpdate at h;simp only[Bool.cond_eq_ite] at h
 repeat' split at h
 all_goals first|(cases h;exact Abs.whole (by assumption))|cases h
theorem aDelete_abs {t:Array TypeId} {m k:Value} {r:R} (h:aDelete T σ t m k=some r):Abs σ r:=by
 unfold aDelete at h;simp only[Bool.cond_eq_ite] at h
 repeat' split at h
 all_goals first|(cases h;exact Abs.whole (by assumption))|cases h
end
end Go.Eng
end
end
section
noncomputable section
noncomputable section
namespace Go.Eng
open Go
def pairK:Value→Option (Int×Int)
 | .agg cs=>match cs.toList with
   |[.int .i64 a,.int .i64 b]=>some (a,b)
   |_=>none
 |_=>none
theorem pairK_spec {k:Value} {p:Int×Int} (h:pairK k=some p):k=.agg #[.int .i64 p.1,.int .i64 p.2]:=by
 unfold pairK at h
 split at h
 ·rename_i cs
  split at h
  ·rename_i a b hc;cases h;rw[show cs=#[.int .i64 a,.int .i64 b] from Array.ext' hc]
  ·cases h
 ·cases h
def pairT (T:TE) (cmp:TypeId→Option (List (TypeId×Nat))) (kt:TypeId):Bool:=
 match cmp kt with
 |some [(t0,0),(t1,1)]=>match T.und t0,T.und t1,T.und kt with
  |some (.int .i64),some (.int .i64),some (.struct _)=>true
  |_,_,_=>false
 |_=>false
def eqP (p q:Option (Int×Int)):Bool:=
 match p,q with
 |some a,some b=>a.1==b.1&&a.2==b.2
 |_,_=>false
theorem eqP_spec {k a:Value} {p q:Int×Int} (hk:pairK k=some p) (ha:pairK a=some q):eqP (pairK k) (pairK a)=true↔a=k:=by
 rw[hk,ha,pairK_spec hk,pairK_spec ha];simp only[eqP,Bool.and_eq_true,beq_iff_eq];constructor
 ·rintro⟨h1,h2⟩;rw[h1,h2]
 ·intro h;injection h with h;have:=congrArg Array.toList h;simp only[List.cons.injEq,Value.int.injEq,true_and,and_true] at this;exact⟨this.1.symm,this.2.symm⟩
def mFindS (k:Value):List (Value×Value)→Option (Nat×Value)
 |[]=>none
 |a::l=>bif eqP (pairK k) (pairK a.1) then some (0,a.2) else match mFindS k l with
  |some (i,v)=>some (i+1,v)
  |none=>none
theorem mFindS_spec {k:Value} {p:Int×Int} (hk:pairK k=some p):∀{l:List (Value×Value)},(l.all fun a=>(pairK a.1).isSome)=true→(mFindS k l=none→∀a,a∈l→a.1≠k)∧∀i v,mFindS k l=some (i,v)→l[i]?=some (k,v)
 |[],_=>⟨fun _ a ha=>(by cases ha),fun i v h=>(by cases h)⟩
 |a::l,h=>by
  rw[List.all_cons,Bool.and_eq_true] at h;obtain⟨q,hq⟩:=Option.isSome_iff_exists.1 h.1;obtain⟨g1,g2⟩:=mFindS_spec hk h.2;have e:=eqP_spec hk hq;unfold mFindS;cases hb:eqP (pairK k) (pairK a.1)
  ·have hne:a.1≠k:=fun h=>by rw[e.2 h] at hb;cases hb
   rw[cond_false];cases hm:mFindS k l with
   |none=>
    refine⟨fun _ x hx=> ?_,fun i v h=>(by cases h)⟩;rcases List.mem_cons.1 hx with rfl|hx
    ·exact hne
    ·exact g1 hm x hx
   |some iv=>
    obtain⟨i,v⟩:=iv;refine⟨fun h=>(by cases h),fun i' v' h=> ?_⟩;cases h;simpa using g2 i v hm
  ·rw[cond_true];refine⟨fun h=>(by cases h),fun i v h=> ?_⟩;cases h;rw[←e.1 hb];rfl
section
variable {P:Program} {T:TE} (hT:T.OK P) {D:Nat→Prop} {ι:Nat→Reg} {σ:St} {w:World} {cmp:TypeId→Option (List (TypeId×Nat))} (hc:∀t l,cmp t=some l→CmpOK P t l)
theorem ar_self {xs:Array Value} (h:∀x,x∈xs.toList→plainN 8 x=true):AR D ι xs xs:=
 ⟨rfl,fun i a b h1 h2=>by
  rw[h1] at h2;cases h2;exact plain_refl 8 a (h a (by rw[←Array.getElem?_toList] at h1;exact List.mem_of_getElem? h1))⟩
include hT hc in
theorem run_pairEq {kt:TypeId} (hp:pairT T cmp kt=true) (a b c d:Int) (w:World):(Op.equal kt (.agg #[.int .i64 a,.int .i64 b]) (.agg #[.int .i64 c,.int .i64 d])).run P w=.ok (a==c&&b==d) w:=by
 unfold pairT at hp
 split at hp
 ·rename_i t0 t1 hl;obtain⟨fs,hu,hl',hn,hs,hg⟩:=hc _ _ hl
  split at hp
  ·rename_i h0 h1 _;have hf:P.fieldsOf kt=fs:=by unfold Program.fieldsOf;rw[hu]
   have hg:gCells T [.int .i64 a,.int .i64 b] [.int .i64 c,.int .i64 d] (fs.toList.map fun f=>(f.type,f.offset))=some (a==c&&b==d):=by
    rw[hl'];simp[gCells,h0,h1,unsy,eqS]
   have pl:∀(x y:Int),∀v,v∈(#[.int .i64 x,.int .i64 y]:Array Value).toList→plainN 8 v=true:=fun x y v hv=>by
    have:v=.int .i64 x∨v=.int .i64 y:=by simpa using hv
    rcases this with rfl|rfl<;>rfl
   show(Op.equalIn 10000 kt _ _).run P w=_;rw[show(10000:Nat)=9999+1 from rfl,run_equalIn_struct w 9999 kt _ _ (by rw[hf];exact hu) hs,hf];exact gCells_run (D:=fun _=>True) (ι:=fun _=>rg 0 0 0 0) hT (ar_self (pl a b)) (ar_self (pl c d)) 9998 w fs.toList _ hn hg
  ·cases hp
 ·cases hp
include hT hc in
theorem run_asking {kt:TypeId} (hp:pairT T cmp kt=true) {k:Value} {p:Int×Int} (hk:pairK k=some p) (w:World):∀(l:List MapEntry) (i:Nat),(∀e,e∈l→∃q,pairK e.key=some q)→
  (∃j e,l[j]?=some e∧e.key=k∧(Instr.findAsking kt k l i).run P w=.ok (some (i+j,e.val)) w)∨((∀e,e∈l→e.key≠k)∧(Instr.findAsking kt k l i).run P w=.ok none w)
 |[],i,_=>.inr ⟨fun e he=>(by cases he),rfl⟩
 |e::l,i,h=>by
  obtain⟨q,hq⟩:=h e (List.mem_cons_self ..);have heq:(Op.equal kt k e.key).run P w=.ok (eqP (pairK k) (pairK e.key)) w:=by
   rw[hk,hq,pairK_spec hk,pairK_spec hq];exact run_pairEq hT hc hp _ _ _ _ w
  have es:=eqP_spec hk hq;cases hb:eqP (pairK k) (pairK e.key)
  ·rw[hb] at heq;rcases run_asking hp hk w l (i+1) fun x hx=>h x (List.mem_cons_of_mem _ hx) with⟨j,x,g1,g2,g3⟩|⟨g1,g2⟩
   ·refine .inl ⟨j+1,x,by simpa using g1,g2,?_⟩;simp only[Instr.findAsking,Sem.run_bind,heq,Result.andThen_ok,Bool.false_eq_true,if_false,g3];congr 3;omega
   ·refine .inr ⟨fun x hx=> ?_,?_⟩
    ·rcases List.mem_cons.1 hx with rfl|hx
     ·exact fun hh=>by rw[es.2 hh] at hb;cases hb
     ·exact g1 x hx
    ·simp only[Instr.findAsking,Sem.run_bind,heq,Result.andThen_ok,Bool.false_eq_true,if_false,g2]
  ·rw[hb] at heq;refine .inl ⟨0,e,rfl,es.1 hb,?_⟩;simp only[Instr.findAsking,Sem.run_bind,heq,Result.andThen_ok,if_true,Sem.run_pure];rfl
theorem pairT_und {kt:TypeId} (hp:pairT T cmp kt=true):∃fs,T.und kt=some (.struct fs):=by
 unfold pairT at hp
 split at hp
 ·split at hp
  ·rename_i h;exact⟨_,h⟩
  ·cases hp
 ·cases hp
include hT hc in
theorem run_findS {kt:TypeId} (hp:pairT T cmp kt=true) {k:Value} {p:Int×Int} (hk:pairK k=some p) (w:World) (l:List MapEntry) (h:∀e,e∈l→∃q,pairK e.key=some q):
  (∃j e,l[j]?=some e∧e.key=k∧(Instr.findKey kt k l).run P w=.ok (some (j,e.val)) w)∨((∀e,e∈l→e.key≠k)∧(Instr.findKey kt k l).run P w=.ok none w):=by
 obtain⟨fs,hu⟩:=pairT_und hp;cases l with
 |nil=>exact .inr ⟨fun e he=>(by cases he),by simp only[Instr.findKey,Sem.run_bind,run_und hT hu,Result.andThen_ok,Instr.findNow,Sem.run_pure]⟩
 |cons e l=>
  have hn:Instr.findNow (.struct fs) k (e::l) 0=none:=by simp only[Instr.findNow,Instr.sameNow]
  have hr:(Instr.findKey kt k (e::l)).run P w=(Instr.findAsking kt k (e::l) 0).run P w:=by simp only[Instr.findKey,Sem.run_bind,run_und hT hu,Result.andThen_ok,hn]
  rw[hr];rcases run_asking hT hc hp hk w (e::l) 0 h with⟨j,x,g1,g2,g3⟩|g
  ·exact .inl ⟨j,x,g1,g2,by rw[g3,Nat.zero_add]⟩
  ·exact .inr g
include hT hc in
theorem run_checkS {kt:TypeId} (hp:pairT T cmp kt=true) {k:Value} {p:Int×Int} (hk:pairK k=some p) (e:Bool) (w:World):(Instr.checkKey e 10000 kt k).run P w=.ok () w:=by
 rw[pairK_spec hk];unfold pairT at hp
 split at hp
 ·rename_i t0 t1 hl;obtain⟨fs,hu,hl',hn,_,_⟩:=hc _ _ hl
  split at hp
  ·rename_i h0 h1 h2;have hfs:∃f0 f1,fs=#[f0,f1]∧(f0.type,f0.offset)=(t0,0)∧(f1.type,f1.offset)=(t1,1):=by
    generalize hfl:fs.toList=L at hl';rcases L with _|⟨f0,_|⟨f1,_|⟨f2,L⟩⟩⟩
    ·cases hl'
    ·simp at hl'
    ·simp only[List.map_cons,List.map_nil,List.cons.injEq,and_true] at hl';exact⟨f0,f1,Array.ext' hfl,hl'.1,hl'.2⟩
    ·simp at hl'
   obtain⟨f0,f1,rfl,e0,e1⟩:=hfs;simp only[Prod.mk.injEq] at e0 e1;have n0:f0.name≠ "_" :=hn f0 (by simp);have n1:f1.name≠ "_" :=hn f1 (by simp);have p0:(part f0.type #[.int .i64 p.1,.int .i64 p.2] f0.offset).run P w=.ok (.int .i64 p.1) w:=by
    rw[e0.1,e0.2];simp only[part,Sem.run_bind,run_isAgg hT h0,isAggD,Result.andThen_ok,Bool.false_eq_true,if_false];rfl
   have p1:(part f1.type #[.int .i64 p.1,.int .i64 p.2] f1.offset).run P w=.ok (.int .i64 p.2) w:=by
    rw[e1.1,e1.2];simp only[part,Sem.run_bind,run_isAgg hT h1,isAggD,Result.andThen_ok,Bool.false_eq_true,if_false];rfl
   obtain⟨N,hN⟩:∃N:Nat,10000=N+1+1:=⟨9998,rfl⟩
   have c0:∀x,(Instr.checkKey e (N+1) f0.type (.int .i64 x)).run P w=.ok () w:=fun x=>by
    rw[e0.1];exact run_checkKeyN (d:=.int .i64) hT h0 rfl e N w
   have c1:∀x,(Instr.checkKey e (N+1) f1.type (.int .i64 x)).run P w=.ok () w:=fun x=>by
    rw[e1.1];exact run_checkKeyN (d:=.int .i64) hT h1 rfl e N w
   have hud:∀w,(underlying kt).run P w=.ok (.struct #[f0,f1]) w:=fun w=>run_underlying hu w
   rw[hN];unfold Instr.checkKey;simp only[Sem.run_bind,hud,Result.andThen_ok];rw[←Array.forIn_toList];simp only[List.forIn_cons,List.forIn_nil,if_pos n0,if_pos n1,Sem.run_bind,p0,p1,c0,c1,Result.andThen_ok,Sem.run_pure]
  ·cases hp
 ·cases hp
theorem mp_lookP {φ:Foot} {id:Nat} {es:List (Value×Value)} {ex:Option (List Nat×Nat)} (ho:HOn P D ι σ.H φ w) (hf:∀k,φ.Fc id k) (hg:σ.heap.get id=some (.mp es ex)) (hall:(es.all fun a=>(pairK a.1).isSome)=true):
  ∃(m:Array MapEntry) (clk:Nat),w.heap[(ι id).blk]?=some (.map m clk)∧((ι id).base=0∧(ι id).own=true∧∀b,¬(ι id).Fz b)∧(m.toList.map MapEntry.key).Perm (es.map Prod.fst)∧((∀e,e∈m.toList→e.born<clk)∧(m.toList.map MapEntry.born).Nodup)∧(es.map Prod.fst).Nodup∧
   (∀bs c,ex=some (bs,c)→m.toList.map MapEntry.key=es.map Prod.fst∧m.toList.map MapEntry.born=bs∧clk=c)∧
   (∀(i:Nat) a,es[i]?=some a→∃e,e∈m.toList∧e.key=a.1∧VR D ι a.2 e.val)∧∀e,e∈m.toList→∃q,pairK e.key=some q:=by
 obtain⟨⟨m,clk,h1,h2,h3,h4,h5⟩,h6⟩:=ho.hd id _ (hf 0).fi (St.hdr_of hg);refine⟨m,clk,h1,h6,h2,h3,h4,h5,fun i a ha=> ?_,fun e he=> ?_⟩
 ·obtain⟨_,v',e1,e2⟩:=ho.ce id i (.tuple #[a.1,a.2]) (hf i) (St.lv_of hg) (by simp[St.H,hg,cellOf,ha]);obtain⟨e,he,rfl⟩:=e1.map h1;obtain⟨q,hq⟩:=Option.isSome_iff_exists.1 (List.all_eq_true.1 hall a (List.mem_of_getElem? ha));obtain⟨a1,a2⟩:=a;have hk:=pairK_spec hq;simp only at hk;subst hk;cases e2 with
  |tuple as bs hs hh=>exact⟨e,he,plain_eq 8 _ _ rfl (hh 0 _ _ rfl rfl),hh 1 _ _ rfl rfl⟩
 ·obtain⟨a,ha,hae⟩:=List.mem_map.1 (h2.mem_iff.1 (List.mem_map.2 ⟨e,he,rfl⟩));rw[←hae];exact Option.isSome_iff_exists.1 (List.all_eq_true.1 hall a ha)
include hT hc in
theorem mp_findS {es:List (Value×Value)} {m:Array MapEntry} {kt:TypeId} (hp:pairT T cmp kt=true) {k:Value} {p:Int×Int} (hk:pairK k=some p) (hall:(es.all fun a=>(pairK a.1).isSome)=true) (hq:(m.toList.map MapEntry.key).Perm (es.map Prod.fst)) (hm:∀e,e∈m.toList→∃q,pairK e.key=some q) (w:World):
  (∃i v j e,mFindS k es=some (i,v)∧es[i]?=some (k,v)∧m.toList[j]?=some e∧e.key=k∧(Instr.findKey kt k m.toList).run P w=.ok (some (j,e.val)) w)∨
   (mFindS k es=none∧(∀e,e∈m.toList→e.key≠k)∧(Instr.findKey kt k m.toList).run P w=.ok none w):=by
 obtain⟨g1,g2⟩:=mFindS_spec hk hall;rcases run_findS hT hc hp hk w m.toList hm with⟨j,e,e1,e2,e3⟩|⟨e1,e2⟩
 ·cases hr:mFindS k es with
  |none=>
   obtain⟨a,ha,hae⟩:=List.mem_map.1 (hq.mem_iff.1 (List.mem_map.2 ⟨e,List.mem_of_getElem? e1,rfl⟩));exact absurd (hae.trans e2) (g1 hr a ha)
  |some iv=>obtain⟨i,v⟩:=iv;exact .inl ⟨i,v,j,e,rfl,g2 i v hr,e1,e2,e3⟩
 ·cases hr:mFindS k es with
  |none=>exact .inr ⟨rfl,e1,e2⟩
  |some iv=>
   obtain⟨i,v⟩:=iv;obtain⟨e,he,hek⟩:=List.mem_map.1 (hq.mem_iff.2 (List.mem_map.2 ⟨(k,v),List.mem_of_getElem? (g2 i v hr),rfl⟩));exact absurd hek (e1 e he)
def aLookupS (T:TE) (cmp:TypeId→Option (List (TypeId×Nat))) (σ:St) (t:TypeId) (x i:Value) (ok:Bool):Option R:=
 match T.und t with
 |some (.map kt el)=>bif pairT T cmp kt then match pairK i,x with
  |some _,.map (some id)=>match σ.heap.get id with
   |some (.mp es _)=>bif es.all fun a=>(pairK a.1).isSome then match mFindS i es with
    |some (_,v)=>some ⟨mVal ok v true,σ,⟨[],[id],[],[]⟩⟩
    |none=>match mZero T el with
     |some z=>some ⟨mVal ok z false,σ,⟨[],[id],[],[]⟩⟩
     |none=>none
    else none
   |_=>none
  |_,_=>none
  else none
 |_=>none
include hT hc in
theorem aLookupS_sound {t:TypeId} {x i x' i':Value} {ok:Bool} {r:R} (h:aLookupS T cmp σ t x i ok=some r) (hx:VR D ι x x') (hi:VR D ι i i'):Sound P D ι σ w (Instr.lookup t x' i' ok) r:=by
 unfold aLookupS at h
 split at h
 case h_2=>cases h
 rename_i kt el hu;cases hp:pairT T cmp kt
 ·rw[hp] at h;cases h
 rw[hp,cond_true] at h
 split at h
 case h_2=>cases h
 rename_i p id hk;have ei:=plain_eq 8 i i' (by rw[pairK_spec hk];rfl) hi;subst ei;have hx2:x'=.map (some (ι id).blk):=by cases hx;rfl
 subst hx2
 split at h
 case h_2=>cases h
 rename_i es ex hg;cases hall:(es.all fun a=>(pairK a.1).isSome)
 ·rw[hall] at h;cases h
 rw[hall,cond_true] at h
 split at h
 ·rename_i j v hf;cases h;refine⟨Nat.le_refl _,fun hw=>⟨hw,AFr.refl _ _⟩,fun _ _ ho=> ?_⟩;obtain⟨m,clk,q1,q2,q3,q4,q5,q6,q7,q8⟩:=mp_lookP ho (fun k=>.inr (.inl (by simp))) hg hall;rcases mp_findS hT hc hp hk hall q3 q8 w with⟨i1,v1,j1,e,e0,e1,e2,e3,p2⟩|⟨e,_,_⟩
  ·rw[hf] at e0;cases e0;obtain⟨e',he',hk',hv'⟩:=q7 _ _ e1;obtain rfl:=nodup_key q3 q5 he' (List.mem_of_getElem? e2) (hk'.trans e3.symm);refine⟨if ok then .tuple #[e'.val,.bool true] else e'.val,ι,w,?_,(VR.mVal hv').mono (fun _=>.inl) fun _ _=>rfl,Post.same (St.rng_self σ) rfl rfl rfl rfl rfl⟩;simp only[Instr.lookup,Sem.run_bind,run_und hT hu,Result.andThen_ok,run_getMap P w q1,Sem.run_pure,run_checkS hT hc hp hk,p2]
  ·rw[hf] at e;cases e
 ·rename_i hf
  split at h
  ·rename_i z hz;cases h;obtain⟨z1,z2⟩:=mZero_run (P:=P) (D:=D) (ι:=ι) hT hz w;refine Sound.same (w':=w) (v':=if ok then .tuple #[z,.bool false] else z) (fun ho=> ?_) rfl rfl;obtain⟨m,clk,q1,q2,q3,q4,q5,q6,q7,q8⟩:=mp_lookP ho (fun k=>.inr (.inl (by simp))) hg hall;rcases mp_findS hT hc hp hk hall q3 q8 w with⟨_,_,_,_,e,_⟩|⟨_,p1,p2⟩
   ·rw[hf] at e;cases e
   refine⟨?_,z2.mVal,rfl,rfl,rfl⟩;simp only[Instr.lookup,Sem.run_bind,run_und hT hu,Result.andThen_ok,run_getMap P w q1,Sem.run_pure,run_checkS hT hc hp hk,p2,z1]
  ·cases h
theorem aLookupS_abs {t:TypeId} {x i:Value} {ok:Bool} {r:R} (h:aLookupS T cmp σ t x i ok=some r):Abs σ r:=by
 have key:r.σ=σ:=by
  unfold aLookupS at h
  repeat' split at h
  all_goals first|(cases h;done)|skip
  all_goals
   cases hp:pairT T cmp _
   all_goals rw[hp] at h
   ·cases h
   rw[cond_true] at h
   repeat' split at h
   all_goals first|(cases h;done)|skip
   all_goals
    cases hall:(List.all _ fun a:Value×Value=>(pairK a.1).isSome)
    all_goals rw[hall] at h
    ·cases h
    rw[cond_true] at h
    repeat' split at h
    all_goals first|(cases h;done)|(cases h;rfl)
 exact⟨by rw[key];exact Nat.le_refl _,fun hw=>by rw[key];exact⟨hw,AFr.refl _ _⟩⟩
def stampOf (ex:Option (List Nat×Nat)) (i:Nat):Option Nat:=
 match ex with
 |some (bs,_)=>bs[i]?
 |none=>none
def aMapEntryS (T:TE) (cmp:TypeId→Option (List (TypeId×Nat))) (σ:St) (t:TypeId) (x k:Value):Option R:=
 match T.und t with
 |some (.map kt el)=>bif pairT T cmp kt then match pairK k,x with
  |some _,.map (some id)=>match σ.heap.get id with
   |some (.mp es ex)=>bif es.all fun a=>(pairK a.1).isSome then match mFindS k es with
    |some (i,v)=>match stampOf ex i with
     |some b=>some ⟨.tuple #[v,.int .i64 b],σ.put id (some (.mp es ex)),⟨[],[],[],[id]⟩⟩
     |none=>none
    |none=>match mZero T el,ex with
     |some z,some (bs,c)=>some ⟨.tuple #[z,.int .i64 c],σ.put id (some (.mp (es++[(k,z)]) (some (bs++[c],c+1)))),⟨[],[],[],[id]⟩⟩
     |_,_=>none
    else none
   |_=>none
  |_,_=>none
  else none
 |_=>none
theorem pair_vr {v v' u u':Value} (h1:VR D ι v v') (h2:VR D ι u u'):VR D ι (.tuple #[v,u]) (.tuple #[v',u']):=
 .tuple _ _ rfl fun i a a' ha ha'=>by
  match i with
  |0=>cases ha;cases ha';exact h1
  |1=>cases ha;cases ha';exact h2
  |i+2=>simp at ha
theorem bits_pair (a b:Int):Instr.sameBits 10000 (.agg #[.int .i64 a,.int .i64 b]) (.agg #[.int .i64 a,.int .i64 b])=true:=by
 simp[Instr.sameBits]
include hT hc in
theorem aMapEntryS_sound {t:TypeId} {x k x' k':Value} {r:R} (h:aMapEntryS T cmp σ t x k=some r) (hx:VR D ι x x') (hi:VR D ι k k'):Sound P D ι σ w (Instr.mapEntry t x' k') r:=by
 unfold aMapEntryS at h
 split at h
 case h_2=>cases h
 rename_i kt el hu;cases hp:pairT T cmp kt
 ·rw[hp] at h;cases h
 rw[hp,cond_true] at h
 split at h
 case h_2=>cases h
 rename_i p id hk;have ei:=plain_eq 8 k k' (by rw[pairK_spec hk];rfl) hi;subst ei;have hx2:x'=.map (some (ι id).blk):=by cases hx;rfl
 subst hx2
 split at h
 case h_2=>cases h
 rename_i es ex hg;cases hall:(es.all fun a=>(pairK a.1).isSome)
 ·rw[hall] at h;cases h
 rw[hall,cond_true] at h
 split at h
 ·rename_i i v hf
  split at h
  case h_2=>cases h
  rename_i b hb;cases h;refine⟨Nat.le_refl _,fun hw=>⟨St.put_wf hw (St.lv_lt hw (St.lv_of hg)) _,AFr.whole (by simp)⟩,fun _ _ ho=> ?_⟩;obtain⟨m,clk,q1,q2,q3,q4,q5,q6,q7,q8⟩:=mp_lookP ho (fun k=>.inr (.inr (.inr (by simp)))) hg hall;rcases mp_findS hT hc hp hk hall q3 q8 w with⟨i1,v1,j1,e,e0,e1,e2,e3,p2⟩|⟨e,_,_⟩
  ·rw[hf] at e0;cases e0;obtain⟨bs,c,rfl,hb⟩:∃bs c,ex=some (bs,c)∧bs[i]?=some b:=by
    unfold stampOf at hb
    split at hb
    ·exact⟨_,_,rfl,hb⟩
    ·cases hb
   obtain⟨r1,r2,r3⟩:=q6 bs c rfl;have hj:j1=i:=by
    have l1:j1<(m.toList.map MapEntry.key).length:=by
     rw[List.length_map];rcases Nat.lt_or_ge j1 m.toList.length with h|h
     ·exact h
     ·rw[List.getElem?_eq_none h] at e2;cases e2
    refine(List.getElem?_inj l1 (q3.nodup_iff.2 q5)).1 ?_;rw[List.getElem?_map,e2,r1,List.getElem?_map,e1];simp[e3]
   subst hj;have hbe:e.born=b:=by
    have:(m.toList.map MapEntry.born)[j1]?=some b:=by rw[r2];exact hb
    rw[List.getElem?_map,e2] at this;simpa using this
   obtain⟨e',he',hk',hv'⟩:=q7 _ _ e1;obtain rfl:=nodup_key q3 q5 he' (List.mem_of_getElem? e2) (hk'.trans e3.symm);have hmi:m[j1]?=some e':=by rw[←Array.getElem?_toList];exact e2
   have hsame:m.modify j1 (fun e=>{ e with key:=k'})=m:=by
    apply Array.ext';rw[Array.toList_modify];apply List.ext_getElem?;intro n;rw[List.getElem?_modify];by_cases hn:j1=n
    ·subst hn;rw[e2];simp only[if_true,Option.map_eq_map,Option.map_some];rw[←e3]
    ·simp only[if_neg hn];cases m.toList[n]?<;>rfl
   have hbits:Instr.sameBits 10000 e'.key k'=true:=by rw[e3,pairK_spec hk];exact bits_pair _ _
   refine⟨.tuple #[e'.val,.int .i64 e'.born],ι,_,?_,(pair_vr hv' (by rw[hbe];exact .int _ _)).mono (fun _=>.inl) fun _ _=>rfl,Post.setMap (m1:=m) (clk1:=clk) hg q1 q2 q3 q4 q5 (fun bs' c' h=>q6 bs' c' h) fun n a ha=> ?_⟩
   ·simp only[Instr.mapEntry,Sem.run_bind,run_und hT hu,Result.andThen_ok,run_getMap P w q1,run_checkS hT hc hp hk,p2,hmi,Option.map_some,Option.getD_some,Instr.keyThatStays,hbits,if_true,Sem.run_pure,hsame,run_setMap P w q1,goInt]
   ·obtain⟨y,hy,hyk,hyv⟩:=q7 n a ha;refine⟨y,hy,?_⟩;rw[hyk];obtain⟨q,hq⟩:=Option.isSome_iff_exists.1 (List.all_eq_true.1 hall a (List.mem_of_getElem? ha));exact pair_vr (plain_refl 8 _ (by rw[pairK_spec hq];rfl)) hyv
  ·rw[hf] at e;cases e
 ·rename_i hf
  split at h
  case h_2=>cases h
  rename_i z bs c hz;cases h;refine⟨Nat.le_refl _,fun hw=>⟨St.put_wf hw (St.lv_lt hw (St.lv_of hg)) _,AFr.whole (by simp)⟩,fun _ _ ho=> ?_⟩;obtain⟨m,clk,q1,q2,q3,q4,q5,q6,q7,q8⟩:=mp_lookP ho (fun k=>.inr (.inr (.inr (by simp)))) hg hall;rcases mp_findS hT hc hp hk hall q3 q8 w with⟨_,_,_,_,e,_⟩|⟨_,p1,p2⟩
  ·rw[hf] at e;cases e
  obtain⟨r1,r2,r3⟩:=q6 bs c rfl;subst r3;obtain⟨z1,z2⟩:=mZero_run (P:=P) (D:=D) (ι:=ι) hT hz w;have hl:(m.push { key:=k',val:=z,born:=clk}).toList=m.toList++[{ key:=k',val:=z,born:=clk}]:=Array.toList_push ..;refine⟨.tuple #[z,.int .i64 clk],ι,_,?_,(pair_vr z2 (.int _ _)).mono (fun _=>.inl) fun _ _=>rfl,Post.setMap (m1:=m.push { key:=k',val:=z,born:=clk}) (clk1:=clk+1) hg q1 q2 ?_ ?_ ?_ ?_ ?_⟩
  ·simp only[Instr.mapEntry,Sem.run_bind,run_und hT hu,Result.andThen_ok,run_getMap P w q1,run_checkS hT hc hp hk,p2,z1,Sem.run_pure,run_setMap P w q1,goInt]
  ·rw[hl,List.map_append,List.map_append];exact q3.append_right _
  ·refine⟨fun x hx=> ?_,?_⟩
   ·rw[hl] at hx;rcases List.mem_append.1 hx with hx|hx
    ·exact Nat.lt_succ_of_lt (q4.1 x hx)
    ·rw[List.mem_singleton] at hx;subst hx;exact Nat.lt_succ_self _
   ·rw[hl,List.map_append,List.nodup_append];refine⟨q4.2,by simp,fun a ha b hb=> ?_⟩;obtain⟨x,hx,rfl⟩:=List.mem_map.1 ha;have:=q4.1 x hx;have hb:b=clk:=by simpa using hb
    omega
  ·rw[List.map_append,List.nodup_append];refine⟨q5,by simp,fun a ha b hb=> ?_⟩;simp only[List.map_cons,List.map_nil,List.mem_singleton] at hb;subst hb;intro e;subst e;obtain⟨x,hx,hxa⟩:=List.mem_map.1 (q3.mem_iff.2 ha);exact p1 x hx hxa
  ·intro bs' c' hbc;cases hbc;rw[hl,List.map_append,List.map_append,List.map_append,r1,r2];exact⟨rfl,rfl,rfl⟩
  ·intro n a ha;rw[hl];rcases Nat.lt_or_ge n es.length with hn|hn
   ·rw[List.getElem?_append_left hn] at ha;obtain⟨x,hx,hxk,hxv⟩:=q7 n a ha;refine⟨x,List.mem_append_left _ hx,?_⟩;rw[hxk];obtain⟨q,hq⟩:=Option.isSome_iff_exists.1 (List.all_eq_true.1 hall a (List.mem_of_getElem? ha));exact pair_vr (plain_refl 8 _ (by rw[pairK_spec hq];rfl)) hxv
   ·rw[List.getElem?_append_right hn] at ha;have:a=(k',z):=by
     have:=List.mem_of_getElem? ha;simpa using this
    subst this;exact⟨_,List.mem_append_right _ (List.mem_singleton.2 rfl),pair_vr (plain_refl 8 _ (by rw[pairK_spec hk];rfl)) z2⟩
def aEntryStore (σ:St) (x st v:Value):Option R:=
 match x,st with
 | .map (some id),.int .i64 (.ofNat s)=>match σ.heap.get id with
   |some (.mp es (some (bs,c)))=>bif es.all fun a=>(pairK a.1).isSome then match bs.findIdx? (Nat.beq s) with
    |some i=>match es[i]? with
     |some a=>some ⟨undef,σ.put id (some (.mp (es.set i (a.1,v)) (some (bs,c)))),⟨[],[],[],[id]⟩⟩
     |none=>none
    |none=>none
    else none
   |_=>none
 |_,_=>none
theorem findIdx_map {α β:Type} (f:α→β) (p:β→Bool) (q:α→Bool) (h:∀a,q a=p (f a)):∀l:List α,(l.map f).findIdx? p=l.findIdx? q
 |[]=>rfl
 |a::l=>by
  rw[List.map_cons,List.findIdx?_cons,List.findIdx?_cons,h a,findIdx_map f p q h l]
theorem aEntryStore_sound {t:TypeId} {x st v x' st' v':Value} {r:R} (h:aEntryStore σ x st v=some r) (hx:VR D ι x x') (hst:VR D ι st st') (hv:VR D ι v v'):Sound P D ι σ w (do Instr.entryStore t x' st' v';pure undef) r:=by
 unfold aEntryStore at h
 split at h
 case h_2=>cases h
 rename_i id s;have hx2:x'=.map (some (ι id).blk):=by cases hx;rfl
 subst hx2;cases hst
 split at h
 case h_2=>cases h
 rename_i es bs c hg;cases hall:(es.all fun a=>(pairK a.1).isSome)
 ·rw[hall] at h;cases h
 rw[hall,cond_true] at h
 split at h
 case h_2=>cases h
 rename_i i hi
 split at h
 case h_2=>cases h
 rename_i a ha;cases h;refine⟨Nat.le_refl _,fun hw=>⟨St.put_wf hw (St.lv_lt hw (St.lv_of hg)) _,AFr.whole (by simp)⟩,fun _ _ ho=> ?_⟩;obtain⟨m,clk,q1,q2,q3,q4,q5,q6,q7,q8⟩:=mp_lookP ho (fun k=>.inr (.inr (.inr (by simp)))) hg hall;obtain⟨r1,r2,r3⟩:=q6 bs c rfl;subst r3;have hidx:m.findIdx? (fun e=>(e.born:Int)==Int.ofNat s)=some i:=by
  have ht:∀(q:MapEntry→Bool),m.findIdx? q=m.toList.findIdx? q:=fun q=>by cases m;simp
  rw[ht,←findIdx_map MapEntry.born (Nat.beq s) (fun e:MapEntry=>((e.born:Int)==Int.ofNat s)) (fun e=> ?_) m.toList,r2]
  ·exact hi
  ·show((e.born:Int)==(s:Int))=Nat.beq s e.born;by_cases hh:e.born=s
   ·subst hh;rw[beq_self_eq_true];exact(Nat.beq_refl _).symm
   ·rw[beq_eq_false_iff_ne.2 (by omega)];cases hb:Nat.beq s e.born
    ·rfl
    ·exact absurd (Nat.eq_of_beq_eq_true hb).symm hh
 have hil:i<m.toList.length:=by
  have h1:(m.toList.map MapEntry.key).length=(es.map Prod.fst).length:=by rw[r1]
  rw[List.length_map,List.length_map] at h1;rcases Nat.lt_or_ge i es.length with h|h
  ·omega
  ·rw[List.getElem?_eq_none h] at ha;cases ha
 obtain⟨e,he⟩:∃e,m.toList[i]?=some e:=⟨_,List.getElem?_eq_getElem hil⟩
 have hek:e.key=a.1:=by
  have:(m.toList.map MapEntry.key)[i]?=(es.map Prod.fst)[i]?:=by rw[r1]
  rw[List.getElem?_map,List.getElem?_map,he,ha] at this;simpa using this
 have hlm:(m.modify i fun e=>{ e with val:=v'}).toList=m.toList.modify i fun e=>{ e with val:=v'}:=Array.toList_modify ..
 have hk2:((m.modify i fun e=>{ e with val:=v'}).toList.map MapEntry.key)=m.toList.map MapEntry.key:=by
  rw[hlm];refine List.ext_getElem? fun n=> ?_
  rw[List.getElem?_map,List.getElem?_map,List.getElem?_modify];by_cases en:i=n
  ·subst en;rw[he];simp
  ·simp only[if_neg en];cases m.toList[n]?<;>rfl
 have hb2:((m.modify i fun e=>{ e with val:=v'}).toList.map MapEntry.born)=m.toList.map MapEntry.born:=by
  rw[hlm];refine List.ext_getElem? fun n=> ?_
  rw[List.getElem?_map,List.getElem?_map,List.getElem?_modify];by_cases en:i=n
  ·subst en;rw[he];simp
  ·simp only[if_neg en];cases m.toList[n]?<;>rfl
 have hes:(es.set i (a.1,v)).map Prod.fst=es.map Prod.fst:=by
  refine List.ext_getElem? fun n=> ?_
  rw[List.getElem?_map,List.getElem?_map,List.getElem?_set];by_cases en:i=n
  ·subst en;rw[ha];have:i<es.length:=by
    rcases Nat.lt_or_ge i es.length with h|h
    ·exact h
    ·rw[List.getElem?_eq_none h] at ha;cases ha
   simp[this]
  ·rw[if_neg en]
 refine⟨undef,ι,_,?_,plain_refl 8 _ rfl,Post.setMap (m1:=m.modify i fun e=>{ e with val:=v'}) (clk1:=clk) hg q1 q2 ?_ ?_ ?_ ?_ ?_⟩
 ·simp only[Instr.entryStore,Sem.run_bind,run_getMap P w q1,Result.andThen_ok,asInt,asIntOf,Sem.run_pure,hidx,run_setMap P w q1]
 ·rw[hk2,hes];exact q3
 ·refine⟨fun x hx=> ?_,by rw[hb2];exact q4.2⟩;have:x.born∈m.toList.map MapEntry.born:=by rw[←hb2];exact List.mem_map_of_mem hx
  obtain⟨y,hy,hyb⟩:=List.mem_map.1 this;rw[←hyb];exact q4.1 y hy
 ·rw[hes];exact q5
 ·intro bs' c' hbc;rw[hk2,hb2,hes];exact q6 bs' c' hbc
 ·intro n b hb;rw[List.getElem?_set] at hb;rw[hlm];by_cases en:i=n
  ·rw[if_pos en] at hb
   split at hb
   ·cases hb;refine⟨{ e with val:=v'},List.mem_iff_getElem?.2 ⟨i,by rw[List.getElem?_modify,he];simp⟩,?_⟩;obtain⟨q,hq⟩:=Option.isSome_iff_exists.1 (List.all_eq_true.1 hall a (List.mem_of_getElem? ha));show VR D ι (.tuple #[a.1,v]) (.tuple #[e.key,v']);rw[hek];exact pair_vr (plain_refl 8 _ (by rw[pairK_spec hq];rfl)) hv
   ·cases hb
  ·rw[if_neg en] at hb;obtain⟨y,hy,hyk,hyv⟩:=q7 n b hb;obtain⟨n2,hn2⟩:=List.mem_iff_getElem?.1 hy;obtain⟨q,hq⟩:=Option.isSome_iff_exists.1 (List.all_eq_true.1 hall b (List.mem_of_getElem? hb));refine⟨y,List.mem_iff_getElem?.2 ⟨n2,?_⟩,by rw[hyk];exact pair_vr (plain_refl 8 _ (by rw[pairK_spec hq];rfl)) hyv⟩
   have hne:i≠n2:=fun h=>by
    subst h;rw[he] at hn2;cases hn2;have h1:(es.map Prod.fst)[n]?=some a.1:=by rw[List.getElem?_map,hb,←hek,hyk];rfl
    have h2:(es.map Prod.fst)[i]?=some a.1:=by rw[List.getElem?_map,ha];rfl
    have l1:i<(es.map Prod.fst).length:=by
     rcases Nat.lt_or_ge i (es.map Prod.fst).length with h|h
     ·exact h
     ·rw[List.getElem?_eq_none h] at h2;cases h2
    exact en ((List.getElem?_inj l1 q5).1 (h2.trans h1.symm))
   rw[List.getElem?_modify,hn2];simp[hne]
theorem aEntryStore_abs {x st v:Value} {r:R} (h:aEntryStore σ x st v=some r):Abs σ r:=by
 unfold aEntryStore at h
 split at h
 case h_2=>cases h
 split at h
 case h_2=>cases h
 rename_i es bs c hg;cases hall:(es.all fun a=>(pairK a.1).isSome)
 ·rw[hall] at h;cases h
 rw[hall,cond_true] at h
 split at h
 case h_2=>cases h
 split at h
 case h_2=>cases h
 cases h;exact⟨Nat.le_refl _,fun hw=>⟨St.put_wf hw (St.lv_lt hw (St.lv_of hg)) _,AFr.whole (by simp)⟩⟩
theorem aMapEntryS_abs {t:TypeId} {x k:Value} {r:R} (h:aMapEntryS T cmp σ t x k=some r):Abs σ r:=by
 unfold aMapEntryS at h
 split at h
 case h_2=>cases h
 rename_i kt el hu;cases hp:pairT T cmp kt
 ·rw[hp] at h;cases h
 rw[hp,cond_true] at h
 split at h
 case h_2=>cases h
 split at h
 case h_2=>cases h
 rename_i es ex hg;cases hall:(es.all fun a=>(pairK a.1).isSome)
 ·rw[hall] at h;cases h
 rw[hall,cond_true] at h
 split at h
 ·split at h
  case h_2=>cases h
  cases h;exact⟨Nat.le_refl _,fun hw=>⟨St.put_wf hw (St.lv_lt hw (St.lv_of hg)) _,AFr.whole (by simp)⟩⟩
 ·split at h
  case h_2=>cases h
  cases h;exact⟨Nat.le_refl _,fun hw=>⟨St.put_wf hw (St.lv_lt hw (St.lv_of hg)) _,AFr.whole (by simp)⟩⟩
end
end Go.Eng
end
end
end
section
noncomputable section
noncomputable section
namespace Go.Eng
open Go
def symV (σ:St):Option SV→Option OpR
 |some (v,ps)=>some (.val ⟨sy v,σ.assumes ps,.nil⟩)
 |none=>none
def sBin2 (T:TE) (op:BinOp) (t:TypeId) (a b:Value):Option SV:=
 match unsy a,unsy b with
 |some (.bool x),some (.bool y)=>match T.und t with
  |some .bool=>sBin op (.bool x) (.bool y)
  |_=>none
 |some a,some b=>sBin op a b
 |_,_=>none
def isCon:Operand→Bool
 | .const _=>true
 |_=>false
def eBin (T:TE) (op:BinOp) (t:TypeId) (oy:Operand) (a b:Value):Option SV:=
 match uner a,b,T.und t with
 |some e,.nilIface,some (.interface _)=>bif isCon oy then match op with
   | .eql=>some (.bool e,[])
   | .neq=>some (.bool (!e),[])
   |_=>none
  else none
 |_,_,_=>none
def sBin3 (T:TE) (op:BinOp) (t:TypeId) (oy:Operand) (a b:Value):Option SV:=
 match sBin2 T op t a b with
 |some r=>some r
 |none=>eBin T op t oy a b
def sBin4 (E:Env) (op:BinOp) (t:TypeId) (oy:Operand) (a b:Value):Option SV:=
 match sBin3 E.T op t oy a b with
 |some r=>some r
 |none=>gBin E.T E.cmp op t a b
def unsyO:Option Value→Option (Option Value)
 |none=>some none
 |some v=>match unsy v with
  |some u=>some (some u)
  |none=>none
def unsyL:List Value→Option (List Value)
 |[]=>some []
 |v::vs=>match unsy v,unsyL vs with
  |some u,some us=>some (u::us)
  |_,_=>none
def sSlice (T:TE) (σ:St) (t:TypeId) (x:Value) (lo hi:Option Value):Option OpR:=
 match sCutD T σ t x lo hi with
 |some r=>some (.val r)
 |none=>match unsy x,unsyO lo,unsyO hi with
  |some u,some l,some h=>symV σ (sCut T t u l h)
  |_,_,_=>none
def aAppendE (T:TE) (σ:St) (args:Array TypeId) (x y:Value):Option R:=
 match x with
 | .slice (some ⟨id,off,some 0⟩) 0 c=>bif Nat.beq c unk then match lenV y with
   |some (_+1)=>aAppend T σ args (.slice (some ⟨id,off,none⟩) 0 unk) y
   |_=>none
   else none
 |_=>none
def sCallB (T:TE) (σ:St) (b:Builtin) (argTypes:List TypeId) (args:List Value):Option OpR:=
 match b,args with
 | .append,[x,y]=>memV (aAppendE T σ argTypes.toArray x y)
 | .len,[x]=>match sLen T σ argTypes x with
   |some r=>some (.val r)
   |none=>match unsyL args with
    |some us=>symV σ (sBI T b argTypes us)
    |none=>none
 |_,_=>match unsyL args with
  |some us=>symV σ (sBI T b argTypes us)
  |none=>none
def sMnz (E:Env) (σ:St) (g:FuncId) (args:List Value):Option OpR:=
 match E.mnz g,args with
 |some elem,[v]=>match unsy v,E.T.inf elem with
  |some (.int .i64 (.ofNat n)),some e=>bif Nat.beq e.size 1&&Nat.ble n 281474976710656 then some (.val ⟨.slice (some ⟨σ.next,0,none⟩) n unk,σ.new (.row (List.replicate n junk) elem false),.nil⟩) else none
  |_,_=>none
 |_,_=>none
def rB2S (σ:St) (x:Value):Option R:=
 match x with
 | .slice (some ⟨id,off,none⟩) len _=>match σ.heap.get id with
   |some (.row cs _ _)=>match lslice cs off len with
    |some l=>match unsyL l with
     |some us=>match bytesOfV us with
      |some b=>some ⟨sy (.string (bs b)),σ,⟨locs id off len,[],[],[]⟩⟩
      |none=>none
     |none=>none
    |none=>none
   |_=>none
 |_=>none
def rConv (T:TE) (σ:St) (src dst:TypeId) (x:Value):Option R:=
 match T.und src,T.und dst with
 |some (.slice e),some .string=>bif isU8 (T.und e) then rB2S σ x else none
 |_,_=>none
def rIndexAddr (T:TE) (σ:St) (t:TypeId) (v u:Value):Option R:=
 match sIndexAddr T σ t v u with
 |some r=>some r
 |none=>match unsy u with
  |some i=>aIndexAddr T σ t v i
  |none=>none
def oraI (k:Nat):Int:=bif Nat.blt k 2000 then Int.ofNat (k-1000) else Int.negSucc (k-2000)
def orV (E:Env) (op:BinOp) (σ:St) (x:Option SV):Option OpR:=
 bif E.conc then match x with
  |some (.bool b,ps)=>match σ.ora with
   |[]=>symV σ x
   |k::os=>some (.val ⟨.bool (Nat.beq k 1),(σ.decide (b==Nat.beq k 1) os).assumes ps,.nil⟩)
  |some (.int kd z,ps)=>match op with
   | .rem=>match σ.ora with
     |[]=>symV σ x
     |k::os=>bif Nat.ble 1000 k then some (.val ⟨.int kd (oraI k),(σ.decide (decide (z=oraI k)) os).assumes ps,.nil⟩) else symV σ x
   |_=>symV σ x
  |x=>symV σ x
 else symV σ x
def isIntV (k:IntKind) (v:Value):Bool:=match v with
 | .int k' _=>decide (k=k')
 |_=>false
def neIntV (v:Value) (n:Int):Bool:=match v with
 | .int _ m=> !decide (n=m)
 |_=>true
def isTupU (v:Value):Bool:=match v with
 | .tuple _=>true
 |_=>false
def aLookupU (T:TE) (σ:St) (t:TypeId) (x u:Value) (ok:Bool):Option R:=
 match u,x with
 | .int k n,.map (some id)=>match σ.heap.get id with
   |some (.mp es _)=>match T.und t with
    |some (.map kt el)=>match T.und kt with
     |some (.int k')=>bif decide (k=k')&&es.all (fun e=>isIntV k e.1) then match mZero T el with
      |some z=>some ⟨mVal ok z false,σ.assumes (es.map fun e=>neIntV e.1 n),⟨[],[id],[],[]⟩⟩
      |none=>none
      else none
     |_=>none
    |_=>none
   |_=>none
 |_,_=>none
theorem mFind_none {k:IntKind} {n:Int}:∀{es:List (Value×Value)},es.all (fun e=>isIntV k e.1)=true→AllP (es.map fun e=>neIntV e.1 n)→mFind (.int k) (.int k n) es=some none
 |[],_,_=>rfl
 |(a,v)::es,h,hp=>by
  rw[List.all_cons,Bool.and_eq_true] at h;have hp:neIntV a n=true∧AllP (es.map fun e=>neIntV e.1 n):=hp;have ih:=mFind_none h.2 hp.2;have h1:=h.1;unfold isIntV at h1
  split at h1
  ·rename_i k' m e;have e:a=.int k' m:=e;subst e;have hk:=of_decide_eq_true h1;subst hk;have hne:=hp.1;have hne:¬n=m:=by simpa[neIntV] using hne
   have hs:Instr.sameNow (.int k) (.int k n) (.int k m)=some false:=by simp[Instr.sameNow,hne]
   simp only[mFind,hs,ih]
  ·cases h1
def symOp (E:Env) (s:Tr Value) (σ:St) (o:Oper):Option OpR:=
 match o.op with
 | .load t a=>match av E.G s a with
   |some v=>memV (sLoad E.T σ t v)
   |none=>none
 | .binOp op t x y _=>match av E.G s x,av E.G s y with
   |some a,some b=>orV E op σ (sBin4 E op t y a b)
   |_,_=>none
 | .unOp op _ x=>match av E.G s x with
   |some v=>match unsy v with
    |some u=>symV σ (sUn op u)
    |none=>none
   |none=>none
 | .convert src dst x=>match av E.G s x with
   |some v=>match unsy v with
    |some u=>symV σ (sConv E.T src dst u)
    |none=>memV (rConv E.T σ src dst v)
   |none=>none
 | .slice t x lo hi none=>match av E.G s x,avo E.G s lo,avo E.G s hi with
   |some v,some l,some h=>sSlice E.T σ t v l h
   |_,_,_=>none
 | .fieldAddr t x f=>match av E.G s x with
   |some v=>memV (sFieldAddr E.T σ t v f)
   |none=>none
 | .indexAddr t x i=>match av E.G s x,av E.G s i with
   |some v,some u=>memV (rIndexAddr E.T σ t v u)
   |_,_=>none
 | .index t x i=>match av E.G s x,av E.G s i with
   |some v,some u=>match unsy v,unsy u with
    |some a,some b=>symV σ (sIdx E.T t a b)
    |_,_=>none
   |_,_=>none
 | .lookup t x i ok=>match av E.G s x,av E.G s i with
   |some v,some u=>bif isTupU u then match unsy u with
    |some n=>memV (aLookupU E.T σ t v n ok)
    |none=>none
    else none
   |_,_=>none
 | .call c=>match avs E.G s c.args.toList with
   |some args=>match c.callee with
    | .builtin b=>sCallB E.T σ b c.argTypes.toList args
    | .value f=>match av E.G s f with
      |some (.func (.func g) first captured)=>sMnz E σ g (first.toList++args++captured.toList)
      |_=>none
    |_=>none
   |none=>none
 |_=>none
def vConv (T:TE) (vt:TypeId→Option Ty) (σ:St) (src dst:TypeId) (x:Value):Option R:=
 match x with
 | .tuple a=>match T.und src,T.und dst,a.toList with
   |some _,some (.slice e),[.chan (some 1),.string s]=>match vt e with
    |some .byte=>bif isU8 (T.und e) then vS2B T σ e (toL s) else none
    |_=>none
   |some (.slice e),some .string,[.chan (some 2),_]=>bif isU8 (T.und e) then vB2S σ x else none
   |_,_,_=>none
 |_=>none
def vCutV (T:TE) (σ:St) (t:TypeId) (x:Value) (lo hi:Option Value):Option R:=
 match x with
 | .tuple a=>match T.und t,a.toList with
   |some (.slice elem),[.chan (some 2),.pointer (some ⟨id,0,none⟩)]=>match σ.heap.get id,T.inf elem with
    |some (.vec te xs e),some i=>bif Nat.beq e elem&&Nat.beq i.size te.sz then match lo,hi with
     |none,some h=>match unsy h with
      |some (.int _ m)=>some ⟨pf id m.toNat,σ.assumes [decide (0≤m),decide (m≤xs.length)],⟨[],[id],[],[]⟩⟩
      |_=>none
     |some l,none=>match unsy l with
      |some (.int _ n)=>some ⟨dt σ.next,((σ.puts [id]).new (.vec te (xs.drop n.toNat) elem)).assumes [decide (0≤n),decide (n≤xs.length)],⟨[],[],[],[id]⟩⟩
      |_=>none
     |_,_=>none
     else none
    |_,_=>none
   |_,_=>none
 |_=>none
def nilCmp (T:TE) (σ:St) (op:BinOp) (t:TypeId) (x y:Value):Option R:=
 match x,y with
 | .tuple a,.slice none 0 0=>match T.und t,a.toList with
   |some (.slice _),[.chan (some 2),.pointer (some ⟨id,0,none⟩)]=>match datOf (σ.heap.get id) with
    |some ⟨_,xs⟩=>match op with
     | .eql=>some ⟨.bool false,σ.assume (decide (0<xs.length)),⟨[],[id],[],[]⟩⟩
     | .neq=>some ⟨.bool true,σ.assume (decide (0<xs.length)),⟨[],[id],[],[]⟩⟩
     |_=>none
    |none=>none
   |_,_=>none
 |_,_=>none
def vOp (E:Env) (s:Tr Value) (σ:St) (o:Oper):Option OpR:=
 match o.op with
 | .call c=>match c.callee with
   | .builtin .append=>match avs E.G s c.args.toList with
     |some [x,y]=>memV (vApp E.T E.vt σ c.argTypes x y)
     |_=>none
   |_=>none
 | .store t a x=>match av E.G s a,av E.G s x with
   |some v,some u=>memV (vStoreA E.T σ t v u)
   |_,_=>none
 | .convert src dst x=>match av E.G s x with
   |some v=>memV (vConv E.T E.vt σ src dst v)
   |none=>none
 | .makeSlice t l c=>match av E.G s l,av E.G s c with
   |some a,some b=>memV (vMake E.T σ t a b)
   |_,_=>none
 | .binOp op t x y _=>match av E.G s x,av E.G s y with
   |some a,some b=>memV (nilCmp E.T σ op t a b)
   |_,_=>none
 | .slice t x lo hi none=>match av E.G s x,avo E.G s lo,avo E.G s hi with
   |some v,some l,some h=>memV (vCutV E.T σ t v l h)
   |_,_,_=>none
 |_=>none
def mOp (E:Env) (s:Tr Value) (σ:St) (o:Oper):Option OpR:=
 match o.op with
 | .makeMap _ n=>match avo E.G s n with
   |some v=>memV (aMakeMap σ v)
   |none=>none
 | .lookup t x i ok=>match av E.G s x,av E.G s i with
   |some v,some u=>match aLookup E.T σ t v u ok with
    |some r=>memV (some r)
    |none=>memV (aLookupS E.T E.cmp σ t v u ok)
   |_,_=>none
 | .mapEntry t m k=>match av E.G s m,av E.G s k with
   |some v,some u=>memV (aMapEntryS E.T E.cmp σ t v u)
   |_,_=>none
 | .entryStore _ m k x=>match av E.G s m,av E.G s k,av E.G s x with
   |some v,some u,some y=>memV (aEntryStore σ v u y)
   |_,_,_=>none
 | .mapUpdate t m k x=>match av E.G s m,av E.G s k,av E.G s x with
   |some v,some u,some y=>memV (aMapUpdate E.T σ t v u y)
   |_,_,_=>none
 | .insert t m k x=>match av E.G s m,av E.G s k,av E.G s x with
   |some v,some u,some y=>memV (aMapUpdate E.T σ t v u y)
   |_,_,_=>none
 | .call c=>match c.callee with
   | .builtin .delete=>match avs E.G s c.args.toList with
     |some [x,y]=>memV (aDelete E.T σ c.argTypes x y)
     |_=>none
   |_=>none
 |_=>none
def aOpS0 (P:Program) (E:Env) (s:Tr Value) (σ:St) (o:Oper):Option OpR:=
 match aOp P E s σ o with
 |some r=>some r
 |none=>match symOp E s σ o with
  |some r=>some r
  |none=>mOp E s σ o
def vOpC (E:Env) (s:Tr Value) (σ:St) (o:Oper):Option OpR:=bif E.conc then none else vOp E s σ o
theorem vOpC_some {E:Env} {s:Tr Value} {σ:St} {o:Oper} {r:OpR} (h:vOpC E s σ o=some r):vOp E s σ o=some r:=by
 unfold vOpC at h;cases hc:E.conc
 ·rw[hc] at h;exact h
 ·rw[hc] at h;cases h
theorem vOpC_none {E:Env} {s:Tr Value} {σ:St} {o:Oper} (h:vOp E s σ o=none):vOpC E s σ o=none:=by
 unfold vOpC;cases E.conc
 ·exact h
 ·rfl
def aOpS (P:Program) (E:Env) (s:Tr Value) (σ:St) (o:Oper):Option OpR:=
 match vOpC E s σ o with
 |some r=>some r
 |none=>aOpS0 P E s σ o
section
variable {P:Program} {E:Env} (hE:E.OK P) {D:Nat→Prop} {ι:Nat→Reg} {σ:St} {w:World} {s:Tr Value} {ρ:Operand→Value}
theorem symV_spec {x:Option SV} {r:R} (h:symV σ x=some (.val r)):∃v ps,x=some (v,ps)∧r=⟨sy v,σ.assumes ps,.nil⟩:=by
 unfold symV at h
 split at h
 ·cases h;exact⟨_,_,rfl,rfl⟩
 ·cases h
theorem assumes_afr:∀(ps:List Bool) (σ:St) (φ:Foot),σ.next≤(σ.assumes ps).next∧(σ.wf→(σ.assumes ps).wf∧AFr σ (σ.assumes ps) φ)
 |[],σ,φ=>⟨Nat.le_refl _,fun hw=>⟨hw,AFr.refl _ _⟩⟩
 |p::ps,σ,φ=>by
  obtain⟨h1,h2⟩:=assumes_afr ps σ φ;exact⟨h1,fun hw=>⟨(h2 hw).1,(h2 hw).2.assume p⟩⟩
theorem symV_abs {x:Option SV} {r:R} (h:symV σ x=some (.val r)):Abs σ r:=by
 obtain⟨v,ps,_,rfl⟩:=symV_spec h;exact assumes_afr ps σ .nil
theorem Sound.abs {e:Sem Value} {r:R} (h:∀(D:Nat→Prop) (ι:Nat→Reg) (w:World),Sound P D ι σ w e r):Abs σ r:=
 ⟨(h (fun _=>False) (fun _=>rg 0 0 0 0) default).1,(h (fun _=>False) (fun _=>rg 0 0 0 0) default).2.1⟩
theorem Abs.assumes {v:Value} {σ':St} {φ:Foot}:∀(ps:List Bool),Abs σ ⟨v,σ',φ⟩→Abs σ ⟨v,σ'.assumes ps,φ⟩
 |[],h=>h
 |p::ps,h=>by
  obtain⟨h1,h2⟩:=Abs.assumes ps h;exact⟨h1,fun hw=>⟨(h2 hw).1,(h2 hw).2.assume p⟩⟩
theorem Abs.assume {v:Value} {σ':St} {φ:Foot} {p:Bool} (h:Abs σ ⟨v,σ',φ⟩):Abs σ ⟨v,σ'.assume p,φ⟩:=Abs.assumes [p] h
theorem sLoad_abs {T:TE} {t:TypeId} {a:Value} {r:R} (h:sLoad T σ t a=some r):Abs σ r:=by
 unfold sLoad at h;simp only[Bool.cond_eq_ite] at h
 split at h
 ·split at h
  ·split at h
   ·split at h
    ·split at h
     ·split at h
      ·rcases hm:mat _ σ with⟨vs,σ1⟩
       rw[hm] at h;cases h;exact Abs.assume (mat_sound hm)
      ·cases h
     ·cases h
    ·split at h
     ·split at h
      ·rename_i hm;cases h;exact Abs.assume (mat_sound hm)
      ·cases h
     ·cases h
   ·cases h
  ·cases h
 ·cases h
theorem sIndexAddr_abs {T:TE} {t:TypeId} {x i:Value} {r:R} (h:sIndexAddr T σ t x i=some r):Abs σ r:=by
 unfold sIndexAddr at h;simp only[Bool.cond_eq_ite] at h
 repeat' split at h
 all_goals first|(cases h;exact Abs.assume (Abs.assume (Abs.same _ _)))|cases h
theorem rConv_abs {T:TE} {src dst:TypeId} {x:Value} {r:R} (h:rConv T σ src dst x=some r):Abs σ r:=by
 unfold rConv rB2S at h;simp only[Bool.cond_eq_ite] at h
 repeat' split at h
 all_goals first|(cases h;exact Abs.same _ _)|cases h
theorem rIndexAddr_abs {T:TE} {t:TypeId} {x i:Value} {r:R} (h:rIndexAddr T σ t x i=some r):Abs σ r:=by
 unfold rIndexAddr at h
 split at h
 ·rename_i h';cases h;exact sIndexAddr_abs h'
 ·split at h
  ·exact aIndexAddr_abs h
  ·cases h
theorem sFieldAddr_abs {T:TE} {t:TypeId} {x:Value} {f:Nat} {r:R} (h:sFieldAddr T σ t x f=some r):Abs σ r:=by
 unfold sFieldAddr at h;simp only[Bool.cond_eq_ite] at h
 repeat' split at h
 all_goals first|(cases h;exact Abs.same _ _)|cases h
theorem sLen_abs {T:TE} {ts:List TypeId} {x:Value} {r:R} (h:sLen T σ ts x=some r):Abs σ r:=by
 unfold sLen at h
 repeat' split at h
 all_goals first|(cases h;exact Abs.same _ _)|cases h
theorem sCutD_abs {T:TE} {t:TypeId} {x:Value} {lo hi:Option Value} {r:R} (h:sCutD T σ t x lo hi=some r):Abs σ r:=by
 unfold sCutD at h;simp only[Bool.cond_eq_ite] at h
 repeat' split at h
 all_goals first|(cases h;exact Abs.assumes _ (Abs.new _ _ _))|cases h
theorem sSlice_abs {T:TE} {t:TypeId} {x:Value} {lo hi:Option Value} {r:R} (h:sSlice T σ t x lo hi=some (.val r)):Abs σ r:=by
 unfold sSlice at h
 split at h
 ·rename_i h';cases h;exact sCutD_abs h'
 ·split at h
  ·exact symV_abs h
  ·cases h
theorem aAppendE_abs {T:TE} {ts:Array TypeId} {x y:Value} {r:R} (h:aAppendE T σ ts x y=some r):Abs σ r:=by
 unfold aAppendE at h;simp only[Bool.cond_eq_ite] at h
 repeat' split at h
 all_goals first|exact aAppend_abs h|cases h
theorem sCallB_abs {T:TE} {b:Builtin} {ts:List TypeId} {args:List Value} {r:R} (h:sCallB T σ b ts args=some (.val r)):Abs σ r:=by
 unfold sCallB at h
 split at h
 ·exact aAppendE_abs (memV_spec h)
 ·split at h
  ·rename_i h';cases h;exact sLen_abs h'
  ·split at h
   ·exact symV_abs h
   ·cases h
 ·split at h
  ·exact symV_abs h
  ·cases h
theorem sMnz_abs {g:FuncId} {args:List Value} {r:R} (h:sMnz E σ g args=some (.val r)):Abs σ r:=by
 unfold sMnz at h;simp only[Bool.cond_eq_ite] at h
 repeat' split at h
 all_goals first|(cases h;exact Abs.new _ _ _)|cases h
theorem orV_abs {op:BinOp} {x:Option SV} {r:R} (h:orV E op σ x=some (.val r)):Abs σ r:=by
 unfold orV at h;cases hc:E.conc
 ·rw[hc] at h;exact symV_abs h
 rw[hc,cond_true] at h
 split at h
 ·split at h
  ·exact symV_abs h
  ·cases h;exact Abs.assumes _ ⟨Nat.le_refl _,fun hw=>⟨hw,(AFr.refl _ _).decide _ _⟩⟩
 ·split at h
  ·split at h
   ·exact symV_abs h
   ·rename_i k os _;cases hk:Nat.ble 1000 k
    ·rw[hk,cond_false] at h;exact symV_abs h
    ·rw[hk,cond_true] at h;cases h;exact Abs.assumes _ ⟨Nat.le_refl _,fun hw=>⟨hw,(AFr.refl _ _).decide _ _⟩⟩
  ·exact symV_abs h
 ·exact symV_abs h
theorem aLookupU_abs {T:TE} {t:TypeId} {x u:Value} {ok:Bool} {r:R} (h:aLookupU T σ t x u ok=some r):Abs σ r:=by
 unfold aLookupU at h;simp only[Bool.cond_eq_ite] at h
 repeat' split at h
 all_goals first|(cases h;exact Abs.assumes _ (Abs.same _ _))|cases h
theorem symOp_abs {o:Oper} {r:R} (h:symOp E s σ o=some (.val r)):Abs σ r:=by
 unfold symOp at h;simp only[Bool.cond_eq_ite] at h
 repeat' split at h
 all_goals first
  |exact symV_abs h
  |exact orV_abs h
  |exact sLoad_abs (memV_spec h)
  |exact sFieldAddr_abs (memV_spec h)
  |exact rIndexAddr_abs (memV_spec h)
  |exact rConv_abs (memV_spec h)
  |exact sSlice_abs h
  |exact sCallB_abs h
  |exact sMnz_abs h
  |exact aLookupU_abs (memV_spec h)
  |cases h
theorem vConv_abs {T:TE} {vt:TypeId→Option Ty} {src dst:TypeId} {x:Value} {r:R} (h:vConv T vt σ src dst x=some r):Abs σ r:=by
 unfold vConv vS2B vB2S at h;simp only[Bool.cond_eq_ite] at h
 repeat' split at h
 all_goals first|(cases h;exact Abs.new _ _ _)|(cases h;exact Abs.same _ _)|cases h
theorem vStore_abs {T:TE} {t:TypeId} {a v:Value} {r:R} (h:vStore T σ t a v=some r):Abs σ r:=by
 unfold vStore at h;simp only[Bool.cond_eq_ite] at h
 repeat' split at h
 all_goals first
  |(rename_i hg _ _ _ _ _ _ _;cases h;exact Abs.assume (Abs.assumes _ ⟨Nat.le_refl _,fun hw=>⟨St.put_wf hw (St.lv_lt hw (St.lv_of (by assumption))) _,AFr.whole (by simp)⟩⟩))
  |(cases h;exact Abs.assume (Abs.assumes _ ⟨Nat.le_refl _,fun hw=>⟨St.put_wf hw (St.lv_lt hw (St.lv_of (by assumption))) _,AFr.whole (by simp)⟩⟩))
  |cases h
theorem vStoreA_abs {T:TE} {t:TypeId} {a v:Value} {r:R} (h:vStoreA T σ t a v=some r):Abs σ r:=by
 unfold vStoreA at h
 split at h
 ·rename_i r' h';cases h;exact vStore_abs h'
 ·unfold vStoreP at h;simp only[Bool.cond_eq_ite] at h
  repeat' split at h
  all_goals first
   |(cases h;exact Abs.assume (Abs.assumes _ ⟨Nat.le_refl _,fun hw=>⟨St.put_wf hw (St.lv_lt hw (St.lv_of (by assumption))) _,AFr.whole (by simp)⟩⟩))
   |cases h
theorem vApp_abs {T:TE} {vt:TypeId→Option Ty} {ts:Array TypeId} {x y:Value} {r:R} (h:vApp T vt σ ts x y=some r):Abs σ r:=by
 unfold vApp at h;simp only[Bool.cond_eq_ite] at h
 repeat' split at h
 all_goals first|(cases h;exact Abs.assume (Abs.assumes _ Abs.puts))|cases h
theorem vMake_abs {T:TE} {t:TypeId} {x y:Value} {r:R} (h:vMake T σ t x y=some r):Abs σ r:=by
 unfold vMake at h;simp only[Bool.cond_eq_ite] at h
 repeat' split at h
 all_goals first|(cases h;exact Abs.assume (Abs.assume (Abs.assume (Abs.new _ _ _))))|cases h
theorem nilCmp_abs {T:TE} {op:BinOp} {t:TypeId} {x y:Value} {r:R} (h:nilCmp T σ op t x y=some r):Abs σ r:=by
 unfold nilCmp at h
 repeat' split at h
 all_goals first|(cases h;exact Abs.assume (Abs.same _ _))|cases h
theorem vCutV_abs {T:TE} {t:TypeId} {x:Value} {lo hi:Option Value} {r:R} (h:vCutV T σ t x lo hi=some r):Abs σ r:=by
 unfold vCutV at h;simp only[Bool.cond_eq_ite] at h
 repeat' split at h
 all_goals first|(cases h;exact Abs.assumes _ (Abs.same _ _))|(cases h;exact Abs.assumes _ Abs.puts)|cases h
theorem vOp_abs {o:Oper} {r:R} (h:vOp E s σ o=some (.val r)):Abs σ r:=by
 unfold vOp at h
 repeat' split at h
 all_goals first
  |exact vApp_abs (memV_spec h)
  |exact vStoreA_abs (memV_spec h)
  |exact vConv_abs (memV_spec h)
  |exact vMake_abs (memV_spec h)
  |exact nilCmp_abs (memV_spec h)
  |exact vCutV_abs (memV_spec h)
  |cases h
theorem mOp_abs {o:Oper} {r:R} (h:mOp E s σ o=some (.val r)):Abs σ r:=by
 unfold mOp at h
 repeat' split at h
 all_goals first
  |exact aMakeMap_abs (memV_spec h)
  |(rename_i hl;have h':=memV_spec h;cases h';exact aLookup_abs hl)
  |exact aLookupS_abs (memV_spec h)
  |exact aMapEntryS_abs (memV_spec h)
  |exact aEntryStore_abs (memV_spec h)
  |exact aMapUpdate_abs (memV_spec h)
  |exact aDelete_abs (memV_spec h)
  |cases h
theorem aOpS_abs {o:Oper} {r:R} (h:aOpS P E s σ o=some (.val r)):Abs σ r:=by
 unfold aOpS aOpS0 at h
 split at h
 ·rename_i h';cases h;exact vOp_abs (vOpC_some h')
 ·split at h
  ·rename_i h';cases h;exact aOp_abs h'
  ·split at h
   ·rename_i h';cases h;exact symOp_abs h'
   ·exact mOp_abs h
theorem eqGuard_scal {op:BinOp} {t:TypeId} {ox oy:Operand} {x y:Value} (h:scal x=true) (w:World):(eqGuard op t ox oy x y).run P w=.ok () w:=
 eqGuard_run (by rintro rfl;cases h) (by rintro c rfl;cases h) w
theorem symV_sound {e:Sem Value} {x:Option SV} {r:R} (h:symV σ x=some (.val r)) (hok:r.σ.Ok) (hr:∀v ps,x=some (v,ps)→AllP ps→e.run P w=.ok v w∧scal v=true):SoundN P D ι σ w (do Pure.pure (.value (←e))) r:=by
 obtain⟨v,ps,hx,rfl⟩:=symV_spec h;obtain⟨hp, -⟩:=(assumes_ok _ _).1 hok;obtain⟨h1,h2⟩:=hr v ps hx hp;exact Sound.next (Sound.assumes ps (Sound.pure h1 (.sym v h2)))
theorem Sound.told {e:Sem Value} {v:Value} {φ:Foot} {σ':St} {p:Bool} {ds:List Nat} (h:Sound P D ι σ w e ⟨v,σ',φ⟩):Sound P D ι σ w e ⟨v,σ'.decide p ds,φ⟩:=
 ⟨h.1,fun hw=>⟨(h.2.1 hw).1,(h.2.1 hw).2.decide p ds⟩,h.2.2⟩
theorem orV_sound {e:Sem Value} {op:BinOp} {x:Option SV} {r:R} (h:orV E op σ x=some (.val r)) (hok:r.σ.Ok) (hr:∀v ps,x=some (v,ps)→AllP ps→e.run P w=.ok v w∧scal v=true):SoundN P D ι σ w (do Pure.pure (.value (←e))) r:=by
 unfold orV at h;cases hc:E.conc
 ·rw[hc] at h;exact symV_sound h hok hr
 rw[hc,cond_true] at h
 split at h
 ·rename_i b ps
  split at h
  ·exact symV_sound h hok hr
  ·rename_i k os _;cases h;obtain⟨hp,h1⟩:=(assumes_ok _ _).1 hok;have hb:b=Nat.beq k 1:=by simpa using h1.1
   obtain⟨h1,h2⟩:=hr _ ps rfl hp;rw[←hb];exact Sound.next (Sound.assumes ps (Sound.told (Sound.pure h1 (plain_refl 8 _ rfl))))
 ·rename_i kd z ps
  split at h
  ·split at h
   ·exact symV_sound h hok hr
   ·rename_i k os _;cases hk:Nat.ble 1000 k
    ·rw[hk,cond_false] at h;exact symV_sound h hok hr
    rw[hk,cond_true] at h;cases h;obtain⟨hp,h1⟩:=(assumes_ok _ _).1 hok;have hb:z=oraI k:=by simpa using h1.1
    obtain⟨h1,h2⟩:=hr _ ps rfl hp;rw[←hb];exact Sound.next (Sound.assumes ps (Sound.told (Sound.pure h1 (plain_refl 8 _ rfl))))
  ·exact symV_sound h hok hr
 ·exact symV_sound h hok hr
theorem unsyL_spec:∀(vs us:List Value) (as:Array Value),unsyL vs=some us→AR D ι vs.toArray as→as=us.toArray
 |[],us,as,h,ha=>by
  simp only[unsyL,Option.some.injEq] at h;subst h;have:as.size=0:=by simpa using ha.1.symm
  exact Array.eq_empty_of_size_eq_zero this
 |v::vs,us,as,h,ha=>by
  simp only[unsyL] at h
  split at h
  ·rename_i u us' hu hus;cases h;obtain⟨l⟩:=as;cases l with
   |nil=>have:=ha.1;simp at this
   |cons a l=>
    have h0:=(unsy_spec hu (ha.2 0 v a (by simp) (by simp))).1;have:=unsyL_spec vs us' l.toArray hus ⟨by have:=ha.1;simp at this;simpa using this,fun i x y hx hy=>ha.2 (i+1) x y (by simpa using hx) (by simpa using hy)⟩;have hl:l=us':=by simpa using this
    rw[h0,hl]
  ·cases h
theorem unsyO_spec {x x':Option Value} {u:Option Value} (h:unsyO x=some u) (hx:OR D ι x x'):x'=u:=by
 unfold unsyO at h
 split at h
 ·cases h;cases hx;rfl
 ·split at h
  ·rename_i u' hu;cases h;cases hx with
   |some _ b hb=>rw[(unsy_spec hu hb).1]
  ·cases h
theorem isE_cases {b:Bool} {x:Value} (h:isE b x=true):(x=.nilIface∧b=true)∨∃t u,x=.iface t u∧b=false:=by
 cases x<;>first|(cases h;done)|skip
 ·exact .inr ⟨_,_,rfl,by simpa[isE] using h⟩
 ·exact .inl ⟨rfl,h⟩
theorem eqGuard_con {op:BinOp} {t:TypeId} {ox oy:Operand} {x y:Value} (hc:isCon oy=true) (h2:∀c,x≠ .agg c) (w:World):(eqGuard op t ox oy x y).run P w=.ok () w:=by
 have:eqGuard op t ox oy x y=Pure.pure ():=by
  cases oy<;>first|(cases hc;done)|skip
  cases op<;>first
   |rfl
   |(cases x<;>first
    |rfl
    |exact absurd rfl (h2 _)
    |(cases y<;>first|rfl|(simp only[eqGuard];cases ox<;>rfl)))
 rw[this];rfl
theorem eBin_run {T:TE} (hT:T.OK P) {op:BinOp} {t:TypeId} {ox oy:Operand} {a b a' b' v:Value} {ps:List Bool} (h:eBin T op t oy a b=some (v,ps)) (ha:VR D ι a a') (hb:VR D ι b b') (w:World):
  (do eqGuard op t ox oy a' b';binOp op t a' b').run P w=.ok v w∧scal v=true:=by
 unfold eBin at h
 split at h
 ·rename_i e i he hu;cases hb;cases hc:isCon oy
  ·rw[hc] at h;cases h
  rw[hc,cond_true] at h;have hE:=isE_cases (uner_spec he ha);have heq:(Op.equal t a' .nilIface).run P w=.ok e w:=by
   have hun:Op.equal t a' .nilIface=Op.equalIn (9999+1) t a' .nilIface:=rfl;rw[hun,Op.equalIn];rcases hE with⟨rfl,rfl⟩|⟨_,_,rfl,rfl⟩<;>
   ·simp only[Sem.run_bind,run_und hT hu,Result.andThen_ok,Sem.run_pure]<;>rfl
  have hn:notNum a'=true:=by rcases hE with⟨rfl,_⟩|⟨_,_,rfl,_⟩<;>rfl
  have hg:∀op,(eqGuard op t ox oy a' .nilIface).run P w=.ok () w:=fun op=>eqGuard_con hc (by rcases hE with⟨rfl,_⟩|⟨_,_,rfl,_⟩<;>simp) w
  split at h
  ·cases h;exact⟨by simp only[Sem.run_bind,hg,Result.andThen_ok,binOp_eql hn,heq,Sem.run_pure],rfl⟩
  ·cases h;exact⟨by simp only[Sem.run_bind,hg,Result.andThen_ok,binOp_neq hn,heq,Sem.run_pure],rfl⟩
  ·cases h
 ·cases h
include hE in
theorem sMnz_sound {g:FuncId} {args:List Value} {as:Array Value} {r:R} (h:sMnz E σ g args=some (.val r)) (ha:AR D ι args.toArray as):SoundN P D ι σ w (callFunc g as) r:=by
 unfold sMnz at h
 split at h
 ·rename_i elem v hm
  split at h
  ·rename_i n e hu he;cases hb:(Nat.beq e.size 1&&Nat.ble n 281474976710656)
   ·rw[hb] at h;cases h
   rw[hb,cond_true,] at h;rw[Bool.and_eq_true] at hb;have hz:=Nat.eq_of_beq_eq_true hb.1;have hn:=Nat.le_of_ble_eq_true hb.2;cases h;obtain⟨v',rfl,hv⟩:=ha.one;obtain⟨rfl, -⟩:=unsy_spec hu hv;obtain⟨cs,hr,hle⟩:=hE.mnz _ _ hm n w hn;refine⟨by simp[St.new],fun hw=>⟨St.new_wf hw _,AFr.new _ _ _⟩,fun hw hD _=> ?_⟩
   have hDn:¬D σ.next:=hD _ (by simp[St.rng,St.new]);refine⟨_,_,upd ι σ.next (rg w.heap.size 0 cs.size 1),_,hr,.inl rfl,?_,Post.new hw hDn (by simpa using hle) (fun i hi=> ?_) (fr:=(0,0)) (fun o _ h=>by omega) (fun k v hk=> ?_) rfl rfl rfl rfl rfl⟩
   ·have:=VR.slU (D:=fun i=>D i∨σ.rng (σ.new (.row (List.replicate n junk) elem false)) i) (ι:=upd ι σ.next (rg w.heap.size 0 cs.size 1)) σ.next 0 n cs.size (.inr (St.rng_new.2 rfl)) hle (by rw[upd_eq];simp);rw[upd_eq] at this;exact this
   ·rw[hE.T.inf _ _ he] at hi;cases hi;exact⟨hz.symm,by rw[hz];exact Nat.mod_one _⟩
   ·rw[List.getElem?_replicate] at hk
    split at hk
    ·cases hk;exact⟨cs[k]'(by omega),Array.getElem?_eq_getElem _,.junk _⟩
    ·cases hk
  ·cases h
 ·cases h
theorem lenV_aCells {size m n:Nat} {y:Value} {l:List Value} {rc:List (Nat×Nat)} (h1:lenV y=some m) (h2:aCells σ size y=some (l,n,rc)):n=m:=by
 unfold aCells at h2;simp only[Bool.cond_eq_ite] at h2
 repeat' split at h2
 all_goals first|(cases h2;cases h1;rfl)|cases h2
 all_goals (rename_i hb;cases h1;exact(Nat.eq_of_beq_eq_true hb).symm)
theorem append_base {T:TE} (hT:T.OK P) {sT xT:TypeId} {args:Array TypeId} {d:TypeDesc} {elem:TypeId} {e:TypeInfo} {z:Value} {a b:Addr} {n:Nat} {x:Value} {ty:TypeId}
  (h0:args[0]?=some sT) (h1:args[1]?=some xT) (hs:T.und sT=some (.slice elem)) (hx:T.und xT=some d) (hd:∀k,d≠ .int k) (he:T.inf elem=some e) (_hz:e.zero=some z)
  (hbz:e.bytes≠0) (hb:(2*(0+n)+400)*e.bytes≤2^48) (hlen:∀w,(Builtin.lenOf x).run P w=.ok n w) (hgt:0<n) (w:World):
  (Builtin.append_ args ty #[.slice (some a) 0 0,x]).run P w=(Builtin.append_ args ty #[.slice (some b) 0 0,x]).run P w:=by
 have hq:(Question.appendCap (0+n) 0 elem).forced=false:=rfl;have hno:¬(Builtin.nextslicecap (0+n) 0*e.bytes>2^48):=by
  have:=Nat.mul_le_mul_right e.bytes (nextcap_le (show 0<0+n by omega));omega
 have hni:¬(0+n≤0):=by omega
 have hf:∀(a:Addr) (w:World),(Builtin.firstCells e.size 0 (.slice (some a) 0 0)).run P w=.ok #[] w:=fun a w=>by
  simp only[Builtin.firstCells,Nat.zero_mul];rfl
 unfold Builtin.append_;simp only[h0,h1,List.getElem?_toArray,List.getElem?_cons_zero,List.getElem?_cons_succ,Sem.run_bind,run_und hT hs,Result.andThen_ok,run_siz hT he,run_und hT hx,Sem.run_pure,Bool.false_eq_true,if_false,hlen,if_neg hni,
  run_inf hT he,hbz,false_or,and_false,if_neg hno,run_choose,hq,run_askRoom,Bool.not_false,if_true,hf]
theorem aAppendE_sound {T:TE} (hT:T.OK P) {args:Array TypeId} {ty:TypeId} {x x' y y':Value} {r:R} (h:aAppendE T σ args x y=some r) (hx:VR D ι x x') (hy:VR D ι y y'):
  Sound P D ι σ w (Builtin.append_ args ty #[x',y']) r:=by
 unfold aAppendE at h
 split at h
 ·rename_i id off c;cases hc:Nat.beq c unk
  ·rw[hc] at h;cases h
  rw[hc,cond_true] at h;have hc:=Nat.eq_of_beq_eq_true hc;subst hc
  split at h
  ·rename_i n hn;cases hx with
   |slE _ _ o' c h' h1 h2=>
    rcases h2 with rfl|⟨rfl,h2⟩
    ·obtain⟨s1,s2,s3⟩:=aAppend_sound hT (w:=w) (ty:=ty) h (.slU id off 0 0 h' (Nat.le_refl _) (by omega)) hy;refine⟨s1,s2,fun hw hD ho=> ?_⟩;have heq:(Builtin.append_ args ty #[.slice (some ⟨(ι id).blk,(ι id).base+o',none⟩) 0 0,y']).run P w=(Builtin.append_ args ty #[.slice (some ⟨(ι id).blk,(ι id).base+off,none⟩) 0 0,y']).run P w:=by
      unfold aAppend at h
      split at h
      ·rename_i sT xT rest hargs;have h0:args[0]?=some sT:=by rw[←Array.getElem?_toList,hargs];rfl
       have h1:args[1]?=some xT:=by rw[←Array.getElem?_toList,hargs];rfl
       split at h
       ·rename_i elem d hsT hxT;cases hd:isIntD d
        ·rw[hd,cond_false] at h
         split at h
         ·rename_i e he
          split at h
          ·rename_i z new m rc hz hcl;have hm:=lenV_aCells hn hcl;subst hm;dsimp only at h
           split at h
           ·rename_i cs el ro hg;rw[beq_t (rfl:unk=unk),cond_true,beq_f (show Nat.succ n≠0 by omega),cond_false] at h;cases hb:(Nat.beq el elem&& !ro&&growOK e z (0+(n+1))&&new.all oneC&&Nat.beq (Nat.mod off e.size) 0)
            ·rw[hb] at h;cases h
            ·rw[Bool.and_eq_true,Bool.and_eq_true,Bool.and_eq_true] at hb;obtain⟨g1,g2,g3⟩:=growOK_spec hb.1.1.2;exact append_base hT h0 h1 hsT hxT (isIntD_spec hd) he hz g2 g3 (lenV_run hn hy) (by omega) w
           ·cases h
          ·cases h
         ·cases h
        ·rw[hd] at h;cases h
       ·cases h
      ·cases h
     obtain⟨v',ι',w',e1,e2,e3⟩:=s3 hw hD ho;exact⟨v',ι',w',heq.trans e1,e2,e3⟩
    ·exact aAppend_sound hT h (.slU id _ 0 c h' (Nat.zero_le _) h2) hy
  ·cases h
 ·cases h
theorem scal_VR {v:Value} (h:scal v=true):VR D ι v v:=by
 cases v<;>first|(cases h;done)|constructor
theorem unsyL_each:∀(vs us:List Value),unsyL vs=some us→us.length=vs.length∧∀(k:Nat) v u,vs[k]?=some v→us[k]?=some u→unsy v=some u
 |[],us,h=>by
  simp only[unsyL,Option.some.injEq] at h;subst h;exact⟨rfl,fun k v u hv=>by simp at hv⟩
 |v::vs,us,h=>by
  simp only[unsyL] at h
  split at h
  ·rename_i u us' hu hus;cases h;obtain⟨h1,h2⟩:=unsyL_each vs us' hus;refine⟨by simp[h1],fun k v' u' hv hu'=> ?_⟩;rcases k with _|k
   ·simp only[List.getElem?_cons_zero,Option.some.injEq] at hv hu';subst hv hu';exact hu
   ·exact h2 k v' u' (by simpa using hv) (by simpa using hu')
  ·cases h
theorem rB2S_sound {x x':Value} {r:R} (h:rB2S σ x=some r) (hx:VR D ι x x'):Sound P D ι σ w (Conv.bytesToString x') r∧∃a l c,x'=.slice a l c:=by
 unfold rB2S at h
 split at h
 ·rename_i id off len cap
  split at h
  ·rename_i cs e ro hg
   split at h
   ·rename_i l hl
    split at h
    ·rename_i us hus
     split at h
     ·rename_i b hb;cases h;obtain⟨c',rfl,_⟩:=hx.sl_inv;refine⟨Sound.same (w':=w) (v':=.string (bs b)) (fun ho=> ?_) rfl rfl,_,_,_,rfl⟩;obtain⟨c,e1,e2⟩:=loadCells_of hg hl ho fun j hj=>.inl (mem_locs.2 ⟨rfl,Nat.le_add_right _ _,by omega⟩)
      refine⟨?_,.sym _ rfl,rfl,rfl,rfl⟩;obtain⟨k1,k2⟩:=unsyL_each _ _ hus;have hloop:=b2s_loop (D:=D) (ι:=ι) P w us c.toList b .empty hb (by rw[k1];simpa using e2.1) fun k u v' h1 h2=>by
       have hk:k<l.length:=by rw[←k1];exact(List.getElem?_eq_some_iff.1 h1).1
       obtain⟨v,hv⟩:∃v,l[k]?=some v:=⟨_,List.getElem?_eq_getElem hk⟩
       have hvr:=e2.2 k v v' (by simpa using hv) (by simpa using h2);obtain⟨rfl,hs⟩:=unsy_spec (k2 k _ u hv h1) hvr;exact scal_VR hs
      have he:(⟨(ByteArray.empty).data++b.toArray⟩:ByteArray)=bs b:=by apply ByteArray.ext;simp[bs]
      rw[he] at hloop;simp only[Conv.bytesToString,Sem.run_bind,e1 w rfl,Result.andThen_ok];rw[←Array.forIn_toList];have:∀z:Result ByteArray,z=.ok (bs b) w→(z.andThen fun a w'=>(Pure.pure (Value.string a):Sem Value).run P w')=.ok (.string (bs b)) w:=fun z hz=>by rw[hz];rfl
      exact this _ hloop
     ·cases h
    ·cases h
   ·cases h
  ·cases h
 ·cases h
theorem rConv_sound {T:TE} (hT:T.OK P) {src dst:TypeId} {x x':Value} {r:R} (h:rConv T σ src dst x=some r) (hx:VR D ι x x'):Sound P D ι σ w (convert src dst x') r:=by
 unfold rConv at h
 split at h
 ·rename_i e h1 h2;cases hb:isU8 (T.und e)
  ·rw[hb] at h;cases h
  rw[hb,cond_true] at h;have hu:=isU8_spec hb;obtain⟨⟨g1,g2,g3⟩,a',l',c',rfl⟩:=rB2S_sound (P:=P) (w:=w) (D:=D) (ι:=ι) h hx;refine⟨g1,g2,fun a b c=> ?_⟩;obtain⟨v',ι',w',k1,k2,k3⟩:=g3 a b c;refine⟨v',ι',w',?_,k2,k3⟩;simp only[convert,Sem.run_bind,run_und hT h1,run_und hT h2,Result.andThen_ok,run_und hT hu]
  exact k1
 ·cases h
theorem rIndexAddr_sound {T:TE} (hT:T.OK P) {t:TypeId} {x x' ix ix':Value} {r:R} (h:rIndexAddr T σ t x ix=some r) (hok:r.σ.Ok) (hx:VR D ι x x') (hix:VR D ι ix ix'):Sound P D ι σ w (Instr.indexAt t x' ix') r:=by
 unfold rIndexAddr at h
 split at h
 ·rename_i h';cases h;exact sIndexAddr_sound hT h' hok hx hix
 ·split at h
  ·rename_i i hi;obtain⟨rfl,hs⟩:=unsy_spec hi hix;exact aIndexAddr_sound hT h hx (scal_VR hs)
  ·cases h
include hE in
theorem aLookupU_sound {t:TypeId} {x u x' i' i:Value} {ok:Bool} {r:R} (h:aLookupU E.T σ t x u ok=some r) (hok:r.σ.Ok) (hu:unsy i=some u) (hx:VR D ι x x') (hi:VR D ι i i'):Sound P D ι σ w (Instr.lookup t x' i' ok) r:=by
 obtain⟨rfl, -⟩:=unsy_spec hu hi;unfold aLookupU at h
 split at h
 case h_2=>cases h
 rename_i k n id
 split at h
 case h_2=>cases h
 rename_i es ex hg
 split at h
 case h_2=>cases h
 rename_i kt el hund
 split at h
 case h_2=>cases h
 rename_i k' hkt;cases hb:(decide (k=k')&&es.all (fun e=>isIntV k e.1))
 ·rw[hb] at h;cases h
 rw[hb,cond_true] at h;rw[Bool.and_eq_true] at hb;have hk:=of_decide_eq_true hb.1;subst hk
 split at h
 case h_2=>cases h
 rename_i z hz;cases h;obtain⟨hp, -⟩:=(assumes_ok _ _).1 hok;have hl:aLookup E.T σ t (.map (some id)) (.int k n) ok=some ⟨mVal ok z false,σ,⟨[],[id],[],[]⟩⟩:=by
  simp only[aLookup,hund,hkt,keyK,cond_true,hg,mFind_none hb.2 hp,hz]
 exact Sound.assumes _ (aLookup_sound hE.T hl hx (.int k n))
include hE in
theorem symOp_val {o:Oper} {r:R} (h:symOp E s σ o=some (.val r)) (hok:r.σ.Ok) (hs:∀x,x∈o.op.operands→Rel E.G D ι s ρ x):SoundN P D ι σ w (execOp ρ o) r:=by
 unfold symOp at h;unfold execOp
 split at h
 ·rename_i t a ho;simp only[ho,Op.operands] at hs⊢
  split at h
  ·rename_i v hv;exact Sound.next (sLoad_sound hE.T (memV_spec h) hok (hs a (by simp) v hv))
  ·cases h
 ·rename_i op t x y ty ho;simp only[ho,Op.operands] at hs⊢
  split at h
  ·rename_i a b ha hb;have hx:=hs x (by simp) a ha;have hy:=hs y (by simp) b hb;refine orV_sound h hok fun v ps hv hp=> ?_
   unfold sBin4 at hv
   split at hv
   case h_2=>exact gBin_run hE.T hE.cmp hv hx hy w
   rename_i hv3;cases hv;have hv:=hv3;unfold sBin3 at hv
   split at hv
   case h_2=>exact eBin_run hE.T hv hx hy w
   rename_i hv2;cases hv;have hv:=hv2;unfold sBin2 at hv
   split at hv
   ·rename_i x' y' hu1 hu2
    split at hv
    ·rename_i hu;obtain⟨e1,e2⟩:=unsy_spec hu1 hx;obtain⟨e3,e4⟩:=unsy_spec hu2 hy;rw[e1,e3];obtain⟨r1,r2⟩:=sBin_run (P:=P) (t:=t) hE.T (fun _ _=>hu) hv hp w;exact⟨by simp only[Sem.run_bind,eqGuard_scal e2,Result.andThen_ok];exact r1,r2⟩
    ·cases hv
   ·rename_i u1 u2 hno hu1 hu2;obtain⟨e1,e2⟩:=unsy_spec hu1 hx;obtain⟨e3,e4⟩:=unsy_spec hu2 hy;rw[e1,e3];have hnb:∀b,u1=.bool b→E.T.und t=some .bool:=by
     rintro b rfl;unfold sBin at hv
     split at hv
     ·rename_i h1;cases h1
     ·rename_i h1;cases h1
     ·exact(hno _ _ rfl rfl).elim
     ·rename_i h1;cases h1
     ·rename_i h1;cases h1
     ·cases hv
    obtain⟨r1,r2⟩:=sBin_run (P:=P) (t:=t) hE.T hnb hv hp w;exact⟨by simp only[Sem.run_bind,eqGuard_scal e2,Result.andThen_ok];exact r1,r2⟩
   ·cases hv
  ·cases h
 ·rename_i op t x ho;simp only[ho,Op.operands] at hs⊢
  split at h
  ·rename_i v hv
   split at h
   ·rename_i u hu;obtain⟨e1,e2⟩:=unsy_spec hu (hs x (by simp) v hv);rw[e1];exact symV_sound h hok fun v ps hv hp=>sUn_run hv hp w
   ·cases h
  ·cases h
 ·rename_i src dst x ho;simp only[ho,Op.operands] at hs⊢
  split at h
  ·rename_i v hv
   split at h
   ·rename_i u hu;obtain⟨e1,e2⟩:=unsy_spec hu (hs x (by simp) v hv);rw[e1];exact symV_sound h hok fun v ps hv hp=>sConv_run hE.T hv hp w
   ·exact Sound.next (rConv_sound hE.T (memV_spec h) (hs x (by simp) v hv))
  ·cases h
 ·rename_i t x lo hi ho;simp only[ho,Op.operands] at hs⊢
  split at h
  ·rename_i v l h' hv hl hh;have h1:=avo_rel hl fun y e=>hs y (by subst e;simp)
   have h2:=avo_rel hh fun y e=>hs y (by subst e;simp)
   unfold sSlice at h
   split at h
   ·rename_i hc;cases h;exact Sound.next (sCutD_sound hE.T hc hok (hs x (by simp) v hv) h1 h2)
   ·split at h
    ·rename_i u l2 h2' hu hl2 hh2;obtain⟨e1,e2⟩:=unsy_spec hu (hs x (by simp) v hv);have e3:=unsyO_spec hl2 h1;have e4:=unsyO_spec hh2 h2;rw[e1,e3,e4];exact symV_sound h hok fun v ps hv hp=>sCut_run hE.T hv hp w
    ·cases h
  ·cases h
 ·rename_i t x f ho;simp only[ho,Op.operands] at hs⊢
  split at h
  ·rename_i v hv;exact Sound.next (sFieldAddr_sound hE.T (memV_spec h) (hs x (by simp) v hv))
  ·cases h
 ·rename_i t x i ho;simp only[ho,Op.operands] at hs⊢
  split at h
  ·rename_i v u hv hu;exact Sound.next (rIndexAddr_sound hE.T (memV_spec h) hok (hs x (by simp) v hv) (hs i (by simp) u hu))
  ·cases h
 ·rename_i t x i ho;simp only[ho,Op.operands] at hs⊢
  split at h
  ·rename_i v u hv hu
   split at h
   ·rename_i a b ha hb;rw[(unsy_spec ha (hs x (by simp) v hv)).1,(unsy_spec hb (hs i (by simp) u hu)).1];exact symV_sound h hok fun v ps hv hp=>sIdx_run hE.T hv hp w
   ·cases h
  ·cases h
 ·rename_i t x i ok ho;simp only[ho,Op.operands] at hs⊢
  split at h
  ·rename_i v u hv hu;cases hti:isTupU u
   ·rw[hti] at h;cases h
   rw[hti,cond_true] at h
   split at h
   ·rename_i n hn;exact Sound.next (aLookupU_sound hE (memV_spec h) hok hn (hs x (by simp) v hv) (hs i (by simp) u hu))
   ·cases h
  ·cases h
 ·rename_i c ho;simp only[ho,Op.operands,Call.operands] at hs⊢
  split at h
  ·rename_i args hargs;have ea:=avs_rel (ρ:=ρ) _ _ hargs fun x hx=>hs x (by simp at hx⊢;exact .inr hx)
   have q1:(c.args.toList.map ρ).toArray=c.args.map ρ:=by apply Array.ext';simp
   rw[q1] at ea
   split at h
   ·rename_i b hc;have e:(do let d←resolve ρ c o.type;invoke d.target d.args:Sem Next)=builtin b c.argTypes o.type (c.args.map fun| .const _=>true|_=>false) (c.args.map ρ):=by
     simp only[resolve,hc];rfl
    rw[e];have pureB:∀us,unsyL args=some us→symV σ (sBI E.T b c.argTypes.toList us)=some (.val r)→SoundN P D ι σ w (builtin b c.argTypes o.type (c.args.map fun| .const _=>true|_=>false) (c.args.map ρ)) r:=by
     intro us hus hsv;rw[unsyL_spec args us _ hus ea];obtain⟨v,ps,hx,rfl⟩:=symV_spec hsv;obtain⟨r1,r2,r3⟩:=sBI_run (P:=P) hE.T hx w (ty:=o.type) (consts:=c.args.map fun| .const _=>true|_=>false);simp only at r1 r2 r3;subst r3;exact SoundN.value r1 (.sym v r2)
    unfold sCallB at h
    split at h
    ·rename_i x y;obtain⟨x',y',hxy,hx,hy⟩:=ea.two;rw[hxy];have:=aAppendE_sound hE.T (w:=w) (ty:=o.type) (memV_spec h) hx hy;simp only[Array.toArray_toList] at this;exact Sound.next this
    ·rename_i x
     split at h
     ·rename_i r' hl;cases h;obtain⟨x',hx',hxx⟩:=ea.one;rw[hx'];exact Sound.next (sLen_sound hE.T hl hxx)
     ·split at h
      ·rename_i us hus;exact pureB us hus h
      ·cases h
    ·split at h
     ·rename_i us hus;exact pureB us hus h
     ·cases h
   ·rename_i f hc
    split at h
    ·rename_i g first captured hf
     have ef:=hs f (by simp[hc]) _ hf;generalize hrf:ρ f=rf at ef;cases ef with
     |func _ _ a' _ b' h1 h2 h3 h4=>
      have hcat:AR D ι (first.toList++args++captured.toList).toArray (a'++c.args.map ρ++b'):=AR.catN ⟨by simpa using h1,by simpa using h3⟩ ea ⟨by simpa using h2,by simpa using h4⟩;obtain⟨s1,s2,s3⟩:=sMnz_sound hE (w:=w) h hcat;refine⟨s1,s2,fun hw hD ho=> ?_⟩;rw[call_resolve hc hrf];exact s3 hw hD ho
    ·cases h
   ·cases h
  ·cases h
 ·cases h
omit hE in
theorem vCutV_sound {T:TE} (hT:T.OK P) {t:TypeId} {x x':Value} {lo hi lo' hi':Option Value} {r:R} (h:vCutV T σ t x lo hi=some r) (hok:r.σ.Ok) (hx:VR D ι x x') (h1:OR D ι lo lo') (h2:OR D ι hi hi'):Sound P D ι σ w (Instr.sliceAt t x' lo' hi' none) r:=by
 have hsl:∀e,T.und t=some (.slice e)→∀w,(Instr.sliceAt t x' lo' hi' none).run P w=(Instr.slice t x' lo' hi' none).run P w:=fun e hu w=>by
  simp only[Instr.sliceAt,Sem.run_bind,run_und hT hu,Result.andThen_ok]
 unfold vCutV at h
 split at h
 ·rename_i a
  split at h
  ·rename_i elem id hu ha;rw[tuple_eq ha] at hx;obtain⟨q,l,c,rfl,hD,hsv⟩:=dt_inv hx
   split at h
   ·rename_i te xs e i hg he;cases hb:(Nat.beq e elem&&Nat.beq i.size te.sz)
    ·rw[hb] at h;cases h
    rw[hb,cond_true] at h;rw[Bool.and_eq_true] at hb;have b1:=Nat.eq_of_beq_eq_true hb.1;have b2:=Nat.eq_of_beq_eq_true hb.2;subst b1
    split at h
    ·rename_i h0
     split at h
     ·rename_i k m hum;cases h;cases h1;cases h2 with
      |some _ b hb'=>
       obtain⟨rfl, -⟩:=unsy_spec hum hb';obtain⟨hp, -⟩:=(assumes_ok _ _).1 hok;have p0:(0:Int)≤m:=of_decide_eq_true hp.1;have p1:m≤xs.length:=of_decide_eq_true hp.2.1;refine Sound.assumes _ (Sound.same (w':=w) (v':=.slice q m.toNat c) (fun ho=> ?_) rfl rfl);have run:∀(l c:Nat),m≤(c:Int)→(Instr.slice t (.slice q l c) none (some (.int k m)) none).run P w=.ok (.slice (if c=0 then q else q.map (·.add (0*i.size))) (m.toNat-0) (c-0)) w:=fun l c hc=>by
        have e:=fun code=>bound_run (P:=P) (k:=k) (code:=code) p0 (y:=c) hc w
        have r1:(Instr.sliceBounds true l c none (some (.int k m)) none).run P w=.ok (0,m.toNat,c) w:=by simp[Instr.sliceBounds,e]
        simp only[Instr.slice,Sem.run_bind,run_und hT hu,Result.andThen_ok,r1,run_siz hT he,Sem.run_pure]
       obtain⟨-, -,k3⟩:=ho.hd id _ (.inr (.inl (by simp))) (St.hdr_of hg);rw[hsl _ hu];rcases k3 with⟨-,j2,q',j3⟩|⟨-, -,cap,c0,fr,j3,j4, -⟩
       ·rw[hsv] at j3;cases j3;have hm:m≤((0:Nat):Int):=by rw[j2] at p1;exact p1
        refine⟨by rw[run _ _ hm,if_pos rfl];rfl,.pfx id _ _ _ _ hD hsv (by omega),rfl,rfl,rfl⟩
       ·rw[hsv] at j3;simp only[Value.slice.injEq] at j3;obtain⟨rfl,rfl,rfl⟩:=j3;refine⟨?_,.pfx id _ _ _ _ hD hsv (by omega),rfl,rfl,rfl⟩;rw[run _ _ (by omega)]
        split
        ·rename_i hc;rw[Nat.sub_zero,Nat.sub_zero]
        ·rw[Option.map_some,add_none,Nat.zero_mul,Nat.add_zero,Nat.sub_zero,Nat.sub_zero]
     ·cases h
    ·rename_i l0
     split at h
     ·rename_i k n hun;cases h;cases h2;cases h1 with
      |some _ b hb'=>
       obtain⟨rfl, -⟩:=unsy_spec hun hb';obtain⟨hp, -⟩:=(assumes_ok _ _).1 hok;have p0:(0:Int)≤n:=of_decide_eq_true hp.1;have p1:n≤xs.length:=of_decide_eq_true hp.2.1;refine Sound.assumes _ ⟨by simp[St.new,St.puts_next],fun hw=>(Abs.puts (v:=undef)).2 hw,fun hw hDn ho=> ?_⟩;have run:∀(l c:Nat),n≤(l:Int)→(Instr.slice t (.slice q l c) (some (.int k n)) none none).run P w=.ok (.slice (if c=n.toNat then q else q.map (·.add (n.toNat*i.size))) (l-n.toNat) (c-n.toNat)) w:=fun l c hc=>by
        have e:=fun code=>bound_run (P:=P) (k:=k) (code:=code) p0 (y:=l) hc w
        have r1:(Instr.sliceBounds true l c (some (.int k n)) none none).run P w=.ok (n.toNat,l,c) w:=by simp[Instr.sliceBounds,e]
        simp only[Instr.slice,Sem.run_bind,run_und hT hu,Result.andThen_ok,r1,run_siz hT he,Sem.run_pure]
       obtain⟨-,k2,k3⟩:=ho.hd id _ (.inr (.inr (.inr (by simp)))) (St.hdr_of hg);have hlv:∀k,k∈[id]→Lv σ.H k:=fun k hk=>by rw[List.mem_singleton] at hk;subst hk;exact St.lv_of hg
       rcases k3 with⟨j1,j2,q',j3⟩|⟨j1,j2,cap,c0,fr,j3,j4,j5,j6,j7,j8,j9,j10⟩
       ·rw[hsv] at j3;cases j3;have hn:n≤((0:Nat):Int):=by rw[j2] at p1;exact p1
        have hn0:n.toNat=0:=by omega
        refine⟨.slice q 0 0,upd ι σ.next ⟨0,0,0,te.sz,false,fun _=>none,.slice q 0 0⟩,w,?_,.dat _ _ _ _ (.inr (St.rng_puts.2 rfl)) (by rw[upd_eq]),?_⟩
        ·rw[hsl _ hu,run _ _ hn,hn0,if_pos rfl]
        ·exact vecPost (gs:=[id]) (rc:=[]) (rh:=[]) hw ⟨by rw[upd_eq],fun b c h=>(by rw[upd_eq] at h;cases h),.inl ⟨by rw[upd_eq],by rw[j2];simp,q,by rw[upd_eq]⟩⟩ (Nat.le_refl _) rfl rfl (fun _ _ _=>rfl) hlv (fun h=>by cases h) (fun b ⟨c,h⟩=>by cases h)
       ·rw[hsv] at j3;simp only[Value.slice.injEq] at j3;obtain⟨rfl,rfl,rfl⟩:=j3;by_cases hc:c=n.toNat
        ·refine⟨.slice (some ⟨(ι id).blk,(ι id).base,none⟩) 0 0,upd ι σ.next ⟨0,0,0,te.sz,false,fun _=>none,.slice (some ⟨(ι id).blk,(ι id).base,none⟩) 0 0⟩,w,?_,.dat _ _ _ _ (.inr (St.rng_puts.2 rfl)) (by rw[upd_eq]),?_⟩
         ·rw[hsl _ hu,run _ _ p1,if_pos hc,hc,Nat.sub_self,show xs.length-n.toNat=0 by omega]
         ·exact vecPost (gs:=[id]) (rc:=[]) (rh:=[]) hw ⟨by rw[upd_eq],fun b c h=>(by rw[upd_eq] at h;cases h),.inl ⟨by rw[upd_eq],List.drop_eq_nil_of_le (by omega),_,by rw[upd_eq]⟩⟩ (Nat.le_refl _) rfl rfl (fun _ _ _=>rfl) hlv (fun h=>by cases h) (fun b ⟨c,h⟩=>by cases h)
        ·have hlen:(xs.drop n.toNat).length=xs.length-n.toNat:=List.length_drop;have hmul:n.toNat*te.sz+(c-n.toNat)*te.sz=c*te.sz:=by rw[←Nat.add_mul];congr 1;omega
         refine⟨.slice (some ⟨(ι id).blk,(ι id).base+n.toNat*te.sz,none⟩) (xs.length-n.toNat) (c-n.toNat),upd ι σ.next (vreg (ι id).blk ((ι id).base+n.toNat*te.sz) ((ι id).room-n.toNat*te.sz) te.sz (ι id).fz (.slice (some ⟨(ι id).blk,(ι id).base+n.toNat*te.sz,none⟩) (xs.length-n.toNat) (c-n.toNat))),w,?_,.dat _ _ _ _ (.inr (St.rng_puts.2 rfl)) (by rw[upd_eq];rfl),?_⟩
         ·rw[hsl _ hu,run _ _ p1,if_neg hc,Option.map_some,add_none,b2]
         ·refine vecPost (gs:=[id]) (rc:=[]) (rh:=[]) hw ?_ (Nat.le_refl _) rfl rfl (fun _ _ _=>rfl) hlv (fun _=>.inr ⟨id,by simp,⟨_,St.hdr_of hg,trivial⟩,j1,rfl⟩) (fun b hb=>.inr (.inr ⟨id,.inr (by simp),St.lv_of hg,hb⟩));simp only[HdrOK,upd_eq];refine⟨rfl,k2,.inr ⟨rfl,j2,c-n.toNat,c0,fr,by rw[hlen];rfl,by rw[hlen];omega,j5,by simp only[vreg];omega,by simp only[vreg];omega,fun j hj=> ?_,j9,fun k y hk=> ?_⟩⟩
          ·obtain⟨a1,a2,a3⟩:=j8 j hj;refine⟨a1,?_,a3⟩;simp only[vreg];rw[a1,Nat.add_mul_mod_self_right];exact a2
          ·rw[List.getElem?_drop] at hk;obtain⟨a1,a2⟩:=j10 (n.toNat+k) y hk;simp only[vreg,List.length_drop,Array.length_toList] at a1⊢;rw[Nat.add_mul] at a1;refine⟨by omega,?_⟩;rw[List.drop_drop,Nat.add_mul] at a2;rw[List.drop_drop,Nat.add_assoc];exact a2
     ·cases h
    ·cases h
   ·cases h
  ·cases h
 ·cases h
include hE in
theorem nilCmp_sound {op:BinOp} {t:TypeId} {ox oy:Operand} {x y x' y':Value} {r:R} (h:nilCmp E.T σ op t x y=some r) (hok:r.σ.Ok) (hx:VR D ι x x') (hy:VR D ι y y'):
  Sound P D ι σ w (do eqGuard op t ox oy x' y';binOp op t x' y') r:=by
 unfold nilCmp at h
 split at h
 ·rename_i a
  split at h
  ·rename_i e id hu ha;rw[tuple_eq ha] at hx;obtain⟨q,l,c,rfl,hD,hsv⟩:=dt_inv hx;obtain rfl:y'=.slice none 0 0:=by cases hy;rfl
   split at h
   ·rename_i ty xs hg;have key:decide (0<xs.length)=true→HOn P D ι σ.H ⟨[],[id],[],[]⟩ w→(Op.equal t (.slice q l c) (.slice none 0 0)).run P w=.ok false w:=fun hp ho=>by
     have hmem:=mem_of hg (.inr (.inl (by simp))) ho;rcases hmem.rd with⟨⟨q',c',e⟩,hn⟩|⟨b,o,c',arr,el,fr,g1,_⟩
     ·subst hn;exact absurd (of_decide_eq_true hp) (Nat.lt_irrefl 0)
     ·rw[hsv] at g1;cases g1;have hun:Op.equal t (.slice (some ⟨b,o,none⟩) xs.length c) (.slice none 0 0)=Op.equalIn (9999+1) t (.slice (some ⟨b,o,none⟩) xs.length c) (.slice none 0 0):=rfl;rw[hun,Op.equalIn];simp only[Sem.run_bind,run_und hE.T hu,Result.andThen_ok,Sem.run_pure]
    have hg':=fun op w=>eqGuard_run (P:=P) (op:=op) (t:=t) (ox:=ox) (oy:=oy) (x:=.slice q l c) (y:=.slice none 0 0) (by simp) (by simp) w
    split at h
    ·cases h;have hp:=(St.assume_ok.1 hok).1;exact Sound.assume (Sound.same (w':=w) (v':=.bool false) (fun ho=>⟨by simp only[Sem.run_bind,hg',Result.andThen_ok,binOp_eql (x:=.slice q l c) rfl,key hp ho,Sem.run_pure],.bool _,rfl,rfl,rfl⟩) rfl rfl)
    ·cases h;have hp:=(St.assume_ok.1 hok).1;exact Sound.assume (Sound.same (w':=w) (v':=.bool true) (fun ho=>⟨by simp only[Sem.run_bind,hg',Result.andThen_ok,binOp_neq (x:=.slice q l c) rfl,key hp ho,Sem.run_pure];rfl,.bool _,rfl,rfl,rfl⟩) rfl rfl)
    ·cases h
   ·cases h
  ·cases h
 ·cases h
include hE in
theorem vConv_sound {src dst:TypeId} {x x':Value} {r:R} (h:vConv E.T E.vt σ src dst x=some r) (hx:VR D ι x x'):Sound P D ι σ w (convert src dst x') r:=by
 unfold vConv at h
 split at h
 ·rename_i a
  split at h
  ·rename_i d e s' h1 h2 ha
   split at h
   ·cases hb:isU8 (E.T.und e)
    ·rw[hb] at h;cases h
    rw[hb,cond_true] at h;have hu:=isU8_spec hb;rw[tuple_eq ha] at hx;obtain⟨rfl,_⟩:=sy_inv hx;obtain⟨g1,g2,g3⟩:=vS2B_sound (w:=w) (D:=D) (ι:=ι) hE.T h;rw[bs_toL] at g3;refine⟨g1,g2,fun a b c=> ?_⟩;obtain⟨v',ι',w',k1,k2,k3⟩:=g3 a b c;refine⟨v',ι',w',?_,k2,k3⟩;simp only[convert,Sem.run_bind,run_und hE.T h1,run_und hE.T h2,Result.andThen_ok,run_und hE.T hu]
    exact k1
   ·cases h
  ·rename_i e u h1 h2 ha;cases hb:isU8 (E.T.und e)
   ·rw[hb] at h;cases h
   rw[hb,cond_true] at h;have hu:=isU8_spec hb;obtain⟨g1,g2,g3⟩:=vB2S_sound (P:=P) (w:=w) (D:=D) (ι:=ι) h hx;refine⟨g1,g2,fun a b c=> ?_⟩;obtain⟨v',ι',w',k1,k2,k3⟩:=g3 a b c;refine⟨v',ι',w',?_,k2,k3⟩;have hsl:∃a' l' c',x'=.slice a' l' c':=by
    unfold vB2S at h;dsimp only at h
    split at h
    ·rename_i id ha';rw[tuple_eq ha'] at hx;obtain⟨a',l',c',rfl,_⟩:=dt_inv hx;exact⟨_,_,_,rfl⟩
    ·cases h
   obtain⟨a',l',c',rfl⟩:=hsl;simp only[convert,Sem.run_bind,run_und hE.T h1,run_und hE.T h2,Result.andThen_ok,run_und hE.T hu];exact k1
  ·cases h
 ·cases h
include hE in
theorem vOp_val {o:Oper} {r:R} (h:vOp E s σ o=some (.val r)) (hok:r.σ.Ok) (hs:∀x,x∈o.op.operands→Rel E.G D ι s ρ x):SoundN P D ι σ w (execOp ρ o) r:=by
 unfold vOp at h;unfold execOp
 split at h
 ·rename_i c ho;simp only[ho,Op.operands,Call.operands] at hs⊢
  split at h
  ·rename_i hc
   split at h
   ·rename_i x y ha;have ea:=avs_rel (ρ:=ρ) _ _ ha fun x hx=>hs x (by simp at hx⊢;exact .inr hx)
    have q1:(c.args.toList.map ρ).toArray=c.args.map ρ:=by apply Array.ext';simp
    rw[q1] at ea;have e:(do let d←resolve ρ c o.type;invoke d.target d.args:Sem Next)=builtin .append c.argTypes o.type (c.args.map fun| .const _=>true|_=>false) (c.args.map ρ):=by
     simp only[resolve,hc];rfl
    rw[e];obtain⟨x',y',hxy,hx,hy⟩:=ea.two;rw[hxy];exact Sound.next (vApp_sound hE.T (w:=w) (ty:=o.type) (memV_spec h) hok hx hy)
   ·cases h
  ·cases h
 ·rename_i t a x ho;simp only[ho,Op.operands] at hs⊢
  split at h
  ·rename_i v u hv hu;exact Sound.nextU (vStoreA_sound hE.T (memV_spec h) hok (hs a (by simp) v hv) (hs x (by simp) u hu))
  ·cases h
 ·rename_i src dst x ho;simp only[ho,Op.operands] at hs⊢
  split at h
  ·rename_i v hv;exact Sound.next (vConv_sound hE (memV_spec h) (hs x (by simp) v hv))
  ·cases h
 ·rename_i t l c ho;simp only[ho,Op.operands] at hs⊢
  split at h
  ·rename_i a b ha hb;exact Sound.next (vMake_sound hE.T (memV_spec h) hok (hs l (by simp) a ha) (hs c (by simp) b hb))
  ·cases h
 ·rename_i op t x y ty ho;simp only[ho,Op.operands] at hs⊢
  split at h
  ·rename_i a b ha hb;exact Sound.next (nilCmp_sound hE (memV_spec h) hok (hs x (by simp) a ha) (hs y (by simp) b hb))
  ·cases h
 ·rename_i t x lo hi ho;simp only[ho,Op.operands] at hs⊢
  split at h
  ·rename_i v l h' hv hl hh;exact Sound.next (vCutV_sound hE.T (memV_spec h) hok (hs x (by simp) v hv) (avo_rel hl fun y e=>hs y (by subst e;simp)) (avo_rel hh fun y e=>hs y (by subst e;simp)))
  ·cases h
 ·cases h
include hE in
theorem mOp_val {o:Oper} {r:R} (h:mOp E s σ o=some (.val r)) (hs:∀x,x∈o.op.operands→Rel E.G D ι s ρ x):SoundN P D ι σ w (execOp ρ o) r:=by
 unfold mOp at h;unfold execOp
 split at h
 ·rename_i t n ho;simp only[ho,Op.operands] at hs⊢
  split at h
  ·rename_i v hv;exact Sound.next (aMakeMap_sound (memV_spec h) (avo_rel hv fun y e=>hs y (by subst e;simp)))
  ·cases h
 ·rename_i t x i ok ho;simp only[ho,Op.operands] at hs⊢
  split at h
  ·rename_i v u hv hu
   split at h
   ·rename_i r' hl;have h':=memV_spec h;cases h';exact Sound.next (aLookup_sound hE.T hl (hs x (by simp) v hv) (hs i (by simp) u hu))
   ·exact Sound.next (aLookupS_sound hE.T hE.cmp (memV_spec h) (hs x (by simp) v hv) (hs i (by simp) u hu))
  ·cases h
 ·rename_i t m k ho;simp only[ho,Op.operands] at hs⊢
  split at h
  ·rename_i v u hv hu;exact Sound.next (aMapEntryS_sound hE.T hE.cmp (memV_spec h) (hs m (by simp) v hv) (hs k (by simp) u hu))
  ·cases h
 ·rename_i t m k x ho;simp only[ho,Op.operands] at hs⊢
  split at h
  ·rename_i v u y hv hu hy;exact Sound.nextU (aEntryStore_sound (memV_spec h) (hs m (by simp) v hv) (hs k (by simp) u hu) (hs x (by simp) y hy))
  ·cases h
 ·rename_i t m k x ho;simp only[ho,Op.operands] at hs⊢
  split at h
  ·rename_i v u y hv hu hy;exact Sound.nextU (aMapUpdate_sound hE.T (memV_spec h) (hs m (by simp) v hv) (hs k (by simp) u hu) (hs x (by simp) y hy))
  ·cases h
 ·rename_i t m k x ho;simp only[ho,Op.operands] at hs⊢
  split at h
  ·rename_i v u y hv hu hy;exact Sound.nextU (aMapUpdate_sound hE.T (memV_spec h) (hs m (by simp) v hv) (hs k (by simp) u hu) (hs x (by simp) y hy))
  ·cases h
 ·rename_i c ho;simp only[ho,Op.operands,Call.operands] at hs⊢
  split at h
  ·rename_i hc
   split at h
   ·rename_i x y hargs;have ea:=avs_rel (ρ:=ρ) _ _ hargs fun x hx=>hs x (by simp at hx⊢;exact .inr hx)
    have q1:(c.args.toList.map ρ).toArray=c.args.map ρ:=by apply Array.ext';simp
    rw[q1] at ea;have e:(do let d←resolve ρ c o.type;invoke d.target d.args:Sem Next)=builtin .delete c.argTypes o.type (c.args.map fun| .const _=>true|_=>false) (c.args.map ρ):=by
     simp only[resolve,hc];rfl
    rw[e];obtain⟨x',y',hxy,hx,hy⟩:=ea.two;rw[hxy];exact Sound.next (aDelete_sound hE.T (ty:=o.type) (memV_spec h) hx hy)
   ·cases h
  ·cases h
 ·cases h
include hE in
theorem aOpS_val {o:Oper} {r:R} (h:aOpS P E s σ o=some (.val r)) (hok:r.σ.Ok) (hs:∀x,x∈o.op.operands→Rel E.G D ι s ρ x):SoundN P D ι σ w (execOp ρ o) r:=by
 unfold aOpS aOpS0 at h
 split at h
 ·rename_i h';cases h;exact vOp_val hE (vOpC_some h') hok hs
 ·split at h
  ·rename_i h';cases h;exact aOp_val hE h' hok hs
  ·split at h
   ·rename_i h';cases h;exact symOp_val hE h' hok hs
   ·exact mOp_val hE h hs
theorem vOp_enter {o:Oper} {f:FuncId} {args:List Value}:vOp E s σ o≠some (.enter f args):=by
 have hm:∀x:Option R,memV x≠some (.enter f args):=fun x=>memV_enter
 intro h;unfold vOp at h
 repeat' split at h
 all_goals first
  |exact hm _ h
  |cases h
theorem symOp_enter {o:Oper} {f:FuncId} {args:List Value}:symOp E s σ o≠some (.enter f args):=by
 have hv:∀x,symV σ x≠some (.enter f args):=fun x=>by unfold symV;split<;>simp
 have hm:∀x:Option R,memV x≠some (.enter f args):=fun x=>memV_enter
 have hr:∀op x,orV E op σ x≠some (.enter f args):=fun op x h=>by
  unfold orV at h;simp only[Bool.cond_eq_ite] at h
  repeat' split at h
  all_goals first|exact hv _ h|cases h
 intro h;unfold symOp at h;simp only[Bool.cond_eq_ite] at h
 repeat' split at h
 all_goals first
  |exact hr _ _ h
  |exact hv _ h
  |exact hm _ h
  |(unfold sSlice at h;repeat' split at h
    all_goals first|exact hv _ h|cases h)
  |(unfold sCallB at h;repeat' split at h
    all_goals first|exact hv _ h|exact hm _ h|cases h)
  |(simp only[sMnz,Bool.cond_eq_ite] at h;repeat' split at h
    all_goals cases h)
  |cases h
theorem mOp_enter {o:Oper} {f:FuncId} {args:List Value}:mOp E s σ o≠some (.enter f args):=by
 have hm:∀x:Option R,memV x≠some (.enter f args):=fun x=>memV_enter
 intro h;unfold mOp at h
 repeat' split at h
 all_goals first
  |exact hm _ h
  |cases h
include hE in
theorem aOpS_enter {o:Oper} {f:FuncId} {args:List Value} (h:aOpS P E s σ o=some (.enter f args)) (hs:∀x,x∈o.op.operands→Rel E.G D ι s ρ x):
  ∃args' fn,AR D ι args.toArray args'∧E.fn f=some fn∧(execOp ρ o).run P w=.ok (.enter f args') w:=by
 unfold aOpS aOpS0 at h
 split at h
 ·rename_i h';cases h;exact absurd (vOpC_some h') vOp_enter
 ·split at h
  ·rename_i h';cases h;exact aOp_enter hE h' hs
  ·split at h
   ·rename_i h';cases h;exact absurd h' symOp_enter
   ·exact absurd h mOp_enter
end
end Go.Eng
end
end
end
section
noncomputable section
noncomputable section
namespace Go.Eng
open Go
def cellsD (σ:St):(t:Ty)→List Value→Option (t.Den×List Value×List Nat×List Bool)
 | .int k,v::r=>match unsy v with
   |some (.int k' n)=>bif decide (k'=k) then some (n,r,[],[]) else none
   |_=>none
 | .byte,v::r=>match unsy v with
   |some (.int .u8 n)=>some (UInt8.ofNat n.toNat,r,[],[decide (inK .u8 n)])
   |_=>none
 | .bool,v::r=>match unsy v with
   |some (.bool b)=>some (b,r,[],[])
   |_=>none
 | .f64,v::r=>match unsy v with
   |some (.float .f64 b)=>some (b,r,[],[])
   |_=>none
 | .cx,v::r=>match unsy v with
   |some (.complex .f64 a b)=>some ((a,b),r,[],[])
   |_=>none
 | .str,v::r=>match unsy v with
   |some (.string s)=>some (toL s,r,[],[])
   |_=>none
 | .unit,cs=>some ((),cs,[],[])
 | .pair a b,cs=>match cellsD σ a cs with
   |some (x,r,i,p)=>match cellsD σ b r with
    |some (y,r',j,q)=>some ((x,y),r',i++j,p++q)
    |none=>none
   |none=>none
 | .slice a,v::r=>match v with
   | .slice none 0 0=>some ([],r,[],[])
   | .slice (some ⟨_,_,some 0⟩) 0 _=>some ([],r,[],[])
   | .tuple arr=>match arr.toList with
     |[.chan (some 2),.pointer (some ⟨id,0,none⟩)]=>match σ.heap.get id with
      |some (.dat t xs)=>if h:t=a then some (h▸xs,r,[id],[]) else none
      |_=>none
     |_=>none
   |_=>none
 | .err,v::r=>match uner v with
   |some b=>some (b,r,[],[])
   |none=>none
 | .fn f,v::r=>match isFn v with
   |some g=>bif Nat.beq g f then some ((),r,[],[]) else none
   |none=>none
 | .fv,v::r=>match isFn v with
   |some g=>some (g,r,[],[])
   |none=>none
 | .ref _,_::_=>none
 | .clo _ _,_::_=>none
 |_,[]=>none
def argsD (σ:St):(ts:List Ty)→List Value→Option (DenL ts×List Nat×List Bool)
 |[],[]=>some ((),[],[])
 |t::ts,v::vs=>match(bif t.agg then(match v with| .agg cs=>some cs.toList|_=>none) else some [v]) with
  |some cs=>match cellsD σ t cs with
   |some (x,[],i,p)=>match argsD σ ts vs with
    |some (y,j,q)=>some ((x,y),i++j,p++q)
    |none=>none
   |_=>none
  |none=>none
 |_,_=>none
def dcsL:(rs:List Ty)→DenL rs→List DC
 |[],_=>[]
 |r::rs,y=>dcs r y.1++dcsL rs y.2
def grp:List Ty→List Value→List Value
 |[],_=>[]
 |r::rs,vs=>(bif r.agg then .agg (vs.take r.sz).toArray else(match vs with|v::_=>v|[]=>undef))::grp rs (vs.drop r.sz)
section
variable {P:Program} {D:Nat→Prop} {ι:Nat→Reg} {σ σ':St} {w:World} {φ:Foot}
open Classical in
def fzU (ι:Nat→Reg) (ids:List Nat) (w:World):Nat→Option (Array Value):=fun b=>
 if ∃id,id∈ids∧(ι id).Fz b then(match w.heap[b]? with|some (.cells c _ _)=>some c|_=>none) else none
theorem fzU_of {ids:List Nat} {id:Nat} (hm:id∈ids) (hz:FzOK (ι id).fz w) (b:Nat) (c:Array Value) (h:(ι id).fz b=some c):fzU ι ids w b=some c:=by
 unfold fzU;rw[if_pos ⟨id,hm,c,h⟩];obtain⟨e,fr,he⟩:=hz b c h;rw[he]
theorem fzU_ok (ids:List Nat):FzOK (fzU ι ids w) w:=by
 intro b c h;unfold fzU at h
 split at h
 ·split at h
  ·rename_i c' e fr hh;cases h;exact⟨e,fr,hh⟩
  ·cases h
 ·cases h
theorem fzU_in {ids:List Nat} {b:Nat} {c:Array Value} (h:fzU ι ids w b=some c):∃id,id∈ids∧(ι id).Fz b:=by
 unfold fzU at h
 split at h
 ·assumption
 ·cases h
theorem cellsD_rd {ids:List Nat} (hI:∀id,id∈ids→∀x,σ.H.hdr id=some x→HdrOK P ι id w x):∀(t:Ty) (cs us:List Value) (x:t.Den) (r:List Value) (i:List Nat) (p:List Bool),cellsD σ t cs=some (x,r,i,p)→(∀id,id∈i→id∈ids)→AllP p→LR D ι cs us→
  ∃u1 u2,us=u1++u2∧RdC (fzU ι ids w) t x u1∧LR D ι r u2:=by
 intro t
 induction t with
 |int k=>
  intro cs us x r i p h _ _ hl;cases hl with
  |nil=>simp[cellsD] at h
  |cons hv ht=>
   simp only[cellsD] at h
   split at h
   ·rename_i k' n hu;cases hk:decide (k'=k)
    ·rw[hk] at h;cases h
    ·rw[hk] at h;cases h;have:=of_decide_eq_true hk;subst this;exact⟨[_],_,rfl,by rw[(unsy_spec hu hv).1];rfl,ht⟩
   ·cases h
 |byte=>
  intro cs us x r i p h _ hp hl;cases hl with
  |nil=>simp[cellsD] at h
  |cons hv ht=>
   simp only[cellsD] at h
   split at h
   ·rename_i n hu;cases h;refine⟨[_],_,rfl,?_,ht⟩;rw[(unsy_spec hu hv).1];simp only[RdC];rw[←u8_back (of_decide_eq_true hp.1)]
   ·cases h
 |bool=>
  intro cs us x r i p h _ _ hl;cases hl with
  |nil=>simp[cellsD] at h
  |cons hv ht=>
   simp only[cellsD] at h
   split at h
   ·rename_i b hu;cases h;exact⟨[_],_,rfl,by rw[(unsy_spec hu hv).1];rfl,ht⟩
   ·cases h
 |ref a ih=>
  intro cs us x r i p h _ _ hl;cases hl<;>simp[cellsD] at h
 |clo f a ih=>
  intro cs us x r i p h _ _ hl;cases hl<;>simp[cellsD] at h
 |f64=>
  intro cs us x r i p h _ _ hl;cases hl with
  |nil=>simp[cellsD] at h
  |cons hv ht=>
   simp only[cellsD] at h
   split at h
   ·rename_i b hu;cases h;exact⟨[_],_,rfl,by rw[(unsy_spec hu hv).1];rfl,ht⟩
   ·cases h
 |cx=>
  intro cs us x r i p h _ _ hl;cases hl with
  |nil=>simp[cellsD] at h
  |cons hv ht=>
   simp only[cellsD] at h
   split at h
   ·rename_i a b hu;cases h;exact⟨[_],_,rfl,by rw[(unsy_spec hu hv).1];rfl,ht⟩
   ·cases h
 |str=>
  intro cs us x r i p h _ _ hl;cases hl with
  |nil=>simp[cellsD] at h
  |cons hv ht=>
   simp only[cellsD] at h
   split at h
   ·rename_i b hu;cases h;exact⟨[_],_,rfl,by rw[(unsy_spec hu hv).1];simp only[RdC,bs_toL],ht⟩
   ·cases h
 |unit=>
  intro cs us x r i p h _ _ hl;simp only[cellsD,Option.some.injEq,Prod.mk.injEq] at h;obtain⟨-,rfl, -⟩:=h;exact⟨[],us,rfl,rfl,hl⟩
 |err=>
  intro cs us x r i p h _ _ hl;cases hl with
  |nil=>simp[cellsD] at h
  |cons hv ht=>
   simp only[cellsD] at h
   split at h
   ·rename_i b hu;cases h;exact⟨[_],_,rfl,⟨_,rfl,uner_spec hu hv⟩,ht⟩
   ·cases h
 |fv=>
  intro cs us x r i p h _ _ hl;cases hl with
  |nil=>simp[cellsD] at h
  |cons hv ht=>
   simp only[cellsD] at h
   split at h
   ·rename_i g hu;cases h;exact⟨[_],_,rfl,by rw[isFn_spec hu hv];rfl,ht⟩
   ·cases h
 |fn f=>
  intro cs us x r i p h _ _ hl;cases hl with
  |nil=>simp[cellsD] at h
  |cons hv ht=>
   simp only[cellsD] at h
   split at h
   ·rename_i g hu;cases hb:Nat.beq g f
    ·rw[hb] at h;cases h
    ·rw[hb] at h;cases h;have:=Nat.eq_of_beq_eq_true hb;subst this;exact⟨[_],_,rfl,by rw[isFn_spec hu hv];rfl,ht⟩
   ·cases h
 |pair a b iha ihb=>
  intro cs us x r i p h hi hp hl;simp only[cellsD] at h
  split at h
  ·rename_i x1 r1 i1 p1 h1
   split at h
   ·rename_i x2 r2 i2 p2 h2;cases h;obtain⟨q1,q2⟩:=AllP_append hp;obtain⟨u1,u2,rfl,g1,g2⟩:=iha cs us x1 r1 i1 p1 h1 (fun id hid=>hi id (by simp[hid])) q1 hl;obtain⟨v1,v2,rfl,g3,g4⟩:=ihb r1 u2 x2 r i2 p2 h2 (fun id hid=>hi id (by simp[hid])) q2 g2;exact⟨u1++v1,v2,by simp,⟨u1,v1,rfl,g1,g3⟩,g4⟩
   ·cases h
  ·cases h
 |slice a ih=>
  intro cs us x r i p h hi _ hl;cases hl with
  |nil=>simp[cellsD] at h
  |cons hv ht=>
   simp only[cellsD] at h
   split at h
   ·cases h;cases hv;exact⟨[_],_,rfl,⟨_,rfl,.inl ⟨⟨_,_,rfl⟩,rfl⟩⟩,ht⟩
   ·cases h;cases hv;exact⟨[_],_,rfl,⟨_,rfl,.inl ⟨⟨_,_,rfl⟩,rfl⟩⟩,ht⟩
   ·rename_i arr
    split at h
    ·rename_i id ha;rw[tuple_eq ha] at hv;obtain⟨a',l,c,rfl,hD,hsv⟩:=dt_inv hv
     split at h
     ·rename_i t xs hg
      split at h
      ·rename_i he;subst he;cases h;have hm:=hi id (by simp);obtain⟨g1, -, -,g4⟩:=hI id hm _ (St.hdr_of hg);rw[hsv] at g1;exact⟨[_],_,rfl,⟨_,rfl,(g1.mono fun b c h=>fzU_of hm g4 b c h)⟩,ht⟩
      ·cases h
     ·cases h
    ·cases h
   ·cases h
theorem argsD_rd {ids:List Nat} (hI:∀id,id∈ids→∀x,σ.H.hdr id=some x→HdrOK P ι id w x):∀(ts:List Ty) (vs us:List Value) (x:DenL ts) (i:List Nat) (p:List Bool),argsD σ ts vs=some (x,i,p)→(∀id,id∈i→id∈ids)→AllP p→LR D ι vs us→RdAll (fzU ι ids w) ts x us
 |[],vs,us,x,i,p,h,_,_,hl=>by
  cases hl with
  |nil=>rfl
  |cons _ _=>simp[argsD] at h
 |t::ts,vs,us,x,i,p,h,hi,hp,hl=>by
  cases hl with
  |nil=>simp[argsD] at h
  |cons hv ht=>
   rename_i v u vs us;simp only[argsD] at h
   split at h
   ·rename_i cs hcs
    split at h
    ·rename_i x1 i1 p1 h1
     split at h
     ·rename_i y j q h2;cases h;obtain⟨q1,q2⟩:=AllP_append hp;refine⟨u,us,rfl,?_,argsD_rd hI ts vs us y j q h2 (fun id hid=>hi id (by simp[hid])) q2 ht⟩;cases hagg:t.agg
      ·rw[hagg] at hcs;cases hcs;obtain⟨u1,u2,e1,g1,g2⟩:=cellsD_rd hI t [v] [u] x1 [] i1 p1 h1 (fun id hid=>hi id (by simp[hid])) q1 (.cons hv .nil);cases g2;rw[List.append_nil] at e1;rw[←e1] at g1;exact .inr ⟨hagg,g1⟩
      ·rw[hagg,cond_true] at hcs
       split at hcs
       ·rename_i as;cases hcs;cases hv with
        |agg _ bs hs hh=>
         obtain⟨u1,u2,e1,g1,g2⟩:=cellsD_rd hI t as.toList bs.toList x1 [] i1 p1 h1 (fun id hid=>hi id (by simp[hid])) q1 (LR.of_AR ⟨by simpa using hs,by simpa using hh⟩);cases g2;rw[List.append_nil] at e1;rw[←e1] at g1;exact .inl ⟨hagg,bs,rfl,g1⟩
       ·cases hcs
     ·cases h
    ·cases h
   ·cases h
theorem res_rd {fz:Nat→Option (Array Value)}:∀(rs:List Ty) (y:DenL rs) (ws:List Value),RdAll fz rs y ws→∃us:List Value,(dcsL rs y).length=us.length∧(∀(k:Nat) d u,(dcsL rs y)[k]?=some d→us[k]?=some u→DCR fz d u)∧
  ∀(vs:List Value) (D:Nat→Prop) (ι:Nat→Reg),vs.length=us.length→(∀(k:Nat) v u,vs[k]?=some v→us[k]?=some u→VR D ι v u)→LR D ι (grp rs vs) ws
 |[],y,ws,h=>by
  simp only[RdAll] at h;subst h;exact⟨[],rfl,fun k d u h=>by simp[dcsL] at h,fun vs D ι _ _=>.nil⟩
 |r::rs,y,ws,h=>by
  obtain⟨v,rest,rfl,h1,h2⟩:=h;obtain⟨us2,a1,a2,a3⟩:=res_rd rs y.2 rest h2;obtain⟨us1,hus,hrd⟩:∃us1:List Value,((r.agg=true∧v=.agg ⟨us1⟩)∨(r.agg=false∧us1=[v]))∧RdC fz r y.1 us1:=by
   rcases h1 with⟨e,cs,rfl,g⟩|⟨e,g⟩
   ·exact⟨cs.toList,.inl ⟨e,rfl⟩,g⟩
   ·exact⟨[v],.inr ⟨e,rfl⟩,g⟩
  obtain⟨d1,d2,d3⟩:=dcs_rd r y.1 us1 hrd;refine⟨us1++us2,by simp[dcsL,d1,d2,a1],fun k d u hd hu=> ?_,fun vs D ι hl hv=> ?_⟩
  ·simp only[dcsL] at hd;by_cases hk:k<r.sz
   ·rw[List.getElem?_append_left (by omega)] at hd hu;exact d3 k d u hd hu
   ·rw[List.getElem?_append_right (by omega)] at hd hu;rw[d2] at hd;rw[d1] at hu;exact a2 _ d u hd hu
  ·simp only[List.length_append,d1] at hl;refine .cons ?_ (a3 _ D ι (by rw[List.length_drop];omega) fun k v u hv' hu=> ?_)
   ·rcases hus with⟨e,rfl⟩|⟨e,rfl⟩
    ·rw[e,cond_true];refine .agg _ _ ?_ fun i a b ha hb=> ?_
     ·simp only[List.size_toArray,List.length_take];show min r.sz vs.length=us1.length;omega
     ·simp only[List.getElem?_toArray,List.getElem?_take] at ha
      split at ha
      ·rename_i hi;refine hv i a b ha ?_;rw[List.getElem?_append_left (by omega)];simpa using hb
      ·cases ha
    ·rw[e,cond_false];have hsz:r.sz=1:=by rw[←d1];rfl
     cases vs with
     |nil=>simp only[List.length_nil] at hl;omega
     |cons a vs=>exact hv 0 a v rfl rfl
   ·rw[List.getElem?_drop] at hv';refine hv _ v u hv' ?_;rw[List.getElem?_append_right (by omega),d1];rw[Nat.add_sub_cancel_left];exact hu
end
end Go.Eng
end
end
end
