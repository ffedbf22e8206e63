/-
  The engine, part 5: an abstract evaluator over the model's code, proved sound. No condition.
-/
import Derived.Test.YtkgejlchafionaaGreatDoorEng4
section
noncomputable section
noncomputable section
namespace Go.Eng
open Go
def A4 (σ:St) (r:R):Prop:=σ.next<=r.σ.next/\(σ.wf->r.σ.wf/\AFr σ r.σ r.φ)
section
variable {P:Program} {T:TE} {E:Env} {σ:St} {s:Tr Value}
theorem A4.same (v:Value) (φ:Foot):A4 σ ⟨v,σ,φ⟩:=⟨Nat.le_refl _,λa=>⟨a,AFr.refl _ _⟩⟩
theorem A4.new (v:Value) (o:AO) (φ:Foot):A4 σ ⟨v,σ.new o,φ⟩:=⟨by simp[St.new],λa=>⟨St.new_wf a _,AFr.new _ _ _⟩⟩
theorem A4.lput {id off:Nat} {c b vs:List Value} {a:TypeId} {v:Value} {rc:List (Nat×Nat)} {rh:List Nat} {n:Nat} (d:σ.heap.get id=some (.row c a false)) (f:lput c off vs=some b) (g:n=vs.length):
  A4 σ ⟨v,σ.put id (some (.row b a false)),⟨rc,rh,GB id off n,[]⟩⟩:=
 ⟨Nat.le_refl _,λe=>⟨St.put_wf e (St.lv_lt e (St.lv_of d)) _,AFr.lput d f (by rw[g])⟩⟩
theorem A4.whole {id:Nat} {o b:AO} {v:Value} (c:σ.heap.get id=some o):A4 σ ⟨v,σ.put id (some b),⟨[],[],[],[id]⟩⟩:=
 ⟨Nat.le_refl _,λa=>⟨St.put_wf a (St.lv_lt a (St.lv_of c)) _,AFr.whole (by simp)⟩⟩
theorem A4.giveUp {id:Nat} {o b:AO} {v:Value} {rc:List (Nat×Nat)} (c:σ.heap.get id=some o):A4 σ ⟨v,(σ.put id none).new b,⟨rc,[],[],[id]⟩⟩:=
 ⟨by simp[St.new,St.put],λa=>⟨St.new_wf (St.put_wf a (St.lv_lt a (St.lv_of c)) _) _,AFr.giveUp (by simp)⟩⟩
theorem TJ {a:TypeId} {b:List Value} {r:R} (h:S6 T σ a b=some r):A4 σ r:=by
 unfold S6 at h;simp only[Bool.cond_eq_ite] at h
 repeat' split at h
 all_goals first|(cases h;exact A4.new _ _ _)|cases h
theorem Vn {a:TypeId} {r:R} (h:Kg T σ a=some r):A4 σ r:=by
 unfold Kg at h;simp only[Bool.cond_eq_ite] at h
 repeat' split at h
 all_goals first|exact TJ h|cases h
theorem ZJ {t:TypeId} {a:Value} {r:R} (h:Ia T σ t a=some r):A4 σ r:=by
 unfold Ia at h;simp only[Bool.cond_eq_ite] at h
 repeat' split at h
 all_goals first|(cases h;exact A4.same _ _)|cases h
theorem Vo {t:TypeId} {a v:Value} {r:R} (h:Kh T σ t a v=some r):A4 σ r:=by
 unfold Kh at h;simp only[Bool.cond_eq_ite] at h
 split at h
 ·split at h
  ·rename_i b
   split at h
   ·split at h
    ·cases h
    ·split at h
     ·split at h
      ·rename_i c;cases h;exact A4.lput b c rfl
      ·cases h
     ·cases h
   ·cases h
  ·cases h
 ·cases h
theorem NQ {t:TypeId} {a:Value} {f:Nat} {r:R} (h:Ds T σ t a f=some r):A4 σ r:=by
 unfold Ds at h;simp only[Bool.cond_eq_ite] at h
 repeat' split at h
 all_goals first|(cases h;exact A4.same _ _)|cases h
theorem Hk {t:TypeId} {x i:Value} {r:R} (h:CG T σ t x i=some r):A4 σ r:=by
 unfold CG at h;simp only[Bool.cond_eq_ite] at h
 repeat' split at h
 all_goals first|(cases h;exact A4.same _ _)|cases h
theorem Vp {t:TypeId} {x:Value} {lo a b:Option Value} {r:R} (h:Kk T σ t x lo a b=some r):A4 σ r:=by
 unfold Kk at h;simp only[Bool.cond_eq_ite] at h
 repeat' split at h
 all_goals first|(cases h;exact A4.same _ _)|cases h
theorem Pv {a:TypeId} {e:TypeInfo} {z:Value} {old new:List Value} {b:Nat} {rc:List (Nat×Nat)} {r:R} (h:Pp σ a e z old new b rc=some r):A4 σ r:=by
 unfold Pp at h;simp only[Bool.cond_eq_ite] at h
 split at h
 ·cases h;exact A4.new _ _ _
 ·cases h
theorem LQ {args:Array TypeId} {x y:Value} {r:R} (h:GE T σ args x y=some r):A4 σ r:=by
 unfold GE at h;simp only[Bool.cond_eq_ite] at h
 split at h
 ·split at h
  ·split at h
   ·cases h
   ·split at h
    ·split at h
     ·split at h
      ·repeat' split at h
       all_goals first|(cases h;exact A4.same _ _)|exact Pv h|cases h
      ·split at h
       ·rename_i b
        split at h
        ·split at h
         ·cases h;exact A4.same _ _
         ·split at h
          ·split at h
           ·cases h;exact A4.giveUp b
           ·cases h
          ·cases h
        ·split at h
         ·split at h
          ·cases h;exact A4.same _ _
          ·split at h
           ·rename_i c
            split at h
            ·rename_i d;cases h;simp only[Bool.and_eq_true,Bool.not_eq_true'] at c;have a:=c.1.2;subst a;exact A4.lput b d rfl
            ·cases h
           ·cases h
         ·split at h
          ·exact Pv h
          ·cases h
       ·cases h
      ·cases h
     ·cases h
    ·cases h
  ·cases h
 ·cases h
theorem ZK {args:Array TypeId} {x y:Value} {r:R} (h:S9 T σ args x y=some r):A4 σ r:=by
 unfold S9 at h;simp only[Bool.cond_eq_ite] at h
 split at h
 ·split at h
  ·split at h
   ·split at h
    ·cases h;exact A4.same _ _
    ·split at h
     ·split at h
      ·cases h;exact A4.same _ _
      ·split at h
       ·rename_i a
        split at h
        ·split at h
         ·rename_i b;cases h;exact A4.lput a b rfl
         ·cases h
        ·cases h
       ·cases h
     ·cases h
    ·cases h
   ·cases h
  ·cases h
 ·cases h
theorem Iz {x:Value} {r:R} (h:Cl σ x=some r):A4 σ r:=by
 unfold Cl at h
 repeat' split at h
 all_goals first|(cases h;exact A4.same _ _)|cases h
theorem I0 {e:TypeId} {x:ByteArray} {r:R} (h:Cm T σ e x=some r):A4 σ r:=by
 unfold Cm at h;simp only[Bool.cond_eq_ite] at h
 repeat' split at h
 all_goals first|(cases h;exact A4.new _ _ _)|cases h
theorem NR {t:TypeId} {l c:Value} {r:R} (h:Dt T σ t l c=some r):A4 σ r:=by
 unfold Dt at h;simp only[Bool.cond_eq_ite] at h
 repeat' split at h
 all_goals first|(cases h;exact A4.new _ _ _)|cases h
theorem Lw {t:TypeId} {n:Nat} {a:List (Nat×Value)} {r:R} (h:DL T σ t n a=some r):A4 σ r:=by
 unfold DL at h;simp only[Bool.cond_eq_ite] at h
 repeat' split at h
 all_goals first|(cases h;exact A4.new _ _ _)|cases h
theorem Vq {t:TypeId} {x:Value} {r:R} (h:Ko T σ t x=some r):A4 σ r:=by
 unfold Ko at h
 repeat' split at h
 all_goals first|(cases h;exact A4.new _ _ _)|cases h
theorem ZL {x:Value} {b:Bool} {r:R} (h:Pr σ x b=some r):A4 σ r:=by
 unfold Pr at h;simp only[Bool.cond_eq_ite] at h
 split at h
 ·split at h
  ·rename_i a
   split at h
   ·cases h;exact A4.whole a
   ·cases h;exact A4.same _ _
  ·cases h
 ·cases h
theorem Vr {t:TypeId} {x:Value} {r:R} (h:NM T σ t x=some r):A4 σ r:=by
 unfold NM at h;simp only[Bool.cond_eq_ite] at h
 repeat' split at h
 all_goals first|(cases h;exact A4.same _ _)|cases h
theorem Rc {t:TypeId} {x:Value} {r:R} (h:Hh T σ t x=some r):A4 σ r:=by
 unfold Hh at h;simp only[Bool.cond_eq_ite] at h
 repeat' split at h
 all_goals first|(cases h;exact A4.same _ _)|cases h
theorem Rd {t:TypeId} {x:Value} {n:Int} {r:R} (h:Hi T σ t x n=some r):A4 σ r:=by
 unfold Hi at h;simp only[Bool.cond_eq_ite] at h
 split at h
 ·split at h
  ·cases h;exact A4.same _ _
  ·cases h
 ·split at h
  ·split at h
   ·rename_i a _
    repeat' split at h
    all_goals first|(cases h;exact A4.whole a)|cases h
   ·cases h
  ·cases h
 ·cases h
theorem ZM {a b:TypeId} {x:Value} {r:R} (h:P4 P T σ a b x=some r):A4 σ r:=by
 unfold P4 at h;simp only[Bool.cond_eq_ite] at h
 repeat' split at h
 all_goals first|exact Iz h|exact I0 h|exact Vr h|exact Rc h|(cases h;exact A4.same _ _)|cases h
theorem Re {b:Builtin} {argTypes:Array TypeId} {ty:TypeId} {consts:Array Bool} {args:List Value} {r:R} (h:Fj P T σ b argTypes ty consts args=some r):A4 σ r:=by
 unfold Fj at h;simp only[Bool.cond_eq_ite] at h
 repeat' split at h
 all_goals first|exact LQ h|exact ZK h|exact Rd h|(cases h;exact A4.same _ _)|cases h
theorem ZN {v:Option Value} {r:R} (h:A6 σ v=some (.val r)):A4 σ r:=by
 obtain⟨u,_,rfl⟩:=A5 h;exact A4.same _ _
theorem iZ {o:Oper} {r:R} (h:X9 P E s σ o=some (.val r)):A4 σ r:=by
 unfold X9 at h;simp only[Bool.cond_eq_ite] at h
 repeat' split at h
 all_goals first
  |exact ZN h
  |exact Vn (AX h)
  |exact TJ (AX h)
  |exact Lw (AX h)
  |exact ZJ (AX h)
  |exact Vo (AX h)
  |exact ZM (AX h)
  |exact NR (AX h)
  |exact Vp (AX h)
  |exact NQ (AX h)
  |exact Hk (AX h)
  |exact Vq (AX h)
  |exact ZL (AX h)
  |exact Re (AX h)
  |cases h
end
end Go.Eng
end
end
end
section
noncomputable section
noncomputable section
namespace Go.Eng
open Go
inductive LR (D:Nat->Prop) (ι:Nat->Reg):List Value->List Value->Prop where
 |nil:LR D ι [] []
 |cons {v u vs us} (h:VR D ι v u) (t:LR D ι vs us):LR D ι (v::vs) (u::us)
section
variable {D:Nat->Prop} {ι:Nat->Reg}
theorem LR.of_AR:∀{vs:List Value} {a:List Value},AR D ι vs.toArray a.toArray->LR D ι vs a
 |[],a,h=>by
  have:a.length=0:=by simpa using h.1.symm
  rw[List.length_eq_zero_iff.1 this];exact .nil
 |v::vs,[],h=>by have:=h.1;simp at this
 |v::vs,u::a,h=>.cons (h.2 0 v u (by simp) (by simp)) (LR.of_AR ⟨by have:=h.1;simp at this;simpa using this,λi x y b c=>h.2 (i+1) x y (by simpa using b) (by simpa using c)⟩)
theorem LR.AR:∀{vs a:List Value},LR D ι vs a->AR D ι vs.toArray a.toArray
 |_,_,.nil=>⟨rfl,by simp⟩
 |v::vs,u::a,.cons h t=>by
  obtain⟨d,e⟩:=LR.AR t;refine⟨by simpa using d,λi x y b c=> ?_⟩;rcases i with _|i
  ·simp at b c;subst b c;exact h
  ·exact e i x y (by simpa using b) (by simpa using c)
theorem LR.drop:∀(n:Nat) {vs a:List Value},LR D ι vs a->LR D ι (vs.drop n) (a.drop n)
 |0,_,_,h=>h
 |_+1,_,_,.nil=>.nil
 |n+1,_,_,.cons _ t=>LR.drop n t
theorem LR.len {vs a:List Value} (h:LR D ι vs a):vs.length=a.length:=by
 induction h with
 |nil=>rfl
 |cons _ _ b=>simp[b]
end
theorem BK {p q:List Bool} (h:C5 (p++q)):C5 p/\C5 q:=by
 induction p with
 |nil=>exact⟨trivial,h⟩
 |cons a p b=>exact⟨⟨h.1,(b h.2).1⟩,(b h.2).2⟩
theorem ML {n:Int} (h:Ad .u8 n):n=((UInt8.ofNat n.toNat).toNat:Int):=by
 have a:0<=n:=h.1;have b:n<=2^8-1:=h.2;rw[UInt8.toNat_ofNat'];omega
def ZO:Value->Option Bool
 | .nilIface=>some true
 | .iface _ _=>some false
 | .tuple a=>match a.toList with
   |[.chan (some 3),.bool b]=>some b
   |_=>none
 |_=>none
theorem II {D:Nat->Prop} {ι:Nat->Reg} {x e:Value} {b:Bool} (h:ZO x=some b) (d:VR D ι x e):ew b e=true:=by
 unfold ZO at h
 split at h
 ·cases h;cases d;rfl
 ·cases h;cases d;rfl
 ·rename_i a
  split at h
  ·rename_i c f;cases h;rw[BG f] at d;exact dF d
  ·cases h
 ·cases h
def TK:Value->Option Nat
 | .func (.func g) a b=>match a.toList,b.toList with
   |[],[]=>some g
   |_,_=>none
 |_=>none
theorem EZ {D:Nat->Prop} {ι:Nat->Reg} {v u:Value} {g:Nat} (h:TK v=some g) (f:VR D ι v u):u=.func (.func g) #[] #[]:=by
 unfold TK at h
 split at h
 ·rename_i j a b
  split at h
  ·rename_i d e;cases h;have d:a=#[]:=by cases a;simp_all
   have e:b=#[]:=by cases b;simp_all
   subst d e;cases f with
   |func _ _ bs _ ds i c _ _=>
    have:bs=#[]:=Array.eq_empty_of_size_eq_zero (by simpa using i.symm);have:ds=#[]:=Array.eq_empty_of_size_eq_zero (by simpa using c.symm)
    simp_all
  ·cases h
 ·cases h
def St.puts (σ:St):List Nat->St
 |[]=>σ
 |i::is=>(σ.puts is).put i none
section
variable {P:Program} {D:Nat->Prop} {ι:Nat->Reg} {σ:St} {w w':World}
theorem St.puts_next:∀(gs:List Nat),(σ.puts gs).next=σ.next
 |[]=>rfl
 |_::gs=>St.puts_next gs
theorem St.puts_pc:∀(gs:List Nat),(σ.puts gs).pc=σ.pc
 |[]=>rfl
 |_::gs=>St.puts_pc gs
theorem St.puts_get:∀(gs:List Nat) (j:Nat),(σ.puts gs).heap.get j=if j∈gs then none else σ.heap.get j
 |[],j=>by simp[St.puts]
 |g::gs,j=>by
  simp only[St.puts,St.put,Tr.set_get,St.puts_get gs j,List.mem_cons];by_cases h:j=g
  ·simp[h]
  ·simp[h]
theorem St.puts_hdr (gs:List Nat) (j:Nat):(σ.puts gs).H.hdr j=if j∈gs then none else σ.H.hdr j:=by
 simp only[St.H,St.puts_get];split<;>rfl
theorem St.puts_cell (gs:List Nat) (j k:Nat):(σ.puts gs).H.cell j k=if j∈gs then none else σ.H.cell j k:=by
 simp only[St.H,St.puts_get];split<;>rfl
theorem St.puts_wf (a:σ.wf) (gs:List Nat):(σ.puts gs).wf:=λid h=>by
 rw[St.puts_next] at h;rw[St.puts_get];split
 ·rfl
 ·exact a id h
theorem AFr.puts {gs:List Nat} {o:AO} {φ:Foot} (d:∀id,id∈gs->id∈φ.wh):AFr σ ((σ.puts gs).new o) φ where
 h:=λid a b=>by
  rw[St.new_hdr,St.puts_next,if_neg λe=>a (by subst e;simp[St.rng,St.new,St.puts_next]),St.puts_hdr,if_neg λh=>b (d id h)]
 c:=λid k a b=>by
  rw[St.new_cell,St.puts_next,if_neg λe=>a (by subst e;simp[St.rng,St.new,St.puts_next]),St.puts_cell,if_neg λh=>b (.inr (d id h))]
 ok:=λh=>by unfold St.Ok at h⊢;rwa[show((σ.puts gs).new o).pc=σ.pc from St.puts_pc gs] at h
theorem A4.puts {gs:List Nat} {o:AO} {v:Value} {rc:List (Nat×Nat)} {rh:List Nat}:A4 σ ⟨v,(σ.puts gs).new o,⟨rc,rh,[],gs⟩⟩:=
 ⟨by simp[St.new,St.puts_next],λa=>⟨St.new_wf (St.puts_wf a _) _,AFr.puts λ_ h=>h⟩⟩
theorem St.rng_puts {gs:List Nat} {o:AO} {id:Nat}:σ.rng ((σ.puts gs).new o) id↔id=σ.next:=by simp only[St.rng,St.new,St.puts_next];omega
def B5 (blk base room esz:Nat) (fz:Nat->Option (Array Value)) (sv:Value):Reg:=⟨blk,base,room,esz,true,fz,sv⟩
theorem Db {gs:List Nat} {rc:List (Nat×Nat)} {rh:List Nat} {t:Ty} {s:List t.Den} {d:TypeId} {r:Reg} (q:σ.wf)
  (B:Am P (EG ι σ.next r) σ.next w' (.vec t s d)) (C:w.heap.size<=w'.heap.size) (u:w'.os=w.os) (o:w'.output=w.output)
  (E:∀b,b<w.heap.size->(∀id,id∈gs->Wr σ.H id->¬(ι id).Own b)->w'.heap[b]?=w.heap[b]?) (F:∀id,id∈gs->Lv σ.H id)
  (G:r.own=true->(w.heap.size<=r.blk/\r.blk<w'.heap.size)\/∃k,k∈gs/\Wr σ.H k/\(ι k).Own r.blk)
  (I:∀b,r.Fz b->(w.heap.size<=b/\b<w'.heap.size)\/(∃k,k∈gs/\Wr σ.H k/\(ι k).Own b)\/∃k,(k∈rh\/k∈gs)/\Lv σ.H k/\(ι k).Fz b):
  Post P D (σ.rng ((σ.puts gs).new (.vec t s d))) ι σ.H w ⟨rc,rh,[],gs⟩ (EG ι σ.next r) ((σ.puts gs).new (.vec t s d)).H w' where
 io:=λid a=>Dz _ _ λe=>a (St.rng_puts.2 e)
 size:=C
 os:=u
 out:=o
 hdr:=by
  intro id x hx e;by_cases m:id=σ.next
  ·subst m;rw[St.new_hdr,St.puts_next,if_pos rfl] at e;cases e;exact B
  ·rcases hx with hx|hx
   ·have hx:id∈gs:=hx;rw[St.new_hdr,St.puts_next,if_neg m,St.puts_hdr,if_pos hx] at e;cases e
   ·exact absurd (St.rng_puts.1 hx) m
 cel:=by
  intro id k v hx lv e;by_cases m:id=σ.next
  ·subst m;rw[St.new_cell,St.puts_next,if_pos rfl] at e;cases e
  ·rcases hx with(hx|hx)|hx
   ·cases hx
   ·have hx:id∈gs:=hx;rw[St.new_cell,St.puts_next,if_neg m,St.puts_cell,if_pos hx] at e;cases e
   ·exact absurd (St.rng_puts.1 hx) m
 ahdr:=λid a hx=>by rw[St.new_hdr,St.puts_next,if_neg λe=>a (St.rng_puts.2 e),St.puts_hdr,if_neg (show ¬id∈gs from hx)]
 acel:=λid k a hx=>by rw[St.new_cell,St.puts_next,if_neg λe=>a (St.rng_puts.2 e),St.puts_cell,if_neg λh=>hx (.inr h)]
 cfr:=λb f hx=>by rw[E b f hx];exact BC.refl _ _
 fresh:=λid a lv b f=>by
  obtain rfl:=St.rng_puts.1 a;rw[AV] at f;rcases G f.1 with h|⟨k,n,g,p⟩
  ·left;rw[<-f.2];exact h
  ·have c:k≠σ.next:=λe=>by have:=St.lv_lt q g.lv;omega
   refine .inr ⟨k,n,λh=>c (St.rng_puts.1 h),g,λ⟨y,l⟩=> ?_,by rw[<-f.2];exact p⟩;rw[St.new_hdr,St.puts_next,if_neg c,St.puts_hdr,if_pos n] at l;cases l
 freshF:=λid a lv b f=>by
  obtain rfl:=St.rng_puts.1 a;rw[AV] at f;rcases I b f with h|⟨k,n,g,p⟩|⟨k,n,g,p⟩
  ·exact .inl h
  ·have c:k≠σ.next:=λe=>by have:=St.lv_lt q g.lv;omega
   refine .inr (.inl ⟨k,n,λh=>c (St.rng_puts.1 h),g,λ⟨y,l⟩=> ?_,p⟩);rw[St.new_hdr,St.puts_next,if_neg c,St.puts_hdr,if_pos n] at l;cases l
  ·have c:k≠σ.next:=λe=>by have:=St.lv_lt q g;omega
   exact .inr (.inr ⟨k,n.elim (λh=>.inr (.inl h)) λh=>.inr (.inr (.inr h)),λh=>c (St.rng_puts.1 h),g,p⟩)
 dist:=λi j J K _ _ z=>by
  obtain rfl:=St.rng_puts.1 J;exact absurd (St.rng_puts.1 K).symm z
 nl:=λid a=>by
  obtain rfl:=St.rng_puts.1 a;exact St.hdr_none q _ (Nat.le_refl _)
 wl:=λid k hx _=>by
  rcases hx with hx|hx
  ·cases hx
  ·exact F id hx
 wrm:=λid a hx=>by
  by_cases A:id∈gs
  ·obtain⟨y,l,_⟩:=hx;rw[St.new_hdr,St.puts_next,if_neg λe=>a (St.rng_puts.2 e),St.puts_hdr,if_pos A] at l;cases l
  ·exact hx.of_hdr (by rw[St.new_hdr,St.puts_next,if_neg λe=>a (St.rng_puts.2 e),St.puts_hdr,if_neg A])
 wrow:=λid k hx a=>by
  rcases hx with hx|hx
  ·cases hx
  ·exact absurd hx a
theorem Post.setVec {id:Nat} {t:Ty} {l d:List t.Den} {a:TypeId} {rh:List Nat} {rc:List (Nat×Nat)} (g:σ.heap.get id=some (.vec t l a)) (m:Am P ι id w' (.vec t d a)) (n:w.heap.size<=w'.heap.size) (h:w'.os=w.os) (f:w'.output=w.output)
  (o:∀b,b<w.heap.size->¬(ι id).Own b->w'.heap[b]?=w.heap[b]?):
  Post P D (σ.rng (σ.put id (some (.vec t d a)))) ι σ.H w ⟨rc,rh,[],[id]⟩ ι (σ.put id (some (.vec t d a))).H w' where
 io:=λ_ _=>rfl
 size:=n
 os:=h
 out:=f
 hdr:=by
  rintro j x (hx|hx) e
  ·have:j=id:=by simpa[Foot.Wi] using hx
   subst this;rw[St.put_hdr,if_pos rfl] at e;cases e;exact m
  ·simp only[St.rng,St.put] at hx;omega
 cel:=by
  rintro j k v (hx|hx) lv e
  ·have:j=id:=by simpa[Foot.Wc] using hx
   subst this;rw[St.put_cell,if_pos rfl] at e;cases e
  ·simp only[St.rng,St.put] at hx;omega
 ahdr:=λj _ hx=>by rw[St.put_hdr,if_neg λe=>hx (by simp[Foot.Wi,e])]
 acel:=λj k _ hx=>by rw[St.put_cell,if_neg λe=>hx (by simp[Foot.Wc,e])]
 cfr:=λb p hx=>by
  rw[o b p (hx id (by simp[Foot.Wi]) ⟨_,St.hdr_of g,trivial⟩)];exact BC.refl _ _
 fresh:=λj c=>by simp only[St.rng,St.put] at c;omega
 freshF:=λj c=>by simp only[St.rng,St.put] at c;omega
 dist:=λi j c=>by simp only[St.rng,St.put] at c;omega
 nl:=λj c=>by simp only[St.rng,St.put] at c;omega
 wl:=λj k hx _=>by
  have:j=id:=by simpa[Foot.Wc] using hx
  subst this;exact St.lv_of g
 wrm:=λj _ hx=>by
  by_cases e:j=id
  ·subst e;exact⟨_,St.hdr_of g,trivial⟩
  ·exact hx.of_hdr (by rw[St.put_hdr,if_neg e])
 wrow:=λj k hx c=>absurd (by rcases hx with hx|hx;cases hx;exact hx) c
structure CD (α:Type) where
 x:α
 r:List Value
 i:List Nat
 g:List Nat
 p:List Bool
def ZP {α:Type} (f:List Value->Option (CD α)):Nat->List Value->Option (CD (List α))
 |0,a=>some ⟨[],a,[],[],[]⟩
 |n+1,a=>match f a with
  |some ⟨x,r,i,g,p⟩=>match ZP f n r with
   |some ⟨b,c,j,h,q⟩=>some ⟨x::b,c,i++j,g++h,p++q⟩
   |none=>none
  |none=>none
def As (σ:St):(t:Ty)->List Value->Option (CD t.Den)
 | .int k,v::r=>match Bm v with
   |some (.int m n)=>bif decide (m=k) then some ⟨n,r,[],[],[]⟩ else none
   |_=>none
 | .byte,v::r=>match Bm v with
   |some (.int .u8 n)=>some ⟨UInt8.ofNat n.toNat,r,[],[],[decide (Ad .u8 n)]⟩
   |_=>none
 | .bool,v::r=>match Bm v with
   |some (.bool b)=>some ⟨b,r,[],[],[]⟩
   |_=>none
 | .f64,v::r=>match Bm v with
   |some (.float .f64 b)=>some ⟨b,r,[],[],[]⟩
   |_=>none
 | .cx,v::r=>match Bm v with
   |some (.complex .f64 a b)=>some ⟨(a,b),r,[],[],[]⟩
   |_=>none
 | .str,v::r=>match Bm v with
   |some (.string s)=>some ⟨C8 s,r,[],[],[]⟩
   |_=>none
 | .unit,d=>some ⟨(),d,[],[],[]⟩
 | .pair a b,d=>match As σ a d with
   |some ⟨x,r,i,g,p⟩=>match As σ b r with
    |some ⟨y,o,j,h,q⟩=>some ⟨(x,y),o,i++j,g++h,p++q⟩
    |none=>none
   |none=>none
 | .slice a,v::r=>match v with
   | .slice none 0 0=>some ⟨[],r,[],[],[]⟩
   | .slice (some ⟨_,_,some 0⟩) 0 _=>some ⟨[],r,[],[],[]⟩
   | .slice (some ⟨id,off,none⟩) n c=>match σ.heap.get id with
     |some (.row d _ false)=>match ZP (As σ a) n (d.drop off) with
      |some ⟨e,_,i,g,p⟩=>bif Nat.ble (off+n*a.sz) d.length&&Nat.ble n c then some ⟨e,r,i,id::g,p⟩ else none
      |none=>none
     |_=>none
   | .tuple l=>match l.toList with
     |[.chan (some 2),.pointer (some ⟨id,0,none⟩)]=>match σ.heap.get id with
      |some (.dat t e)=>if h:t=a then some ⟨h▸e,r,[id],[],[]⟩ else none
      |some (.vec t e _)=>if h:t=a then some ⟨h▸e,r,[],[id],[]⟩ else none
      |_=>none
     |_=>none
   |_=>none
 | .err,v::r=>match ZO v with
   |some b=>some ⟨b,r,[],[],[]⟩
   |none=>none
 | .fn f,v::r=>match TK v with
   |some g=>bif Nat.beq g f then some ⟨(),r,[],[],[]⟩ else none
   |none=>none
 | .fv,v::r=>match TK v with
   |some g=>some ⟨g,r,[],[],[]⟩
   |none=>none
 | .ref a,v::r=>match v with
   | .pointer (some ⟨id,off,none⟩)=>match σ.heap.get id with
     |some (.row d _ false)=>match ZP (As σ a) 1 (d.drop off) with
      |some ⟨e,_,i,g,p⟩=>match e with
       |[x]=>bif Nat.ble (off+a.sz) d.length then some ⟨x,r,i,id::g,p⟩ else none
       |_=>none
      |none=>none
     |_=>none
   |_=>none
 | .clo f a,v::r=>match v with
   | .func (.func g) as d=>match as.toList with
     |[]=>bif Nat.beq g f then match As σ a d.toList with
      |some ⟨x,[],i,g,p⟩=>some ⟨x,r,i,g,p⟩
      |_=>none
      else none
     |_=>none
   |_=>none
 |_,[]=>none
open Classical in
def Gv (ι:Nat->Reg) (is gs:List Nat) (w:World):Nat->Option (Array Value):=λb=>
 if(∃id,id∈is/\(ι id).Fz b)\/∃id,id∈gs/\((ι id).Own b\/(ι id).Fz b) then(match w.heap[b]? with|some (.cells c _ _)=>some c|_=>none) else none
section
variable {is gs:List Nat}
theorem Vs {id:Nat} (d:id∈is\/id∈gs) (f:Bs (ι id).fz w) (b:Nat) (c:Array Value) (h:(ι id).fz b=some c):Gv ι is gs w b=some c:=by
 unfold Gv;rw[if_pos (d.imp (λa=>⟨id,a,c,h⟩) λa=>⟨id,a,.inr ⟨c,h⟩⟩)];obtain⟨e,fr,g⟩:=f b c h;rw[g]
theorem Rf {id:Nat} (a:id∈gs) {b:Nat} (d:(ι id).Own b) {c:Array Value} {e:TypeId} {fr:Nat×Nat} (h:w.heap[b]?=some (.cells c e fr)):Gv ι is gs w b=some c:=by
 unfold Gv;rw[if_pos (.inr ⟨id,a,.inl d⟩),h]
theorem Du:Bs (Gv ι is gs w) w:=by
 intro b c h;unfold Gv at h
 split at h
 ·split at h
  ·rename_i d e fr a;cases h;exact⟨e,fr,a⟩
  ·cases h
 ·cases h
theorem FO {b:Nat} {c:Array Value} (h:Gv ι is gs w b=some c):(∃id,id∈is/\(ι id).Fz b)\/∃id,id∈gs/\((ι id).Own b\/(ι id).Fz b):=by
 unfold Gv at h
 split at h
 ·assumption
 ·cases h
theorem Rg {fz:Nat->Option (Array Value)} {a:Ty} (m:∀(b d:List Value) (c:CD a.Den),As σ a b=some c->(∀id,id∈c.i->id∈is)->(∀id,id∈c.g->id∈gs)->C5 c.p->LR D ι b d->∃e k,d=e++k/\Bj fz a c.x e/\LR D ι c.r k):
  ∀(n:Nat) (b d:List Value) (c:CD (List a.Den)),ZP (As σ a) n b=some c->(∀id,id∈c.i->id∈is)->(∀id,id∈c.g->id∈gs)->C5 c.p->LR D ι b d->c.x.length=n/\∀i x,c.x[i]?=some x->Bj fz a x ((d.drop (i*a.sz)).take a.sz)
 |0,b,d,c,h,_,_,_,_=>by
  simp only[ZP,Option.some.injEq] at h;subst h;exact⟨rfl,λi x u=>by simp at u⟩
 |n+1,b,d,c,h,o,s,v,w=>by
  simp only[ZP] at h
  split at h
  ·rename_i x r i g q z
   split at h
   ·rename_i A B j C E F;cases h;obtain⟨G,H⟩:=BK v;obtain⟨e,k,rfl,g1,I⟩:=m b d ⟨x,r,i,g,q⟩ z (λid h=>o id (by simp at h⊢;exact .inl h)) (λid h=>s id (by simp at h⊢;exact .inl h)) G w;obtain⟨t,J⟩:=Rg m n r k ⟨A,B,j,C,E⟩ F (λid h=>o id (by simp at h⊢;exact .inr h)) (λid h=>s id (by simp at h⊢;exact .inr h)) H I
    have f:=(I5 a x e g1).1;refine⟨by simp at t⊢;exact t,λi y l=> ?_⟩;rcases i with _|i
    ·simp only[List.getElem?_cons_zero,Option.some.injEq] at l;subst l;rw[Nat.zero_mul,List.drop_zero,List.take_append_of_le_length (by omega),List.take_of_length_le (by omega)];exact g1
    ·have:=J i y (by simpa using l);rw[show(i+1)*a.sz=e.length+i*a.sz by rw[f,Nat.add_mul];omega,<-List.drop_drop,List.drop_left];exact this
   ·cases h
  ·cases h
theorem Ea (hd:∀id,id∈is\/id∈gs->∀x,σ.H.hdr id=some x->Am P ι id w x) (hce:∀id,id∈gs->∀k v,Lv σ.H id->σ.H.cell id k=some v->BL D ι id w k v):
  ∀(t:Ty) (E C:List Value) (c:CD t.Den),As σ t E=some c->(∀id,id∈c.i->id∈is)->(∀id,id∈c.g->id∈gs)->C5 c.p->LR D ι E C->∃u1 u2,C=u1++u2/\Bj (Gv ι is gs w) t c.x u1/\LR D ι c.r u2:=by
 intro t
 induction t with
 |int k=>
  intro E C c h _ _ _ o;cases o with
  |nil=>simp[As] at h
  |cons s z=>
   simp only[As] at h
   split at h
   ·rename_i k' n m;cases N:decide (k'=k)
    ·rw[N] at h;cases h
    ·rw[N] at h;cases h;have:=of_decide_eq_true N;subst this;exact⟨[_],_,rfl,by rw[(AZ m s).1];rfl,z⟩
   ·cases h
 |byte=>
  intro E C c h _ _ O o;cases o with
  |nil=>simp[As] at h
  |cons s z=>
   simp only[As] at h
   split at h
   ·rename_i n m;cases h;refine⟨[_],_,rfl,?_,z⟩;rw[(AZ m s).1];simp only[Bj];rw[<-ML (of_decide_eq_true O.1)]
   ·cases h
 |bool=>
  intro E C c h _ _ _ o;cases o with
  |nil=>simp[As] at h
  |cons s z=>
   simp only[As] at h
   split at h
   ·rename_i b m;cases h;exact⟨[_],_,rfl,by rw[(AZ m s).1];rfl,z⟩
   ·cases h
 |ref a ih=>
  intro E C c h F J O o;cases o with
  |nil=>simp[As] at h
  |cons s z=>
   simp only[As] at h
   split at h
   ·rename_i id off
    split at h
    ·rename_i d el FJ
     split at h
     ·rename_i S r0 i0 g0 q hr
      split at h
      ·rename_i x;cases j:Nat.ble (off+a.sz) d.length
       ·rw[j] at h;cases h
       rw[j,cond_true] at h;have j:=Nat.le_of_ble_eq_true j;cases h;have B:id∈gs:=J id (by simp);have hdr:=hd id (.inr B) _ (St.hdr_of FJ);obtain⟨A,e,fr,L,e2,e3,⟨e4,e5⟩,e6⟩:=hdr;have T:=Rf (is:=is) B (⟨e4,rfl⟩:(ι id).Own (ι id).blk) L;have G:∀k,k<d.length->∃u,A.toList[(ι id).base+k]?=some u/\∃v,d[k]?=some v/\VR D ι v u:=by
        intro k N;obtain⟨_,u,m,I⟩:=hce id B k d[k] (St.lv_of FJ) (by rw[St.cell_of FJ];exact List.getElem?_eq_getElem N);simp only[World.cell?,L,Option.isSome_none,Bool.false_eq_true,if_false] at m;exact⟨u,by rw[Array.getElem?_toList];exact m,d[k],List.getElem?_eq_getElem N,I⟩
       have U:LR D ι (d.drop off) (((A.toList.drop (ι id).base).take d.length).drop off):=by
        refine LR.drop off (LR.of_AR ⟨?_,λi a b Q j=> ?_⟩)
        ·simp only[List.size_toArray,List.length_take,List.length_drop,Array.length_toList];have:d.length<=(ι id).room:=e3;omega
        ·simp only[List.getElem?_toArray] at Q j;rw[List.getElem?_take] at j
         split at j
         ·rename_i F;obtain⟨u,m,v,V,I⟩:=G i F;rw[List.getElem?_drop,m] at j;rw[V] at Q;cases Q;cases j;exact I
         ·cases j
       obtain⟨M,W⟩:=Rg (fz:=Gv ι is gs w) (λE C c X Y h3 h4 h5=>ih E C c X Y h3 h4 h5) 1 _ _ ⟨[x],r0,i0,g0,q⟩ hr F (λid h=>J id (by simp at h⊢;exact .inr h)) O U;have K:=W 0 x rfl;cases s with
       |ptr _ _ hD=>
        refine⟨[_],_,rfl,⟨(ι id).blk,(ι id).base+off,A,rfl,T,by have:d.length<=(ι id).room:=e3;omega,?_⟩,z⟩;have e:((((A.toList.drop (ι id).base).take d.length).drop off).drop (0*a.sz)).take a.sz=(A.toList.drop ((ι id).base+off)).take a.sz:=by
         rw[Nat.zero_mul,List.drop_zero,List.drop_take,List.take_take,List.drop_drop];congr 1;omega
        rw[e] at K;exact K
      ·cases h
     ·cases h
    ·cases h
   ·cases h
 |clo f a ih=>
  intro E C c h F J O o;cases o with
  |nil=>simp[As] at h
  |cons s z=>
   simp only[As] at h
   split at h
   ·rename_i g as d
    split at h
    ·rename_i has;cases j:Nat.beq g f
     ·rw[j] at h;cases h
     rw[j,cond_true] at h;have:=Nat.eq_of_beq_eq_true j;subst this
     split at h
     ·rename_i x i0 g0 q hr;cases h;cases s with
      |func _ _ bs' _ ds' X Y h3 h4=>
       obtain⟨u1,u2,L,M,W⟩:=ih d.toList ds'.toList ⟨x,[],i0,g0,q⟩ hr F J O (LR.of_AR ⟨by simpa using Y,by simpa using h4⟩);cases W;rw[List.append_nil] at L;subst L;have hz:bs'=#[]:=by
        have:as=#[]:=Array.toList_eq_nil_iff.1 has;subst this;exact Array.eq_empty_of_size_eq_zero (by simpa using X.symm)
       subst hz;exact⟨[_],_,rfl,⟨ds'.toList,by simp,M⟩,z⟩
     ·cases h
    ·cases h
   ·cases h
 |f64=>
  intro E C c h _ _ _ o;cases o with
  |nil=>simp[As] at h
  |cons s z=>
   simp only[As] at h
   split at h
   ·rename_i b m;cases h;exact⟨[_],_,rfl,by rw[(AZ m s).1];rfl,z⟩
   ·cases h
 |cx=>
  intro E C c h _ _ _ o;cases o with
  |nil=>simp[As] at h
  |cons s z=>
   simp only[As] at h
   split at h
   ·rename_i a b m;cases h;exact⟨[_],_,rfl,by rw[(AZ m s).1];rfl,z⟩
   ·cases h
 |str=>
  intro E C c h _ _ _ o;cases o with
  |nil=>simp[As] at h
  |cons s z=>
   simp only[As] at h
   split at h
   ·rename_i b m;cases h;exact⟨[_],_,rfl,by rw[(AZ m s).1];simp only[Bj,Iy],z⟩
   ·cases h
 |unit=>
  intro E C c h _ _ _ o;simp only[As,Option.some.injEq] at h;subst h;exact⟨[],C,rfl,rfl,o⟩
 |err=>
  intro E C c h _ _ _ o;cases o with
  |nil=>simp[As] at h
  |cons s z=>
   simp only[As] at h
   split at h
   ·rename_i b m;cases h;exact⟨[_],_,rfl,⟨_,rfl,II m s⟩,z⟩
   ·cases h
 |fv=>
  intro E C c h _ _ _ o;cases o with
  |nil=>simp[As] at h
  |cons s z=>
   simp only[As] at h
   split at h
   ·rename_i g m;cases h;exact⟨[_],_,rfl,by rw[EZ m s];rfl,z⟩
   ·cases h
 |fn f=>
  intro E C c h _ _ _ o;cases o with
  |nil=>simp[As] at h
  |cons s z=>
   simp only[As] at h
   split at h
   ·rename_i g m;cases j:Nat.beq g f
    ·rw[j] at h;cases h
    ·rw[j] at h;cases h;have:=Nat.eq_of_beq_eq_true j;subst this;exact⟨[_],_,rfl,by rw[EZ m s];rfl,z⟩
   ·cases h
 |pair a b iha ihb=>
  intro E C c h F J O o;simp only[As] at h
  split at h
  ·rename_i x1 r1 i1 g1 p1 X
   split at h
   ·rename_i x2 r2 i2 g2 p2 Y;cases h;obtain⟨q1,q2⟩:=BK O;obtain⟨u1,u2,rfl,M,W⟩:=iha E C ⟨x1,r1,i1,g1,p1⟩ X (λid h=>F id (by simp at h⊢;exact .inl h)) (λid h=>J id (by simp at h⊢;exact .inl h)) q1 o;obtain⟨v1,v2,rfl,k3,k4⟩:=ihb r1 u2 ⟨x2,r2,i2,g2,p2⟩ Y (λid h=>F id (by simp at h⊢;exact .inr h)) (λid h=>J id (by simp at h⊢;exact .inr h)) q2 W
    exact⟨u1++v1,v2,by simp,⟨u1,v1,rfl,M,k3⟩,k4⟩
   ·cases h
  ·cases h
 |slice a ih=>
  intro E C c h F J O o;cases o with
  |nil=>simp[As] at h
  |cons s z=>
   simp only[As] at h
   split at h
   ·cases h;cases s;exact⟨[_],_,rfl,⟨_,rfl,.inl ⟨⟨_,_,rfl⟩,rfl⟩⟩,z⟩
   ·cases h;cases s;exact⟨[_],_,rfl,⟨_,rfl,.inl ⟨⟨_,_,rfl⟩,rfl⟩⟩,z⟩
   ·rename_i id off n cp
    split at h
    ·rename_i d el FJ
     split at h
     ·rename_i S r0 i0 g0 q hr;cases j:(Nat.ble (off+n*a.sz) d.length&&Nat.ble n cp)
      ·rw[j] at h;cases h
      rw[j,cond_true] at h;rw[Bool.and_eq_true] at j;have hb2:=Nat.le_of_ble_eq_true j.2;have j:=Nat.le_of_ble_eq_true j.1;cases h;obtain⟨c',rfl,hD,hc1,hc2⟩:=s.sl_inv;have B:id∈gs:=J id (by simp);have hdr:=hd id (.inr B) _ (St.hdr_of FJ);obtain⟨A,e,fr,L,e2,e3,⟨e4,e5⟩,e6⟩:=hdr;have T:=Rf (is:=is) B (⟨e4,rfl⟩:(ι id).Own (ι id).blk) L
      have G:∀k,k<d.length->∃u,A.toList[(ι id).base+k]?=some u/\∃v,d[k]?=some v/\VR D ι v u:=by
       intro k N;obtain⟨_,u,m,I⟩:=hce id B k d[k] (St.lv_of FJ) (by rw[St.cell_of FJ];exact List.getElem?_eq_getElem N);simp only[World.cell?,L,Option.isSome_none,Bool.false_eq_true,if_false] at m;exact⟨u,by rw[Array.getElem?_toList];exact m,d[k],List.getElem?_eq_getElem N,I⟩
      have U:LR D ι (d.drop off) (((A.toList.drop (ι id).base).take d.length).drop off):=by
       refine LR.drop off (LR.of_AR ⟨?_,λi a b Q j=> ?_⟩)
       ·simp only[List.size_toArray,List.length_take,List.length_drop,Array.length_toList];have:d.length<=(ι id).room:=e3;omega
       ·simp only[List.getElem?_toArray] at Q j;rw[List.getElem?_take] at j
        split at j
        ·rename_i F;obtain⟨u,m,v,V,I⟩:=G i F;rw[List.getElem?_drop,m] at j;rw[V] at Q;cases Q;cases j;exact I
        ·cases j
      obtain⟨M,W⟩:=Rg (fz:=Gv ι is gs w) (λE C c X Y h3 h4 h5=>ih E C c X Y h3 h4 h5) n _ _ ⟨S,r0,i0,g0,q⟩ hr F (λid h=>J id (by simp at h⊢;exact .inr h)) O U;have M:S.length=n:=M;have hnc:n<=c':=by
       by_cases m:cp=Ew
       ·exact(hc2 m).1
       ·rw[hc1 m];exact hb2
      refine⟨[_],_,rfl,⟨_,rfl,.inr ⟨(ι id).blk,(ι id).base+off,c',A,by rw[M],T,by rw[M];have:d.length<=(ι id).room:=e3;omega,by rw[M];exact hnc,λi y hy=> ?_⟩⟩,z⟩;have K:=W i y hy;have F:i<n:=by
       rcases Nat.lt_or_ge i n with h|h
       ·exact h
       ·have hy:S[i]?=some y:=hy;rw[List.getElem?_eq_none (by omega)] at hy;cases hy
      have Z:i*a.sz+a.sz<=n*a.sz:=by
       have:=Nat.mul_le_mul_right a.sz F;rwa[Nat.succ_mul] at this
      have e:((((A.toList.drop (ι id).base).take d.length).drop off).drop (i*a.sz)).take a.sz=(A.toList.drop ((ι id).base+off+i*a.sz)).take a.sz:=by
       rw[List.drop_drop,List.drop_take,List.take_take,List.drop_drop,Nat.add_assoc];congr 1;omega
      rw[e] at K;exact K
     ·cases h
    ·cases h
   ·rename_i A
    split at h
    ·rename_i id Q;rw[BG Q] at s;obtain⟨a',l,cp,rfl,hD,hsv⟩:=Cz s
     split at h
     ·rename_i t S FJ
      split at h
      ·rename_i he;subst he;cases h;have Z:=F id (by simp);obtain⟨g1, -, -,g4⟩:=hd id (.inl Z) _ (St.hdr_of FJ);rw[hsv] at g1;exact⟨[_],_,rfl,⟨_,rfl,(g1.mono λb c h=>Vs (.inl Z) g4 b c h)⟩,z⟩
      ·cases h
     ·rename_i t S el FJ
      split at h
      ·rename_i he;subst he;cases h;have Z:=J id (by simp);obtain⟨-,g4,g5⟩:=hd id (.inr Z) _ (St.hdr_of FJ);refine⟨[_],_,rfl,⟨_,rfl,?_⟩,z⟩;rw[<-hsv];refine g5.imp (λ⟨_,L,q,e2⟩=>⟨⟨_,_,e2⟩,L⟩) ?_;rintro⟨o1,o2,cap,R,fr,s1,s2,s3,s4,s5,s6,s7,s8⟩;have hmul:=Nat.mul_le_mul_right t.sz s2;refine⟨_,_,_,R,s1,Rf Z ⟨o1,rfl⟩ s3,(by show(ι id).base+S.length*t.sz<=R.size;omega),s2,λi x hx=> ?_⟩
       have:=(s8 i x hx).2;rw[List.drop_drop] at this;exact Bj.mono (λb c h=>Vs (.inr Z) g4 b c h) _ _ _ this
      ·cases h
     ·cases h
    ·cases h
   ·cases h
end
end
end Go.Eng
end
end
end
section
noncomputable section
noncomputable section
namespace Go.Eng
open Go
section
variable {P:Program} {T:TE} (hT:T.OK P) {D:Nat->Prop} {ι:Nat->Reg} {σ:St} {w:World}
def ia (T:TE) (σ:St) (a:TypeId) (s:L8):Option R:=
 match T.inf a with
 |some i=>bif Nat.beq i.size 1 then some ⟨dt σ.next,σ.new (.vec .byte s a),.nil⟩ else none
 |none=>none
include hT
theorem Vt {a:TypeId} {s:L8} {r:R} (h:ia T σ a s=some r):AF P D ι σ w (Conv.stringToBytes a (bs s)) r:=by
 unfold ia at h
 split at h
 ·rename_i i v;cases e:Nat.beq i.size 1
  ·rw[e] at h;cases h
  ·rw[e,cond_true] at h;have m:=Nat.eq_of_beq_eq_true e;cases h;refine⟨by simp[St.new],λp=>⟨St.new_wf p _,AFr.new _ _ _⟩,λp y _=> ?_⟩;have z:¬D σ.next:=y _ (by simp[St.rng,St.new]);let cap:=(Question.appendCap (bs s).size 0 a).cut (w.tape w.drawn (.appendCap (bs s).size 0 a));have f:(bs s).size<=cap:=Vi _ _ _ _
   have A:(bs s).size=s.length:=rfl;let c:Array Value:=(bs s).data.map (λb=>Value.int .u8 b.toNat)++Array.replicate (cap-(bs s).size) (.int .u8 0);have B:c.size=cap:=by
    have C:(bs s).data.size=(bs s).size:=rfl;simp only[c,Array.size_append,Array.size_map,Array.size_replicate,C];omega
   let d:Reg:=B5 w.heap.size 0 c.size 1 (λ_=>none) (.slice (some ⟨w.heap.size,0,none⟩) s.length cap);refine⟨.slice (some ⟨w.heap.size,0,none⟩) s.length cap,EG ι σ.next d,{ w with drawn:=w.drawn+1,heap:=w.heap.push (.cells c a (c.size,c.size+1))},?_,?_,?_⟩
   ·have E:(Question.appendCap (bs s).size 0 a).forced=false:=rfl;have F:(w.heap.push (.cells c a (0,0)))[w.heap.size]?=some (.cells c a (0,0)):=Al w _;simp only[Conv.stringToBytes,Sem.run_bind,run_choose,E,Bool.false_eq_true,if_false,Result.andThen_ok,newRow,run_newObj,Sem.run_pure,markStringish,run_shape,World.shape?]
    show((match(match(w.heap.push (.cells c a (0,0)))[w.heap.size]? with|some (.cells c a _)=>some (a,c.size)|_=>none) with|some (_,n)=>freeze { block:=w.heap.size,off:=n} 1|_=>Pure.pure ()).run P _).andThen _=_;rw[F];simp only[run_freeze,Result.andThen_ok,World.freeze];rw[if_neg (by omega)];simp only[LM,beq_self_eq_true,if_true]
    rfl
   ·exact .dat _ _ _ _ (.inr (by simp[St.rng,St.new])) (by rw[AV];rfl)
   ·refine Db (gs:=[]) (rc:=[]) (rh:=[]) p ?_ (by simp) rfl rfl (λb e _=>Af w _ e) (λid h=>by cases h) (λ_=>.inl ⟨Nat.le_refl _,by simp[d,B5]⟩) (λb ⟨c,h⟩=>by cases h);simp only[Am,AV];refine⟨rfl,λb c h=>(by cases h),.inr ⟨rfl,λ⟨c,h⟩=>(by cases h),cap,c,(c.size,c.size+1),rfl,f,Al w _,by simp[d,B5],?_,λj t=> ?_,λo G g=> ?_,λk x g=> ?_⟩⟩
    ·simp only[Ty.sz,d,B5,Nat.mul_one];omega
    ·rw[hT.inf _ _ v] at t;cases t;exact⟨m.symm,by rw[m];exact Nat.mod_one _,by rw[m];exact Nat.mod_one _⟩
    ·simp only[Ty.slk] at g G;omega
    ·have q:k<s.length:=by
      rcases Nat.lt_or_ge k s.length with h|h
      ·exact h
      ·rw[List.getElem?_eq_none h] at g;cases g
     have l:c.toList[k]?=some (.int .u8 x.toNat):=by
      rw[Array.getElem?_toList];simp only[c];rw[Array.getElem?_append_left (by simpa[bs] using q),Array.getElem?_map,<-Array.getElem?_toList];show Option.map _ (s[k]?)=_;rw[g];rfl
     have u:k<c.toList.length:=by simp[B];omega
     simp only[d,B5,List.drop_zero,Ty.sz,Nat.mul_one];refine⟨by omega,?_⟩;rw[List.getElem?_eq_getElem u,Option.some.injEq] at l;rw[List.drop_eq_getElem_cons u,List.take_succ_cons,List.take_zero,l];rfl
 ·cases h
omit hT
def cQ (σ:St) (x:Value):Option R:=
 match x with
 | .tuple a=>match a.toList with
   |[.chan (some 2),.pointer (some ⟨id,0,none⟩)]=>match Fh (σ.heap.get id) with
    |some ⟨.byte,b⟩=>some ⟨sy (.string (bs b)),σ,⟨[],[id],[],[]⟩⟩
    |_=>none
   |_=>none
 |_=>none
theorem LS {fz:Nat->Option (Array Value)}:∀(a:L8) (b:List Value),b.length=a.length->(∀i x,a[i]?=some x->Bj fz .byte x ((b.drop (i*1)).take 1))->b=CZ a
 |[],[],_,_=>rfl
 |[],_::_,h,_=>by simp at h
 |_::_,[],h,_=>by simp at h
 |x::a,u::b,h,c=>by
  have d:=c 0 x rfl;simp only[Bj,Nat.zero_mul,List.drop_zero,List.take_succ_cons,List.take_zero,List.cons.injEq,and_true] at d;have:=LS a b (by simpa using h) λi y e=>by
   have:=c (i+1) y (by simpa using e);rwa[show(i+1)*1=i*1+1 by omega,List.drop_succ_cons] at this
  rw[d,this];rfl
theorem Gj:∀(a:L8),CC (CZ a)=some a
 |[]=>rfl
 |x::a=>by simp[CZ,CC,MK,Gj a]
theorem I1 {b o n:Nat} {a:Array Value} {e:TypeId} {fr:Nat×Nat} (h:w.heap[b]?=some (.cells a e fr)) (g:o+n<=a.size):
  ∃c:Array Value,(∀w':World,w'.heap=w.heap->(loadCells ⟨b,o,none⟩ n).run P w'=.ok c w')/\c.toList=(a.toList.drop o).take n:=by
 refine⟨_,λw' d=>run_loadCells w' _ n (λj=>a.getD (o+j) undef) λj i=> ?_,?_⟩
 ·rw[BF,Pk d];simp only[World.cell?,h,Option.isSome_none,Bool.false_eq_true,if_false];rw[Array.getD_eq_getD_getElem?,Array.getElem?_eq_getElem (by omega)];rfl
 ·apply List.ext_getElem?;intro k;simp only[List.getElem?_map,List.getElem?_take];by_cases f:k<n
  ·rw[if_pos f,List.getElem?_range f,List.getElem?_drop,Array.getElem?_toList,Array.getElem?_eq_getElem (by omega)];simp[Array.getD_eq_getD_getElem?,Array.getElem?_eq_getElem (show o+k<a.size by omega)]
  ·rw[if_neg f,List.getElem?_eq_none (by simp;omega)];rfl
theorem Vu {x p:Value} {r:R} (h:cQ σ x=some r) (g:VR D ι x p):AF P D ι σ w (Conv.bytesToString p) r:=by
 unfold cQ at h
 split at h
 ·rename_i a
  split at h
  ·rename_i id B;rw[BG B] at g;obtain⟨q,l,c,rfl,N,j⟩:=Cz g
   split at h
   ·rename_i d C;cases h;refine AF.same (w':=w) (v':=.string (bs d)) (λE=> ?_) rfl rfl;refine⟨?_,.sym _ rfl,rfl,rfl,rfl⟩;have m:=AA8 C (.inr (.inl (by simp))) E;rcases m.rd with⟨⟨O,F,e⟩,G⟩|⟨b,o,F,H,Q,fr,g1,I,g3,g4,s,_⟩
    ·rw[j] at e;cases e;subst G;cases q with
     |none=>rfl
     |some S=>rfl
    ·rw[j] at g1;cases g1;simp only[Ty.sz,Nat.mul_one] at g3 s;obtain⟨t,J,u⟩:=I1 (P:=P) I g3;have y:=LS d t.toList (by rw[u];simp;omega) λi x g=>by
      have n:=s i x g;have K:i<d.length:=by
       rcases Nat.lt_or_ge i d.length with h|h
       ·exact h
       ·rw[List.getElem?_eq_none h] at g;cases g
      rw[u,List.drop_take,List.take_take,List.drop_drop,Nat.mul_one];rwa[show min 1 (d.length-i)=1 by omega]
     have f:=Je (D:=D) (ι:=ι) P w (CZ d) t.toList d .empty (Gj d) (by rw[y]) λk v v' n A=>by
      rw[y,n] at A;cases A;exact Ar 8 v (by
       rw[Ct] at n;simp only[List.getElem?_map,Option.map_eq_some_iff] at n;obtain⟨_,_,rfl⟩:=n;rfl)
     have L:(⟨(ByteArray.empty).data++d.toArray⟩:ByteArray)=bs d:=by apply ByteArray.ext;simp[bs]
     rw[L] at f;simp only[Conv.bytesToString,Sem.run_bind,J w rfl,Result.andThen_ok];rw[<-Array.forIn_toList];have:∀z:Result ByteArray,z=.ok (bs d) w->(z.andThen λa w'=>(Pure.pure (Value.string a):Sem Value).run P w')=.ok (.string (bs d)) w:=λz M=>by rw[M];rfl
     exact this _ f
   ·cases h
  ·cases h
 ·cases h
end
open Go
section
variable {fz fz':Nat->Option (Array Value)} {t:Ty}
theorem Co.mono (h:∀b c,fz b=some c->fz' b=some c) {a:List t.Den} {d:List Value} (e:Co fz t a d):Co fz' t a d:=λi x f=>⟨(e i x f).1,Bj.mono h _ _ _ (e i x f).2⟩
theorem EL {α:Type} {l:List α} {i:Nat} {x:α} (h:l[i]?=some x):i<l.length:=by
 rcases Nat.lt_or_ge i l.length with a|a
 ·exact a
 ·rw[List.getElem?_eq_none a] at h;cases h
theorem Jk {n k s:Nat} (h:k<n):k*s+s<=n*s:=by
 have:=Nat.mul_le_mul_right s (show k+1<=n from h);rwa[Nat.succ_mul] at this
theorem Co.congr {a:List t.Den} {b ds:List Value} (d:Co fz t a b) (g:a.length*t.sz<=ds.length) (f:∀k,k<a.length*t.sz->ds[k]?=b[k]?):Co fz t a ds:=λi x c=>by
 have h:=Jk (s:=t.sz) (EL c);refine⟨by omega,?_⟩;have:=(d i x c).2;have e:(ds.drop (i*t.sz)).take t.sz=(b.drop (i*t.sz)).take t.sz:=by
  apply List.ext_getElem?;intro k;rw[List.getElem?_take,List.getElem?_take]
  split
  ·rw[List.getElem?_drop,List.getElem?_drop,f _ (by omega)]
  ·rfl
 rw[e];exact this
theorem Co.app {a d:List t.Den} {b ds:List Value} (g:Co fz t a b) (j:b.length=a.length*t.sz) (k:Co fz t d ds):Co fz t (a++d) (b++ds):=λi x h=>by
 by_cases f:i<a.length
 ·rw[List.getElem?_append_left f] at h;have c:=g i x h;have:=Jk (s:=t.sz) f;refine⟨by rw[List.length_append];omega,?_⟩;rw[List.drop_append_of_le_length (by omega),List.take_append_of_le_length (by rw[List.length_drop];omega)];exact c.2
 ·rw[List.getElem?_append_right (by omega)] at h;have c:=k _ x h;have e:i*t.sz=b.length+(i-a.length)*t.sz:=by
   rw[j,<-Nat.add_mul];congr 1;omega
  refine⟨by rw[List.length_append,e];omega,?_⟩;rw[e,<-List.drop_drop,List.drop_left];exact c.2
theorem Co.set {a:List t.Den} {f ds b:List Value} {i:Nat} {x:t.Den} (l:Co fz t a f) (p:i<a.length) (n:Bj fz t x b) (q:b.length=t.sz) (r:ds.length=f.length)
  (m:∀k,ds[k]?=if i*t.sz<=k/\k<i*t.sz+b.length then b[k-i*t.sz]? else f[k]?):Co fz t (a.set i x) ds:=λk y c=>by
 have g:k<a.length:=by have:=EL c;simpa using this
 have o:=Jk (s:=t.sz) g;have u:=(l k a[k] (List.getElem?_eq_getElem g)).1;refine⟨by omega,?_⟩;by_cases d:k=i
 ·subst d;rw[List.getElem?_set_self g] at c;cases c;have e:(ds.drop (k*t.sz)).take t.sz=b:=by
   apply List.ext_getElem?;intro j;rw[List.getElem?_take]
   split
   ·rw[List.getElem?_drop,m,if_pos (by omega)];congr 1;omega
   ·rw[List.getElem?_eq_none (by omega)]
  rw[e];exact n
 ·rw[List.getElem?_set_ne (Ne.symm d)] at c;have:=(l k y c).2;have e:(ds.drop (k*t.sz)).take t.sz=(f.drop (k*t.sz)).take t.sz:=by
   apply List.ext_getElem?;intro j;rw[List.getElem?_take,List.getElem?_take]
   split
   ·rename_i v;rw[List.getElem?_drop,List.getElem?_drop,m,if_neg];rintro⟨w,z⟩;rcases Nat.lt_or_ge k i with h|h
    ·have:=Jk (s:=t.sz) h;omega
    ·have:=Jk (s:=t.sz) (show i<k by omega);omega
   ·rfl
  rw[e];exact this
theorem MM:∀(t:Ty) (x:t.Den) (e:List Value),Bj fz t x e->∀v,v∈e->aX v=true:=by
 intro t
 induction t with
 |int k=>intro x e h v d;simp only[Bj] at h;subst h;rw[List.mem_singleton] at d;subst d;rfl
 |byte=>intro x e h v d;simp only[Bj] at h;subst h;rw[List.mem_singleton] at d;subst d;rfl
 |bool=>intro x e h v d;simp only[Bj] at h;subst h;rw[List.mem_singleton] at d;subst d;rfl
 |str=>intro x e h v d;simp only[Bj] at h;subst h;rw[List.mem_singleton] at d;subst d;rfl
 |unit=>intro x e h v d;simp only[Bj] at h;subst h;cases d
 |pair a b g i=>
  intro x e h v d;simp only[Bj] at h;obtain⟨c1,c2,rfl,m,n⟩:=h;rcases List.mem_append.1 d with d|d
  ·exact g _ _ m v d
  ·exact i _ _ n v d
 |slice a l=>
  intro x e h v d;simp only[Bj] at h;obtain⟨sv,rfl,h⟩:=h;rw[List.mem_singleton] at d;subst d;rcases h with⟨⟨q,c,rfl⟩,_⟩|⟨b,o,c,j,rfl,_⟩<;>rfl
 |err=>
  intro x e h v d;obtain⟨u,rfl,p⟩:=h;rw[List.mem_singleton] at d;subst d;cases v<;>first|rfl|cases p
 |fn f=>intro x e h v d;simp only[Bj] at h;subst h;rw[List.mem_singleton] at d;subst d;rfl
 |fv=>intro x e h v d;simp only[Bj] at h;subst h;rw[List.mem_singleton] at d;subst d;rfl
 |f64=>intro x e h v d;simp only[Bj] at h;subst h;rw[List.mem_singleton] at d;subst d;rfl
 |cx=>intro x e h v d;simp only[Bj] at h;subst h;rw[List.mem_singleton] at d;subst d;rfl
 |ref a l=>intro x e h v d;simp only[Bj] at h;obtain⟨b,o,j,rfl,_⟩:=h;rw[List.mem_singleton] at d;subst d;rfl
 |clo f a l=>intro x e h v d;simp only[Bj] at h;obtain⟨r,rfl,_⟩:=h;rw[List.mem_singleton] at d;subst d;rfl
theorem GH {a:List t.Den} {b:List Value} (h:Co fz t a b) (f:b.length=a.length*t.sz):∀v,v∈b->aX v=true:=by
 intro v g;obtain⟨k,i,rfl⟩:=List.mem_iff_getElem.1 g;have e:0<t.sz:=by
  rcases Nat.eq_zero_or_pos t.sz with c|c
  ·rw[c] at f;omega
  ·exact c
 have j:k/t.sz<a.length:=(Nat.div_lt_iff_lt_mul e).2 (by omega);have l:=(h _ _ (List.getElem?_eq_getElem j)).2;refine MM t _ _ l _ ?_;have m:=Nat.div_add_mod k t.sz;have d:=Nat.mod_lt k e;rw[List.mem_iff_getElem?];refine⟨k%t.sz,?_⟩;rw[List.getElem?_take,if_pos d,List.getElem?_drop,show k/t.sz*t.sz+k%t.sz=k by rw[Nat.mul_comm];exact m,List.getElem?_eq_getElem i]
end
section
variable {P:Program} {T:TE} (hT:T.OK P) {D:Nat->Prop} {ι:Nat->Reg} {σ:St} {w:World}
def NS (T:TE) (σ:St) (t:TypeId) (a v:Value):Option R:=
 match a with
 | .pointer (some ⟨id,i,some 0⟩)=>match σ.heap.get id,T.inf t with
   |some (.vec d e b),some f=>match v.cells.toList with
    |[]=>none
    |y::c=>bif Nat.beq f.size (c.length+1)&&Nat.beq d.sz (c.length+1)&&(y::c).all oneC then match As σ d (y::c) with
      |some ⟨x,[],[],[],g⟩=>some ⟨undef,((σ.put id (some (.vec d (e.set i x) b))).assumes g).assume (decide (i<e.length)),⟨[],[],[],[id]⟩⟩
      |_=>none
     else none
   |_,_=>none
 |_=>none
include hT
theorem Rh {t:TypeId} {a Z v v':Value} {r:R} (h:NS T σ t a v=some r) (F:r.σ.Ok) (ha:VR D ι a Z) (hv:VR D ι v v'):AF P D ι σ w (do Instr.storeAt t Z v';Pure.pure undef) r:=by
 unfold NS at h
 split at h
 ·rename_i id i;obtain⟨b,o,l,c0,rfl,hD,G⟩:=Jv ha
  split at h
  ·rename_i d xs n L M hi
   split at h
   ·cases h
   ·rename_i y E z;cases A:(Nat.beq L.size (E.length+1)&&Nat.beq d.sz (E.length+1)&&(y::E).all oneC)
    ·rw[A] at h;cases h
    rw[A,cond_true] at h;rw[Bool.and_eq_true,Bool.and_eq_true] at A;obtain⟨⟨B,f⟩,H⟩:=A;have B:=Nat.eq_of_beq_eq_true B;have f:=Nat.eq_of_beq_eq_true f
    split at h
    ·rename_i x ps hc;cases h;have g:i<xs.length:=of_decide_eq_true F.1;obtain⟨N, -⟩:=(BT _ _).1 F.2;refine AF.assume (AF.assumes ps ⟨Nat.le_refl _,λO=>⟨St.put_wf O (St.lv_lt O (St.lv_of M)) _,AFr.whole (by simp)⟩,λO hDn Q=> ?_⟩);obtain⟨K,e2,e3⟩:=Q.hd id _ (.inr (.inr (.inr (by simp)))) (St.hdr_of M)
     rcases e3 with⟨_,hn,_⟩|⟨g1,g2,cap,c,fr,g3,g4,g5,g6,g7,g8,g9,S⟩
     ·rw[hn] at g;simp at g
     obtain⟨rfl,rfl,rfl,rfl⟩:b=(ι id).blk/\o=(ι id).base/\l=xs.length/\cap=c0:=by
      rw[G] at g3;simp only[Value.slice.injEq,Option.some.injEq,Addr.mk.injEq,and_true] at g3;exact⟨g3.1.1,g3.1.2,g3.2.1,g3.2.2.symm⟩
     have U:Lu v=true:=by
      cases v with
      |chan r=>cases r with
       |none=>rfl
       |some r=>
        have V:[Value.chan (some r)]=y::E:=z;rw[<-V] at H;cases H
      |_=>rfl
     obtain⟨c1,c2⟩:=hv.cells U;have I:LR D ι (y::E) v'.cells.toList:=LR.of_AR ⟨by rw[<-z];simpa using c1,λk u u' h1 h2=>c2 k u u' (by rw[<-z] at h1;simpa using h1) (by simpa using h2)⟩;obtain⟨u1,u2,hu,m,W⟩:=Ea (is:=[]) (gs:=[]) (P:=P) (w:=w) (λid h=>by simp at h) (λid h=>by simp at h) d (y::E) v'.cells.toList _ hc (λid h=>by simp at h) (λid h=>by simp at h) N I
     cases W;rw[List.append_nil] at hu;subst hu;have m:Bj (ι id).fz d x v'.cells.toList:=Bj.mono (λb c h=>by rcases FO h with⟨_,h,_⟩|⟨_,h,_⟩<;>cases h) _ _ _ m;have p:v'.cells.toList.length=d.sz:=by rw[f];exact I.len.symm
     have hle:=Jk (s:=d.sz) g;have hcap:=Nat.mul_le_mul_right d.sz g4;have q:=DI P (ι id).blk ((ι id).base+i*(ι id).esz+0) n fr v'.cells.toList 0 c w g5 (by rw[K];omega) (MM d _ _ m) (λo h=>g9 o (Nat.lt_add_right _ h));rw[K] at q;refine⟨undef,ι,_,?_,.tuple #[] #[] rfl (by simp),Post.setVec M (w':={ w with heap:=w.heap.setIfInBounds (ι id).blk (.cells (BQ c ((ι id).base+i*d.sz+0+0) v'.cells.toList) n fr)}) ?_ (by simp) rfl rfl λb A X=> ?_⟩
     ·have Y:¬v'.cells.size≠L.size:=by
       have:v'.cells.toList.length=L.size:=by rw[p,B,f]
       simpa using this
      simp only[Instr.storeAt,Instr.sureAddr,storeVar,Sem.run_bind,Sem.run_pure,Result.andThen_ok,Ao hT hi];rw[if_neg Y,K,q];rfl
     ·have J:=Ap g5;refine⟨K,e2.keep λb c' A=> ?_,.inr ⟨g1,g2,cap,BQ c ((ι id).base+i*d.sz+0+0) v'.cells.toList,fr,by rw[List.length_set];exact G,by rw[List.length_set];exact g4,by simp[J],by rw[AJ];exact g6,g7,λj hj=>by rw[AJ];exact g8 j hj,λo Q=>g9 o (by rwa[AJ] at Q),?_⟩⟩
      ·have C:(ι id).blk≠b:=λe=>g2 ⟨c',by rw[e];exact A⟩
       simp[C]
      ·refine Co.set S g m p (by simp[AJ]) λk=> ?_
       rw[List.getElem?_drop,Array.getElem?_toList,Bo _ _ _ _ (by omega),List.getElem?_drop,Array.getElem?_toList];by_cases hk:i*d.sz<=k/\k<i*d.sz+v'.cells.toList.length
       ·rw[if_pos (by omega),if_pos hk,show(ι id).base+k-((ι id).base+i*d.sz+0+0)=k-i*d.sz by omega];exact(Array.getElem?_toList).symm
       ·rw[if_neg (by omega),if_neg hk];exact(Array.getElem?_toList).symm
     ·have C:(ι id).blk≠b:=λe=>X ⟨g1,e⟩
      simp[C]
    ·cases h
  ·cases h
 ·cases h
end
open Go
section
variable {P:Program} {T:TE} (hT:T.OK P) {D:Nat->Prop} {ι:Nat->Reg} {σ:St} {w:World}
def Dv (σ:St):List Nat->Bool
 |[]=>true
 |i::is=>match σ.heap.get i with
  |some _=>Dv σ is
  |none=>false
def Jl (σ:St):List Nat->Bool
 |[]=>true
 |i::is=>match σ.heap.get i with
  |some (.row _ _ false)=>Jl σ is
  |some (.vec _ _ _)=>Jl σ is
  |_=>false
def ZQ:Nat->List Nat->Bool
 |_,[]=>false
 |n,x::a=>bif Nat.beq n x then true else ZQ n a
def Dw:List Nat->List Nat->Bool
 |[],_=>false
 |i::is,l=>ZQ i l||Dw is l
theorem DM:∀{l:List Nat},Dv σ l=true->∀id,id∈l->Lv σ.H id
 |[],_,_,h=>by cases h
 |i::is,h,id,hm=>by
  simp only[Dv] at h
  split at h
  ·rename_i o a;rcases List.mem_cons.1 hm with rfl|hm
   ·exact St.lv_of a
   ·exact DM h id hm
  ·cases h
theorem Dx:∀{l:List Nat},Jl σ l=true->∀id,id∈l->Wr σ.H id
 |[],_,_,h=>by cases h
 |i::is,h,id,hm=>by
  simp only[Jl] at h
  split at h
  ·rename_i b e a;rcases List.mem_cons.1 hm with rfl|hm
   ·exact⟨_,St.hdr_of a,rfl⟩
   ·exact Dx h id hm
  ·rename_i t c e a;rcases List.mem_cons.1 hm with rfl|hm
   ·exact⟨_,St.hdr_of a,trivial⟩
   ·exact Dx h id hm
  ·cases h
theorem Kr {n:Nat}:∀{l:List Nat},ZQ n l=false->n∉l
 |[],_=>by simp
 |x::c,h=>by
  simp only[ZQ] at h;cases a:Nat.beq n x
  ·rw[a,cond_false] at h;have b:n≠x:=λe=>by rw[Cc e] at a;cases a
   simp only[List.mem_cons,not_or];exact⟨b,Kr h⟩
  ·rw[a] at h;cases h
theorem DN:∀{l m:List Nat},Dw l m=false->∀id,id∈l->id∉m
 |[],_,_,_,h=>by cases h
 |i::is,m,h,id,hm=>by
  simp only[Dw,Bool.or_eq_false_iff] at h;rcases List.mem_cons.1 hm with rfl|hm
  ·exact Kr h.1
  ·exact DN h.2 id hm
def Xs (σ:St) (t:Ty) (b:TypeId) (s:Value):Option (List t.Den×List Nat):=
 match s with
 | .slice none 0 0=>some ([],[])
 | .tuple a=>match a.toList with
   |[.chan (some 2),.pointer (some ⟨id,0,none⟩)]=>match σ.heap.get id with
    |some (.vec c d e)=>if h:c=t then(bif Nat.beq e b then some (h▸d,[id]) else none) else none
    |_=>none
   |_=>none
 |_=>none
def lY:Value->Bool
 | .tuple _=>true
 |_=>false
def Vv (σ:St) (t:Ty) (a:TypeId) (s x:Value):Option (List t.Den×List Nat):=
 match s with
 | .slice (some ⟨_,_,none⟩) 0 0=>bif lY x then some ([],[]) else none
 |s=>Xs σ t a s
def tL (t:Ty) (s:L8):Option (List t.Den):=match t with
 | .byte=>some s
 |_=>none
def ns (σ:St) (t:Ty) (x:Value):Option (CD (List t.Den)):=
 match Bm x with
 |some (.string s)=>match tL t (C8 s) with
  |some l=>some ⟨l,[],[],[],[]⟩
  |none=>none
 |_=>As σ (.slice t) [x]
def cR (T:TE) (vt:TypeId->Option Ty) (σ:St) (args:Array TypeId) (s x:Value):Option R:=
 match args.toList with
 |f::xT::_=>match T.und f,T.und xT with
  |some (.slice a),some d=>bif Kl d then none else match vt a,T.inf a with
   |some t,some e=>match e.zero,Vv σ t a s x,ns σ t x with
    |some z,some (b,gs),some ⟨c,_,i,g,h⟩=>
     bif Nat.beq e.size t.sz&&Nat.beq z.cells.size e.size&& !Nat.beq e.bytes 0&&Dv σ i&&Jl σ g&& !Dw gs (i++g) then
      some ⟨dt σ.next,(((σ.puts (gs++g)).new (.vec t (b++c) a)).assumes h).assume (decide ((2*(b.length+c.length)+400)*e.bytes<=281474976710656)),⟨[],i,[],gs++g⟩⟩
     else none
    |_,_,_=>none
   |_,_=>none
  |_,_=>none
 |_=>none
theorem cS {t:Ty} {x m:Value} {c:CD (List t.Den)} {is gs:List Nat} (h:ns σ t x=some c) (E:VR D ι x m) (G:∀id,id∈c.i->id∈is) (I:∀id,id∈c.g->id∈gs) (J:C5 c.p)
  (hd:∀id,id∈is\/id∈gs->∀x,σ.H.hdr id=some x->Am P ι id w x) (u:∀id,id∈gs->∀k v,Lv σ.H id->σ.H.cell id k=some v->BL D ι id w k v):
  (∀w,(Builtin.lenOf m).run P w=.ok c.x.length w)/\∃new:Array Value,(∀w':World,w'.heap=w.heap->(Builtin.firstCells t.sz c.x.length m).run P w'=.ok new w')/\new.toList.length=c.x.length*t.sz/\Co (Gv ι is gs w) t c.x new.toList:=by
 unfold ns at h
 split at h
 ·rename_i s r;obtain⟨rfl,_⟩:=AZ r E;unfold tL at h
  split at h
  ·rename_i l y
   split at y
   ·cases y;cases h;refine⟨λ_=>rfl,(CZ (C8 s)).toArray,λw' _=> ?_,by simp[Ej,Ty.sz],λk x j=> ?_⟩
    ·simp only[Builtin.firstCells,Sem.run_pure];congr 1;apply Array.ext';rw[Ct];show(Array.map (λb=>Value.int IntKind.u8 b.toNat) (s.extract 0 (C8 s).length).data).toList=_;have:s.extract 0 (C8 s).length=s:=by rw[<-Da];exact ByteArray.extract_zero_size
     rw[this];simp[C8]
    ·have z:k<(C8 s).length:=EL j;simp only[Ty.sz,Nat.mul_one];refine⟨by rw[Ej];omega,?_⟩;have F:(CZ (C8 s))[k]?=some (.int .u8 x.toNat):=by rw[Ct,List.getElem?_map,j];rfl
     have f:k<(CZ (C8 s)).length:=by rw[Ej];exact z
     rw[List.getElem?_eq_getElem f,Option.some.injEq] at F;rw[List.drop_eq_getElem_cons f,List.take_succ_cons,List.take_zero,F];rfl
   ·cases y
  ·cases h
 ·obtain⟨U,V,r,d, -⟩:=Ea (is:=is) (gs:=gs) hd u (.slice t) [x] [m] c h G I J (.cons E .nil);simp only[Bj] at d;obtain⟨sv,rfl,d⟩:=d;simp only[List.singleton_append,List.cons.injEq] at r;obtain⟨rfl, -⟩:=r;rcases d with⟨⟨q,K,rfl⟩,L⟩|⟨b,o,K,A,rfl,M,N,W,O⟩
  ·rw[L];refine⟨λ_=>rfl,#[],λw' _=> ?_,by simp,λk x j=>by simp at j⟩;cases q with
   |none=>rfl
   |some a=>simp[Builtin.firstCells,loadCells,loadCellsFrom]
  ·obtain⟨e,fr,Q⟩:=Du b A M;obtain⟨R,S,B⟩:=I1 (P:=P) (n:=c.x.length*t.sz) Q N;refine⟨λ_=>rfl,R,λw' C=>S w' C,by rw[B];simp;omega,λk x j=> ?_⟩;have T:=Jk (s:=t.sz) (EL j);refine⟨by rw[B];simp;omega,?_⟩;have:=O k x j;rw[B,List.drop_take,List.take_take,List.drop_drop,show min t.sz (c.x.length*t.sz-k*t.sz)=t.sz by omega]
   exact this
theorem Pw {t:Ty} {b:TypeId} {s d:Value} {f:List t.Den} {gs:List Nat} (h:Xs σ t b s=some (f,gs)) (g:VR D ι s d):
  (gs=[]/\f=[]/\d=.slice none 0 0)\/∃id q l c,gs=[id]/\σ.heap.get id=some (.vec t f b)/\d=.slice q l c/\(ι id).sv=.slice q l c:=by
 unfold Xs at h
 split at h
 ·cases h;cases g;exact .inl ⟨rfl,rfl,rfl⟩
 ·rename_i a
  split at h
  ·rename_i id k;rw[BG k] at g;obtain⟨q,l,c,rfl,p,i⟩:=Cz g
   split at h
   ·rename_i r m e n
    split at h
    ·rename_i o;subst o;cases j:Nat.beq e b
     ·rw[j] at h;cases h
     rw[j] at h;cases h;have:=Nat.eq_of_beq_eq_true j;subst this;exact .inr ⟨id,q,l,c,rfl,n,rfl,i⟩
    ·cases h
   ·cases h
  ·cases h
 ·cases h
theorem NU {t:Ty} {a:TypeId} {s b x:Value} {d:List t.Den} {gs:List Nat} (h:Vv σ t a s x=some (d,gs)) (e:VR D ι s b):
  (gs=[]/\d=[]/\∃q,b=.slice q 0 0)\/∃id q l c,gs=[id]/\σ.heap.get id=some (.vec t d a)/\b=.slice q l c/\(ι id).sv=.slice q l c:=by
 unfold Vv at h
 split at h
 ·cases f:lY x
  ·rw[f] at h;cases h
  rw[f] at h;cases h;cases e;exact .inl ⟨rfl,rfl,_,rfl⟩
 ·rcases Pw h e with⟨g,i,j⟩|h
  ·exact .inl ⟨g,i,_,j⟩
  ·exact .inr h
include hT
theorem Vw {vt:TypeId->Option Ty} {args:Array TypeId} {ty:TypeId} {s s' x x':Value} {r:R} (h:cR T vt σ args s x=some r) (hok:r.σ.Ok) (hs:VR D ι s s') (hx:VR D ι x x'):
  AF P D ι σ w (Builtin.append_ args ty #[s',x']) r:=by
 unfold cR at h
 split at h
 ·rename_i sT xT rest I;have h0:args[0]?=some sT:=by rw[<-Array.getElem?_toList,I];rfl
  have h1:args[1]?=some xT:=by rw[<-Array.getElem?_toList,I];rfl
  split at h
  ·rename_i J d F G;cases hd:Kl d
   case true=>rw[hd] at h;cases h
   rw[hd,cond_false] at h;have hd:=Hc hd
   split at h
   ·rename_i t e hvt V
    split at h
    ·rename_i z p gs i r0 is g ps hz hl ha;cases u:(Nat.beq e.size t.sz&&Nat.beq z.cells.size e.size&& !Nat.beq e.bytes 0&&Dv σ is&&Jl σ g&& !Dw gs (is++g))
     ·rw[u] at h;cases h
     rw[u,cond_true] at h;simp only[Bool.and_eq_true,Bool.not_eq_true'] at u;obtain⟨⟨⟨⟨⟨A,b2⟩,b3⟩,b4⟩,W⟩,b6⟩:=u;have A:=Nat.eq_of_beq_eq_true A;have b2:=Nat.eq_of_beq_eq_true b2;have b3:e.bytes≠0:=λe=>by rw[Cc e] at b3;cases b3
     have b4:=DM b4;have W:=Dx W;have b6:=DN b6;cases h;have K:(2*(p.length+i.length)+400)*e.bytes<=2^48:=of_decide_eq_true hok.1;obtain⟨hps, -⟩:=(BT _ _).1 hok.2;have hwrs:∀id,id∈gs->Wr σ.H id:=λid X=>by
      rcases NU hl hs with⟨rfl, -⟩|⟨id0,q,l,c,rfl,h2, -⟩
      ·cases X
      ·rw[List.mem_singleton] at X;subst X;exact⟨_,St.hdr_of h2,trivial⟩
     have Y:∀id,id∈gs++g->Wr σ.H id:=λid X=>(List.mem_append.1 X).elim (hwrs id) (W id)
     refine AF.assume (AF.assumes ps ⟨by simp[St.new,St.puts_next],λZ=>(A4.puts (v:=undef)).2 Z,λZ hDn ho=> ?_⟩);obtain⟨m,new,hn,nl,y⟩:=cS (is:=is) (gs:=g) (P:=P) (w:=w) ha hx (λ_ h=>h) (λ_ h=>h) hps
      (λid X x=>ho.hd id x (X.elim (λh=>.inr (.inl h)) λh=>.inr (.inr (.inr (List.mem_append_right _ h)))))
      (λid X k v=>ho.ce id k v (.inr (.inr (.inr (List.mem_append_right _ X)))))
     have m:∀w,(Builtin.lenOf x').run P w=.ok i.length w:=m;have nl:new.toList.length=i.length*t.sz:=nl;have hn:∀w':World,w'.heap=w.heap->(Builtin.firstCells e.size i.length x').run P w'=.ok new w':=by rw[A];exact hn
     have y:Co (Gv ι is g w) t i new.toList:=y;have L:∀b,(∃c,Gv ι is g w b=some c)->(w.heap.size<=b/\b<w.heap.size)\/(∃k,k∈gs++g/\Wr σ.H k/\(ι k).Own b)\/∃k,(k∈is\/k∈gs++g)/\Lv σ.H k/\(ι k).Fz b:=λb ⟨c,hc⟩=>by
      rcases FO hc with⟨k,k1,k2⟩|⟨k,k1,k2|k2⟩
      ·exact .inr (.inr ⟨k,.inl k1,b4 k k1,k2⟩)
      ·exact .inr (.inl ⟨k,List.mem_append_right _ k1,W k k1,k2⟩)
      ·exact .inr (.inr ⟨k,.inr (List.mem_append_right _ k1),(W k k1).lv,k2⟩)
     rcases NU hl hs with⟨rfl,rfl,q,rfl⟩|⟨id,q,l,c,rfl,hg,rfl,hsv⟩
     ·
      by_cases hy:i.length=0
      ·have hy0:i=[]:=List.length_eq_zero_iff.1 hy;subst hy0;refine⟨.slice q 0 0,EG ι σ.next ⟨0,0,0,t.sz,false,λ_=>none,.slice q 0 0⟩,w,?_,.dat _ _ _ _ (.inr (St.rng_puts.2 rfl)) (by rw[AV]),?_⟩
       ·rw[CR hT h0 h1 F G hd V m (Nat.le_refl 0) (hn w rfl)];have M:new.toList=[]:=List.length_eq_zero_iff.1 (by rw[nl];simp);rw[M];cases q<;>rfl
       ·exact Db (gs:=g) (rc:=[]) (rh:=is) Z ⟨by rw[AV],λb c h=>(by rw[AV] at h;cases h),.inl ⟨by rw[AV],rfl,q,by rw[AV]⟩⟩ (Nat.le_refl _) rfl rfl (λ_ _ _=>rfl) (λid h=>(W id h).lv) (λh=>by cases h) (λb ⟨c,h⟩=>by cases h)
      ·obtain⟨a,w',c1,c2,c3,c4,c5⟩:=Cu hT (ty:=ty) (w:=w) (base:=q) (sLen:=0) (cap:=0) (old:=#[]) (n:=i.length) h0 h1 F G hd V hz b3 (by simpa using K) m (by omega) (λw' _=>by cases q<;>simp[Builtin.firstCells,loadCells,loadCellsFrom]) hn;rw[Nat.zero_add] at c1 c2 c5;refine⟨_,EG ι σ.next (B5 w.heap.size 0 (#[]++new++Builtin.zeroCells z.cells (a-i.length)).size t.sz (Gv ι is g w) (.slice (some ⟨w.heap.size,0,none⟩) i.length a)),w',c5,.dat _ _ _ _ (.inr (St.rng_puts.2 rfl)) (by rw[AV];rfl),?_⟩
       have f:(#[]++new++Builtin.zeroCells z.cells (a-i.length)).size=a*t.sz:=by
        have:new.size=i.length*t.sz:=by simpa using nl
        simp only[Array.empty_append,Array.size_append,Ac,b2,A,this,<-Nat.add_mul];congr 1;omega
       refine Db (gs:=g) (rc:=[]) (rh:=is) Z ?_ (by rw[c2];simp) c3 c4 (λb u _=>by rw[c2];exact Af w _ u) (λid h=>(W id h).lv) (λ_=>.inl ⟨Nat.le_refl _,by rw[c2];simp[B5]⟩) (λb u=>(L b u).imp (λh=>by omega) λh=>h);simp only[Am,AV];refine⟨rfl,λb c h=> ?_,.inr ⟨rfl,λ⟨c,h⟩=> ?_,a,_,(0,0),rfl,by simpa using c1,by rw[c2];exact Al w _,by simp[B5],by simp only[B5];rw[f];exact Nat.le_refl _,λj S=> ?_,λo _ h=>by simp at h,?_⟩⟩
       ·obtain⟨e',fr,B⟩:=Du b c h;exact⟨e',fr,by rw[c2,Af w _ (Ap B)];exact B⟩
       ·obtain⟨e',fr,B⟩:=Du _ c h;have:=Ap B;simp only[B5] at this;omega
       ·rw[hT.inf _ _ V] at S;cases S;exact⟨A.symm,Nat.zero_mod _,by rw[f,A];exact Nat.mul_mod_left _ _⟩
       ·simp only[List.nil_append];refine y.congr ?_ λk N=> ?_
        ·simp only[B5,List.drop_zero,Array.length_toList];rw[f];exact Nat.mul_le_mul_right _ c1
        ·simp only[B5,List.drop_zero,Array.empty_append,Array.toList_append];rw[List.getElem?_append_left (by omega)]
     ·obtain⟨k1,k2,k3⟩:=ho.hd id _ (.inr (.inr (.inr (by simp)))) (St.hdr_of hg);have O:∀k,k∈is\/k∈g->k≠id:=λk N e=>b6 id (by simp) (by subst e;exact List.mem_append.2 N)
      let IJ:Nat->Option (Array Value):=λb=>match(ι id).fz b with|some c=>some c|none=>Gv ι is g w b
      have u1:∀b c,(ι id).fz b=some c->IJ b=some c:=λb c h=>by simp only[IJ,h]
      have u2:∀b c,Gv ι is g w b=some c->IJ b=some c:=λb c h=>by
       simp only[IJ]
       split
       ·rename_i c' hc';obtain⟨_,_,C⟩:=Du b c h;obtain⟨_,_,U⟩:=k2 b c' hc';rw[C] at U;cases U;rfl
       ·exact h
      have u3:∀b c,IJ b=some c->(ι id).fz b=some c\/Gv ι is g w b=some c:=λb c h=>by
       simp only[IJ] at h
       split at h
       ·rename_i c' hc';cases h;exact .inl hc'
       ·exact .inr h
      have uok:Bs IJ w:=λb c h=>(u3 b c h).elim (k2 b c) (Du b c)
      have uf:∀b,(∃c,IJ b=some c)->(∃k,k∈[id]++g/\Wr σ.H k/\(ι k).Own b)\/∃k,(k∈is\/k∈[id]++g)/\Lv σ.H k/\(ι k).Fz b:=λb ⟨c,hc⟩=>by
       rcases u3 b c hc with h|h
       ·exact .inr ⟨id,.inr (by simp),St.lv_of hg,c,h⟩
       ·exact(L b ⟨c,h⟩).elim (λh=>by omega) λh=>h
      rcases k3 with⟨j1,j2,q',j3⟩|⟨j1,j2,cap,c0,fr,j3,j4,j5,j6,j7,j8,j9,j10⟩
      ·
       rw[hsv] at j3;cases j3;have j2:p=[]:=j2;subst j2;by_cases hy:i.length=0
       ·have hy0:i=[]:=List.length_eq_zero_iff.1 hy;subst hy0;refine⟨.slice q 0 0,EG ι σ.next ⟨0,0,0,t.sz,false,λ_=>none,.slice q 0 0⟩,w,?_,.dat _ _ _ _ (.inr (St.rng_puts.2 rfl)) (by rw[AV]),?_⟩
        ·rw[CR hT h0 h1 F G hd V m (Nat.le_refl 0) (hn w rfl)];have M:new.toList=[]:=List.length_eq_zero_iff.1 (by rw[nl];simp);rw[M];cases q<;>rfl
        ·exact Db (gs:=[id]++g) (rc:=[]) (rh:=is) Z ⟨by rw[AV],λb c h=>(by rw[AV] at h;cases h),.inl ⟨by rw[AV],rfl,q,by rw[AV]⟩⟩ (Nat.le_refl _) rfl rfl (λ_ _ _=>rfl) (λid h=>(Y id h).lv) (λh=>by cases h) (λb ⟨c,h⟩=>by cases h)
       ·obtain⟨a,w',c1,c2,c3,c4,c5⟩:=Cu hT (ty:=ty) (w:=w) (base:=q) (sLen:=0) (cap:=0) (old:=#[]) (n:=i.length) h0 h1 F G hd V hz b3 (by simpa using K) m (by omega) (λw' _=>by cases q<;>simp[Builtin.firstCells,loadCells,loadCellsFrom]) hn;rw[Nat.zero_add] at c1 c2 c5;refine⟨_,EG ι σ.next (B5 w.heap.size 0 (#[]++new++Builtin.zeroCells z.cells (a-i.length)).size t.sz (Gv ι is g w) (.slice (some ⟨w.heap.size,0,none⟩) i.length a)),w',c5,.dat _ _ _ _ (.inr (St.rng_puts.2 rfl)) (by rw[AV];rfl),?_⟩
        have f:(#[]++new++Builtin.zeroCells z.cells (a-i.length)).size=a*t.sz:=by
         have:new.size=i.length*t.sz:=by simpa using nl
         simp only[Array.empty_append,Array.size_append,Ac,b2,A,this,<-Nat.add_mul];congr 1;omega
        refine Db (gs:=[id]++g) (rc:=[]) (rh:=is) Z ?_ (by rw[c2];simp) c3 c4 (λb u _=>by rw[c2];exact Af w _ u) (λid h=>(Y id h).lv) (λ_=>.inl ⟨Nat.le_refl _,by rw[c2];simp[B5]⟩) (λb u=>(L b u).imp (λh=>by omega) λh=>h);simp only[Am,AV];refine⟨rfl,λb c h=> ?_,.inr ⟨rfl,λ⟨c,h⟩=> ?_,a,_,(0,0),rfl,by simpa using c1,by rw[c2];exact Al w _,by simp[B5],by simp only[B5];rw[f];exact Nat.le_refl _,λj S=> ?_,λo _ h=>by simp at h,?_⟩⟩
        ·obtain⟨e',fr,B⟩:=Du b c h;exact⟨e',fr,by rw[c2,Af w _ (Ap B)];exact B⟩
        ·obtain⟨e',fr,B⟩:=Du _ c h;have:=Ap B;simp only[B5] at this;omega
        ·rw[hT.inf _ _ V] at S;cases S;exact⟨A.symm,Nat.zero_mod _,by rw[f,A];exact Nat.mul_mod_left _ _⟩
        ·simp only[List.nil_append];refine y.congr ?_ λk N=> ?_
         ·simp only[B5,List.drop_zero,Array.length_toList];rw[f];exact Nat.mul_le_mul_right _ c1
         ·simp only[B5,List.drop_zero,Array.empty_append,Array.toList_append];rw[List.getElem?_append_left (by omega)]
      ·
       obtain⟨rfl,rfl,rfl⟩:q=some ⟨(ι id).blk,(ι id).base,none⟩/\l=p.length/\cap=c:=by
        rw[hsv] at j3;simp only[Value.slice.injEq] at j3;exact⟨j3.1,j3.2.1,j3.2.2.symm⟩
       have hcap:=Nat.mul_le_mul_right t.sz j4;have E:∀b c,IJ b=some c->b≠(ι id).blk:=λb c h e=>by
        subst e;rcases u3 _ c h with h|h
        ·exact j2 ⟨c,h⟩
        ·rcases FO h with⟨k,C,U⟩|⟨k,C,U|U⟩
         ·exact(ho.inj id k (.inr (.inr (.inr (by simp)))) (.inr (.inl C)) ⟨_,St.hdr_of hg,trivial⟩ (b4 k C) (λe=>O k (.inl C) e.symm) _ ⟨j1,rfl⟩).2 U
         ·exact(ho.inj id k (.inr (.inr (.inr (by simp)))) (.inr (.inr (.inr (List.mem_append_right _ C)))) ⟨_,St.hdr_of hg,trivial⟩ (W k C).lv (λe=>O k (.inr C) e.symm) _ ⟨j1,rfl⟩).1 U
         ·exact(ho.inj id k (.inr (.inr (.inr (by simp)))) (.inr (.inr (.inr (List.mem_append_right _ C)))) ⟨_,St.hdr_of hg,trivial⟩ (W k C).lv (λe=>O k (.inr C) e.symm) _ ⟨j1,rfl⟩).2 U
       by_cases Q:p.length+i.length<=cap
       ·
        have hcap2:=Nat.mul_le_mul_right t.sz Q;rw[Nat.add_mul] at hcap2;have hrun:=DI P (ι id).blk ((ι id).base+p.length*t.sz) J fr new.toList 0 c0 w j5 (by omega) (GH y nl) (λo h=>j9 o (Nat.lt_add_right _ h));refine⟨.slice (some ⟨(ι id).blk,(ι id).base,none⟩) (p.length+i.length) cap,EG ι σ.next (B5 (ι id).blk (ι id).base (ι id).room t.sz IJ (.slice (some ⟨(ι id).blk,(ι id).base,none⟩) (p.length+i.length) cap)),{ w with heap:=w.heap.setIfInBounds (ι id).blk (.cells (BQ c0 ((ι id).base+p.length*t.sz+0) new.toList) J fr)},?_,.dat _ _ _ _ (.inr (St.rng_puts.2 rfl)) (by rw[AV];rfl),?_⟩
        ·rw[CR hT h0 h1 F G hd V m Q (hn w rfl)];simp only[BF,A,hrun,Result.andThen_ok]
        have hne:∀b,b≠(ι id).blk->(w.heap.setIfInBounds (ι id).blk (.cells (BQ c0 ((ι id).base+p.length*t.sz+0) new.toList) J fr))[b]?=w.heap[b]?:=λb u=>by simp[Ne.symm u]
        refine Db (gs:=[id]++g) (rc:=[]) (rh:=is) Z ?_ (by simp) rfl rfl (λb u hx=>hne b λe=>hx id (by simp) ⟨_,St.hdr_of hg,trivial⟩ ⟨j1,e.symm⟩) (λid h=>(Y id h).lv) (λ_=>.inr ⟨id,by simp,⟨_,St.hdr_of hg,trivial⟩,j1,rfl⟩) (λb u=>.inr (uf b u));simp only[Am,AV];refine⟨rfl,uok.keep λb c h=>hne b (E b c h),.inr ⟨rfl,λ⟨c,h⟩=>E _ c h rfl,cap,BQ c0 ((ι id).base+p.length*t.sz+0) new.toList,fr,by simp[B5],by simpa using Q,by simp[B5,Ap j5],by rw[AJ];exact j6,j7,λj S=>by rw[AJ];exact j8 j S,λo ho=>j9 o (by rwa[AJ] at ho),?_⟩⟩
        have hA:Co IJ t p (((c0.toList.drop (ι id).base).take (p.length*t.sz))):=(j10.mono u1).congr (by simp;omega) λk N=>by rw[List.getElem?_take,if_pos N]
        refine(hA.app (by simp;omega) (y.mono u2)).congr ?_ λk N=> ?_
        ·simp only[B5,List.length_append,List.length_drop,Array.length_toList,AJ,Nat.add_mul];omega
        ·simp only[List.length_append,Nat.add_mul] at N;simp only[B5,List.getElem?_drop,Array.getElem?_toList];rw[Bo _ _ _ _ (by omega)];by_cases hk2:k<p.length*t.sz
         ·rw[if_neg (by omega),List.getElem?_append_left (by simp;omega),List.getElem?_take,if_pos hk2,List.getElem?_drop,Array.getElem?_toList]
         ·rw[if_pos (by omega),List.getElem?_append_right (by simp;omega)];congr 1;simp;omega
       ·
        obtain⟨oldc,o1,o2⟩:=I1 (P:=P) (w:=w) (o:=(ι id).base) (n:=p.length*t.sz) j5 (by omega);obtain⟨a,w',c1,c2,c3,c4,c5⟩:=Cu hT (ty:=ty) (w:=w) (base:=some ⟨(ι id).blk,(ι id).base,none⟩) (sLen:=p.length) (cap:=cap) (old:=oldc) (n:=i.length) h0 h1 F G hd V hz b3 K m (by omega) (λw' hw'=>by simp only[Builtin.firstCells,A];exact o1 w' hw') hn
        have hol:oldc.toList.length=p.length*t.sz:=by rw[o2];simp;omega
        refine⟨_,EG ι σ.next (B5 w.heap.size 0 (oldc++new++Builtin.zeroCells z.cells (a-(p.length+i.length))).size t.sz IJ (.slice (some ⟨w.heap.size,0,none⟩) (p.length+i.length) a)),w',c5,.dat _ _ _ _ (.inr (St.rng_puts.2 rfl)) (by rw[AV];rfl),?_⟩;have f:(oldc++new++Builtin.zeroCells z.cells (a-(p.length+i.length))).size=a*t.sz:=by
         have C:new.size=i.length*t.sz:=by simpa using nl
         have U:oldc.size=p.length*t.sz:=by simpa using hol
         simp only[Array.size_append,Ac,b2,A,C,U,<-Nat.add_mul];congr 1;omega
        refine Db (gs:=[id]++g) (rc:=[]) (rh:=is) Z ?_ (by rw[c2];simp) c3 c4 (λb u _=>by rw[c2];exact Af w _ u) (λid h=>(Y id h).lv) (λ_=>.inl ⟨Nat.le_refl _,by rw[c2];simp[B5]⟩) (λb u=>.inr (uf b u));simp only[Am,AV];refine⟨rfl,λb c h=> ?_,.inr ⟨rfl,λ⟨c,h⟩=> ?_,a,_,(0,0),by simp[B5],by simpa using c1,by rw[c2];exact Al w _,by simp[B5],by simp only[B5];rw[f];exact Nat.le_refl _,λj S=> ?_,λo _ h=>by simp at h,?_⟩⟩
        ·obtain⟨e',fr',B⟩:=uok b c h;exact⟨e',fr',by rw[c2,Af w _ (Ap B)];exact B⟩
        ·obtain⟨e',fr',B⟩:=uok _ c h;have:=Ap B;simp only[B5] at this;omega
        ·rw[hT.inf _ _ V] at S;cases S;exact⟨A.symm,Nat.zero_mod _,by rw[f,A];exact Nat.mul_mod_left _ _⟩
        ·have hA:Co IJ t p oldc.toList:=(j10.mono u1).congr (by omega) λk N=>by rw[o2,List.getElem?_take,if_pos N]
         refine(hA.app hol (y.mono u2)).congr ?_ λk N=> ?_
         ·simp only[B5,List.drop_zero,Array.length_toList,List.length_append];rw[f];exact Nat.mul_le_mul_right _ c1
         ·simp only[List.length_append,Nat.add_mul] at N;simp only[B5,List.drop_zero,Array.toList_append];rw[List.getElem?_append_left (by simp only[List.length_append];omega)]
    ·cases h
   ·cases h
  ·cases h
 ·cases h
end
open Go
section
variable {P:Program} {T:TE} (hT:T.OK P) {D:Nat->Prop} {ι:Nat->Reg} {σ:St} {w:World}
theorem LR.append {a b c d:List Value} (h:LR D ι a b) (e:LR D ι c d):LR D ι (a++c) (b++d):=by
 induction h with
 |nil=>exact e
 |cons h _ f=>exact .cons h f
theorem LR.take:∀(n:Nat) {vs a:List Value},LR D ι vs a->LR D ι (vs.take n) (a.take n)
 |0,_,_,_=>.nil
 |_+1,_,_,.nil=>.nil
 |n+1,_,_,.cons h t=>.cons h (LR.take n t)
def lZ:List DC->Option (List Value)
 |[]=>some []
 | .v x::r=>match lZ r with
   |some l=>some (x::l)
   |none=>none
 |_::_=>none
theorem Xt {fz:Nat->Option (Array Value)}:∀{l:List DC} {vs a:List Value},lZ l=some vs->l.length=a.length->(∀(k:Nat) d u,l[k]?=some d->a[k]?=some u->oJ fz d u)->LR D ι vs a
 |[],vs,a,h,b,_=>by
  simp only[lZ,Option.some.injEq] at h;subst h;rw[List.length_eq_zero_iff.1 b.symm];exact .nil
 | .v x::r,vs,a,h,b,hd=>by
   cases a with
   |nil=>simp at b
   |cons u a=>
    simp only[lZ] at h
    split at h
    ·rename_i l c;cases h;obtain⟨rfl,f⟩:=hd 0 _ u rfl rfl;exact .cons (.sym u f) (Xt c (by simpa using b) λk d g i j=>hd (k+1) d g (by simpa using i) (by simpa using j))
    ·cases h
 | .s _ _::r,vs,a,h,_,_=>by simp[lZ] at h
 | .e _::r,vs,a,h,_,_=>by simp[lZ] at h
 | .k _::r,vs,a,h,_,_=>by simp[lZ] at h
def MN (T:TE) (σ:St) (t:TypeId) (a v:Value):Option R:=
 match a with
 | .pointer (some ⟨id,i,some j⟩)=>match σ.heap.get id,T.inf t with
   |some (.vec b e c),some f=>match v.cells.toList with
    |[]=>none
    |y::d=>match lZ (X8 b (e.getD i b.dflt)) with
     |some old=>bif Nat.beq f.size (d.length+1)&&Nat.ble (j+(d.length+1)) b.sz&&(y::d).all oneC then match As σ b (old.take j++((y::d)++old.drop (j+(d.length+1)))) with
      |some ⟨x,[],[],[],g⟩=>some ⟨undef,((σ.put id (some (.vec b (e.set i x) c))).assumes g).assume (decide (i<e.length)),⟨[],[],[],[id]⟩⟩
      |_=>none
      else none
     |none=>none
   |_,_=>none
 |_=>none
include hT
theorem O7 {t:TypeId} {a a' v v':Value} {r:R} (h:MN T σ t a v=some r) (K:r.σ.Ok) (ha:VR D ι a a') (hv:VR D ι v v'):AF P D ι σ w (do Instr.storeAt t a' v';Pure.pure undef) r:=by
 unfold MN at h
 split at h
 ·rename_i id i j;obtain⟨b,o,l,c0,rfl,hD,L⟩:=Jv ha
  split at h
  ·rename_i d J p ti hg hi
   split at h
   ·cases h
   ·rename_i y g C
    split at h
    ·rename_i old q;cases E:(Nat.beq ti.size (g.length+1)&&Nat.ble (j+(g.length+1)) d.sz&&(y::g).all oneC)
     ·rw[E] at h;cases h
     rw[E,cond_true] at h;rw[Bool.and_eq_true,Bool.and_eq_true] at E;obtain⟨⟨F,M⟩,N⟩:=E;have F:=Nat.eq_of_beq_eq_true F;have M:=Nat.le_of_ble_eq_true M
     split at h
     ·rename_i x ps hc;cases h;have f:i<J.length:=of_decide_eq_true K.1;obtain⟨hps, -⟩:=(BT _ _).1 K.2;refine AF.assume (AF.assumes ps ⟨Nat.le_refl _,λhw=>⟨St.put_wf hw (St.lv_lt hw (St.lv_of hg)) _,AFr.whole (by simp)⟩,λhw hDn ho=> ?_⟩);obtain⟨Y,e2,e3⟩:=ho.hd id _ (.inr (.inr (.inr (by simp)))) (St.hdr_of hg)
      rcases e3 with⟨_,hn,_⟩|⟨g1,g2,cap,c,fr,g3,g4,g5,g6,g7,g8,g9,O⟩
      ·rw[hn] at f;simp at f
      obtain⟨rfl,rfl,rfl,rfl⟩:b=(ι id).blk/\o=(ι id).base/\l=J.length/\cap=c0:=by
       rw[L] at g3;simp only[Value.slice.injEq,Option.some.injEq,Addr.mk.injEq,and_true] at g3;exact⟨g3.1.1,g3.1.2,g3.2.1,g3.2.2.symm⟩
      have hnj:Lu v=true:=by
       cases v with
       |chan r=>cases r with
        |none=>rfl
        |some r=>
         have hx2:[Value.chan (some r)]=y::g:=C;rw[<-hx2] at N;cases N
       |_=>rfl
      obtain⟨c1,c2⟩:=hv.cells hnj;have Q:LR D ι (y::g) v'.cells.toList:=LR.of_AR ⟨by rw[<-C];simpa using c1,λk u u' Z h2=>c2 k u u' (by rw[<-C] at Z;simpa using Z) (by simpa using h2)⟩;have G:v'.cells.toList.length=g.length+1:=Q.len.symm;have hel:J.getD i d.dflt=J[i]:=by rw[List.getD_eq_getElem?_getD,List.getElem?_eq_getElem f];rfl
      obtain⟨f1,f2⟩:=O i J[i] (List.getElem?_eq_getElem f);obtain⟨d1,d2,d3⟩:=I5 d J[i] _ f2;rw[hel] at q;have H:=Xt (D:=D) (ι:=ι) q (d2.trans d1.symm) d3;generalize hco:((c.toList.drop (ι id).base).drop (i*d.sz)).take d.sz=z at f2 d1 H;have S:=LR.append (LR.take j H) (LR.append Q (LR.drop (j+(g.length+1)) H))
      obtain⟨u1,u2,hu,n,hr2⟩:=Ea (is:=[]) (gs:=[]) (P:=P) (w:=w) (λid h=>by simp at h) (λid h=>by simp at h) d _ _ _ hc (λid h=>by simp at h) (λid h=>by simp at h) hps S;cases hr2;rw[List.append_nil] at hu;subst hu;have n:Bj (ι id).fz d x (z.take j++(v'.cells.toList++z.drop (j+(g.length+1)))):=Bj.mono (λb c h=>by rcases FO h with⟨_,h,_⟩|⟨_,h,_⟩<;>cases h) _ _ _ n
      have A:(z.take j++(v'.cells.toList++z.drop (j+(g.length+1)))).length=d.sz:=by
       simp only[List.length_append,List.length_take,List.length_drop,d1,G];omega
      have U:∀m,(z.take j++(v'.cells.toList++z.drop (j+(g.length+1))))[m]?=if j<=m/\m<j+v'.cells.toList.length then v'.cells.toList[m-j]? else z[m]?:=λm=>by
       by_cases Z:m<j
       ·rw[if_neg (by omega),List.getElem?_append_left (by rw[List.length_take];omega),List.getElem?_take,if_pos Z]
       ·rw[List.getElem?_append_right (by rw[List.length_take];omega),List.length_take,show min j z.length=j by omega];by_cases h2:m<j+v'.cells.toList.length
        ·rw[if_pos ⟨by omega,h2⟩,List.getElem?_append_left (by omega)]
        ·rw[if_neg (by omega),List.getElem?_append_right (by omega),List.getElem?_drop,G];congr 1;omega
      have hle:=Jk (s:=d.sz) f;have hcap:=Nat.mul_le_mul_right d.sz g4;have V:∀u,u∈v'.cells.toList->aX u=true:=λu hu=>MM d _ _ n u (List.mem_append_right _ (List.mem_append_left _ hu))
      have B:=DI P (ι id).blk ((ι id).base+i*(ι id).esz+j) p fr v'.cells.toList 0 c w g5 (by rw[Y];omega) V (λo h=>g9 o (Nat.lt_add_right _ h));rw[Y] at B;refine⟨undef,ι,_,?_,.tuple #[] #[] rfl (by simp),Post.setVec hg (w':={ w with heap:=w.heap.setIfInBounds (ι id).blk (.cells (BQ c ((ι id).base+i*d.sz+j+0) v'.cells.toList) p fr)}) ?_ (by simp) rfl rfl λb E hno=> ?_⟩
      ·have hsz:¬v'.cells.size≠ti.size:=by
        have:v'.cells.toList.length=ti.size:=by rw[G,F]
        simpa using this
       simp only[Instr.storeAt,Instr.sureAddr,storeVar,Sem.run_bind,Sem.run_pure,Result.andThen_ok,Ao hT hi];rw[if_neg hsz,Y,B];rfl
      ·have W:=Ap g5;refine⟨Y,e2.keep λb c' E=> ?_,.inr ⟨g1,g2,cap,BQ c ((ι id).base+i*d.sz+j+0) v'.cells.toList,fr,by rw[List.length_set];exact L,by rw[List.length_set];exact g4,by simp[W],by rw[AJ];exact g6,g7,λj hj=>by rw[AJ];exact g8 j hj,λo ho=>g9 o (by rwa[AJ] at ho),?_⟩⟩
       ·have I:(ι id).blk≠b:=λe=>g2 ⟨c',by rw[e];exact E⟩
        simp[I]
       ·refine Co.set O f n A (by simp[AJ]) λk=> ?_
        rw[A,U];rw[List.getElem?_drop,Array.getElem?_toList,Bo _ _ _ _ (by omega),List.getElem?_drop,Array.getElem?_toList];by_cases hk:i*d.sz<=k/\k<i*d.sz+d.sz
        ·rw[if_pos hk];by_cases X:j<=k-i*d.sz/\k-i*d.sz<j+v'.cells.toList.length
         ·rw[if_pos X,if_pos (by omega),show(ι id).base+k-((ι id).base+i*d.sz+j+0)=k-i*d.sz-j by omega];exact(Array.getElem?_toList).symm
         ·rw[if_neg X,if_neg (by omega),<-hco,List.getElem?_take,if_pos (by omega),List.getElem?_drop,List.getElem?_drop,Array.getElem?_toList];congr 1;omega
        ·rw[if_neg hk,if_neg (by omega)];exact(Array.getElem?_toList).symm
      ·have I:(ι id).blk≠b:=λe=>hno ⟨g1,e⟩
       simp[I]
     ·cases h
    ·cases h
  ·cases h
 ·cases h
omit hT
def ib (id:Nat) (c:Value):Bool:=match c with
 | .tuple a=>match a.toList with
   |[.chan (some 2),.pointer (some ⟨n,0,none⟩)]=>Nat.beq n id
   |_=>false
 |_=>false
theorem ZR {id:Nat} {c:Value} (h:ib id c=true):c=dt id:=by
 unfold ib at h
 split at h
 ·rename_i a
  split at h
  ·rename_i n b;rw[BG b,Nat.eq_of_beq_eq_true h]
  ·cases h
 ·cases h
def Xu (id:Nat):List Value->Nat->Option Nat
 |[],_=>none
 |c::r,k=>bif ib id c then some k else Xu id r (k+1)
theorem NV {id:Nat}:∀{b:List Value} {k n:Nat},Xu id b k=some n->k<=n/\b[n-k]?=some (dt id)
 |[],_,_,h=>by cases h
 |c::r,k,n,h=>by
  simp only[Xu] at h;cases a:ib id c
  ·rw[a,cond_false] at h;obtain⟨e,d⟩:=NV h;refine⟨by omega,?_⟩;rw[show n-k=(n-(k+1))+1 by omega,List.getElem?_cons_succ];exact d
  ·rw[a,cond_true] at h;cases h;rw[ZR a];exact⟨Nat.le_refl _,by simp⟩
def TL (σ:St) (id:Nat):Nat->Option (Nat×Nat×List Value×TypeId)
 |0=>none
 |j+1=>match σ.heap.get j with
  |some (.row a e false)=>match Xu id a 0 with
   |some k=>some (j,k,a,e)
   |none=>TL σ id j
  |_=>TL σ id j
theorem GJ {id:Nat}:∀{n j k:Nat} {a:List Value} {e:TypeId},TL σ id n=some (j,k,a,e)->σ.heap.get j=some (.row a e false)/\a[k]?=some (dt id)
 |0,_,_,_,_,h=>by cases h
 |n+1,j,k,a,e,h=>by
  simp only[TL] at h
  split at h
  ·rename_i b g c
   split at h
   ·rename_i i d;cases h;obtain⟨_,f⟩:=NV d;exact⟨c,by simpa using f⟩
   ·exact GJ h
  ·exact GJ h
theorem GK {gs:List Nat} {o:AO} {j:Nat} {d a:List Value} {e:TypeId} (g:σ.heap.get j=some (.row d e false)) (h:a.length=d.length) (x:Nat):
  (((σ.put j (some (.row a e false))).puts gs).new o).H.hdr x=if x=σ.next then some o.hd else if x∈gs then none else σ.H.hdr x:=by
 rw[St.new_hdr,St.puts_next,St.puts_hdr,St.put_hdr];by_cases b:x=σ.next
 ·rw[if_pos b,if_pos (show x=(σ.put j (some (.row a e false))).next from b)]
 ·rw[if_neg b,if_neg (show ¬x=(σ.put j (some (.row a e false))).next from b)];by_cases c:x∈gs
  ·rw[if_pos c,if_pos c]
  ·rw[if_neg c,if_neg c];by_cases f:x=j
   ·subst f;rw[if_pos rfl,St.hdr_of g];show some (Hd.row a.length e false)=some (Hd.row d.length e false);rw[h]
   ·rw[if_neg f]
theorem NW {gs:List Nat} {o:AO} {j:Nat} {a:List Value} {e:TypeId} (x q:Nat):
  (((σ.put j (some (.row a e false))).puts gs).new o).H.cell x q=if x=σ.next then DH (some o) q else if x∈gs then none else if x=j then a[q]? else σ.H.cell x q:=by
 rw[St.new_cell,St.puts_next,St.puts_cell,St.put_cell];rfl
theorem B4 {gs:List Nat} {o:AO} {j id:Nat} {r:Option AO}:σ.rng (((σ.put j r).puts gs).new o) id↔id=σ.next:=by
 simp only[St.rng,St.new,St.puts_next,St.put];omega
theorem cT {gs:List Nat} {rh:List Nat} {t:Ty} {B:List t.Den} {f:TypeId} {r:Reg} {w':World} {j k:Nat} {u:List Value} {e:TypeId} {v0:Value} (C:σ.wf) (g:σ.heap.get j=some (.row u e false)) (F:j∉gs)
  (p:BL (λi=>D i\/i=σ.next) (EG ι σ.next r) j w' k v0)
  (L:Am P (EG ι σ.next r) σ.next w' (.vec t B f)) (M:w.heap.size<=w'.heap.size) (G:w'.os=w.os) (z:w'.output=w.output)
  (N:∀b,b<w.heap.size->(∀id,id∈gs->Wr σ.H id->¬(ι id).Own b)->w'.heap[b]?=w.heap[b]?) (O:∀id,id∈gs->Lv σ.H id)
  (Q:r.own=true->(w.heap.size<=r.blk/\r.blk<w'.heap.size)\/∃k,k∈gs/\Wr σ.H k/\(ι k).Own r.blk)
  (R:∀b,r.Fz b->(w.heap.size<=b/\b<w'.heap.size)\/(∃k,k∈gs/\Wr σ.H k/\(ι k).Own b)\/∃k,(k∈rh\/k∈gs)/\Lv σ.H k/\(ι k).Fz b):
  Post P D (σ.rng (((σ.put j (some (.row (u.set k v0) e false))).puts gs).new (.vec t B f))) ι σ.H w ⟨[],rh,[(j,k)],gs⟩ (EG ι σ.next r) (((σ.put j (some (.row (u.set k v0) e false))).puts gs).new (.vec t B f)).H w' where
 io:=λid a=>Dz _ _ λe=>a (B4.2 e)
 size:=M
 os:=G
 out:=z
 hdr:=by
  intro id x hx c;rw[GK g (by simp)] at c;by_cases m:id=σ.next
  ·subst m;rw[if_pos rfl] at c;cases c;exact L
  ·rcases hx with hx|hx
   ·have hx:id∈gs:=hx;rw[if_neg m,if_pos hx] at c;cases c
   ·exact absurd (B4.1 hx) m
 cel:=by
  intro id q v hx lv c;rw[NW] at c;have hN:∀i,(λi=>D i\/i=σ.next) i->(λi=>D i\/σ.rng (((σ.put j (some (.row (u.set k v0) e false))).puts gs).new (.vec t B f)) i) i:=λi h=>h.imp (λx=>x) B4.2
  by_cases m:id=σ.next
  ·subst m;rw[if_pos rfl] at c;cases c
  ·rcases hx with(hx|hx)|hx
   ·have hx:(id,q)=(j,k):=by simpa using hx
    cases hx;rw[if_neg m,if_neg F,if_pos rfl] at c;have S:k<(u.set k v0).length:=EL c;rw[List.getElem?_set_self (by simpa using S)] at c;cases c;obtain⟨T,v',U,E⟩:=p;exact⟨T,v',U,E.mono hN λ_ _=>rfl⟩
   ·have hx:id∈gs:=hx;rw[if_neg m,if_pos hx] at c;cases c
   ·exact absurd (B4.1 hx) m
 ahdr:=λid a hx=>by rw[GK g (by simp),if_neg λe=>a (B4.2 e),if_neg (show ¬id∈gs from hx)]
 acel:=λid q a hx=>by
  rw[NW,if_neg λe=>a (B4.2 e),if_neg λh=>hx (.inr h)];by_cases E:id=j
  ·subst E;rw[if_pos rfl,St.cell_of g];by_cases J:q=k
   ·subst J;exact absurd (.inl (by simp)) hx
   ·rw[List.getElem?_set_ne (Ne.symm J)]
  ·rw[if_neg E]
 cfr:=λb l hx=>by rw[N b l hx];exact BC.refl _ _
 fresh:=λid a lv b l=>by
  obtain rfl:=B4.1 a;rw[AV] at l;rcases Q l.1 with h|⟨q,s,n,A⟩
  ·left;rw[<-l.2];exact h
  ·have d:q≠σ.next:=λe=>by have:=St.lv_lt C n.lv;omega
   refine .inr ⟨q,s,λh=>d (B4.1 h),n,λ⟨y,o⟩=> ?_,by rw[<-l.2];exact A⟩;rw[GK g (by simp),if_neg d,if_pos s] at o;cases o
 freshF:=λid a lv b l=>by
  obtain rfl:=B4.1 a;rw[AV] at l;rcases R b l with h|⟨q,s,n,A⟩|⟨q,s,n,A⟩
  ·exact .inl h
  ·have d:q≠σ.next:=λe=>by have:=St.lv_lt C n.lv;omega
   refine .inr (.inl ⟨q,s,λh=>d (B4.1 h),n,λ⟨y,o⟩=> ?_,A⟩);rw[GK g (by simp),if_neg d,if_pos s] at o;cases o
  ·have d:q≠σ.next:=λe=>by have:=St.lv_lt C n;omega
   exact .inr (.inr ⟨q,s.elim (λh=>.inr (.inl h)) λh=>.inr (.inr (.inr h)),λh=>d (B4.1 h),n,A⟩)
 dist:=λi j V g _ _ I=>by
  obtain rfl:=B4.1 V;exact absurd (B4.1 g).symm I
 nl:=λid a=>by
  obtain rfl:=B4.1 a;exact St.hdr_none C _ (Nat.le_refl _)
 wl:=λid q hx _=>by
  rcases hx with hx|hx
  ·have hx:(id,q)=(j,k):=by simpa using hx
   cases hx;exact St.lv_of g
  ·exact O id hx
 wrm:=λid a hx=>by
  by_cases K:id∈gs
  ·obtain⟨y,o,_⟩:=hx;rw[GK g (by simp),if_neg λe=>a (B4.2 e),if_pos K] at o;cases o
  ·exact hx.of_hdr (by rw[GK g (by simp),if_neg λe=>a (B4.2 e),if_neg K])
 wrow:=λid q hx a _=>by
  rcases hx with hx|hx
  ·have hx:(id,q)=(j,k):=by simpa using hx
   cases hx;exact⟨_,_,_,St.hdr_of g⟩
  ·exact absurd hx a
def MO (T:TE) (σ:St) (t:TypeId) (a v:Value):Option R:=
 match a with
 | .pointer (some ⟨id,i,some 0⟩)=>match σ.heap.get id,T.inf t with
   |some (.vec d f b),some h=>match v.cells.toList with
    |[]=>none
    |y::c=>bif Nat.beq h.size (c.length+1)&&Nat.beq d.sz (c.length+1)&&(y::c).all oneC then match As σ d (y::c) with
      |some ⟨x,[],is,g,l⟩=>match TL σ id σ.next with
       |some (j,k,m,e)=>bif Dv σ is&&Jl σ g&&(!Dw [id] (j::(is++g))&& !Dw [j] (is++g)) then
        some ⟨undef,((((σ.put j (some (.row (m.set k (dt σ.next)) e false))).puts (id::g)).new (.vec d (f.set i x) b)).assumes l).assume (decide (i<f.length)),⟨[],is,[(j,k)],id::g⟩⟩
        else none
       |none=>none
      |_=>none
     else none
   |_,_=>none
 |_=>none
theorem A4.rep {gs:List Nat} {o:AO} {v:Value} {rh:List Nat} {j k:Nat} {b:List Value} {e:TypeId} {v0:Value} (d:σ.heap.get j=some (.row b e false)):
  A4 σ ⟨v,((σ.put j (some (.row (b.set k v0) e false))).puts gs).new o,⟨[],rh,[(j,k)],gs⟩⟩:=
 ⟨by simp[St.new,St.puts_next,St.put],λg=>⟨St.new_wf (St.puts_wf (St.put_wf g (St.lv_lt g (St.lv_of d)) _) _) _,{
  h:=λid f a=>by rw[GK d (by simp),if_neg λe=>f (B4.2 e),if_neg (show ¬id∈gs from a)]
  c:=λid q f a=>by
   rw[NW,if_neg λe=>f (B4.2 e),if_neg λh=>a (.inr h)];by_cases i:id=j
   ·subst i;rw[if_pos rfl,St.cell_of d];by_cases l:q=k
    ·subst l;exact absurd (.inl (by simp)) a
    ·rw[List.getElem?_set_ne (Ne.symm l)]
   ·rw[if_neg i]
  ok:=λh=>by
   unfold St.Ok at h⊢;rwa[show(((σ.put j (some (.row (b.set k v0) e false))).puts gs).new o).pc=σ.pc from St.puts_pc gs] at h}⟩⟩
include hT
theorem O8 {t:TypeId} {a a' v v':Value} {r:R} (h:MO T σ t a v=some r) (X:r.σ.Ok) (ha:VR D ι a a') (hv:VR D ι v v'):AF P D ι σ w (do Instr.storeAt t a' v';Pure.pure undef) r:=by
 unfold MO at h
 split at h
 ·rename_i id i;obtain⟨b,o,l,c0,rfl,hD,Y⟩:=Jv ha
  split at h
  ·rename_i f xs p ti B hi
   split at h
   ·cases h
   ·rename_i y V N;cases C:(Nat.beq ti.size (V.length+1)&&Nat.beq f.sz (V.length+1)&&(y::V).all oneC)
    ·rw[C] at h;cases h
    rw[C,cond_true] at h;rw[Bool.and_eq_true,Bool.and_eq_true] at C;obtain⟨⟨O,E⟩,Z⟩:=C;have O:=Nat.eq_of_beq_eq_true O;have E:=Nat.eq_of_beq_eq_true E
    split at h
    ·rename_i x is g ps hc
     split at h
     ·rename_i j k cs e hloc;obtain⟨F,hjk⟩:=GJ hloc;cases G:(Dv σ is&&Jl σ g&&(!Dw [id] (j::(is++g))&& !Dw [j] (is++g)))
      ·rw[G] at h;cases h
      rw[G,cond_true] at h;simp only[Bool.and_eq_true,Bool.not_eq_true'] at G;obtain⟨⟨b4,Q⟩,b6,b7⟩:=G;have b4:=DM b4;have Q:=Dx Q;have b6:=DN b6;have b7:=DN b7;cases h;have I:i<xs.length:=of_decide_eq_true X.1;obtain⟨hps, -⟩:=(BT _ _).1 X.2;refine AF.assume (AF.assumes ps ⟨by simp[St.new,St.puts_next,St.put],λhw=>(A4.rep (v:=undef) F).2 hw,λhw hDn z=> ?_⟩)
      have K:j≠id:=λe=>b6 id (by simp) (by rw[e];simp)
      have A:∀q,q∈is\/q∈g->q≠id:=λq hq e=>b6 id (by simp) (by subst e;exact List.mem_cons_of_mem _ (List.mem_append.2 hq))
      have hjg:j∉id::g:=λh=>by
       rcases List.mem_cons.1 h with h|h
       ·exact K h
       ·exact b7 j (by simp) (List.mem_append_right _ h)
      obtain⟨e1,e2,e3⟩:=z.hd id _ (.inr (.inr (.inr (by simp)))) (St.hdr_of B);rcases e3 with⟨_,hn,_⟩|⟨g1,g2,cap,c,fr,g3,g4,g5,g6,g7,g8,g9,g10⟩
      ·rw[hn] at I;simp at I
      obtain⟨rfl,rfl,rfl,rfl⟩:b=(ι id).blk/\o=(ι id).base/\l=xs.length/\cap=c0:=by
       rw[Y] at g3;simp only[Value.slice.injEq,Option.some.injEq,Addr.mk.injEq,and_true] at g3;exact⟨g3.1.1,g3.1.2,g3.2.1,g3.2.2.symm⟩
      have hnj:Lu v=true:=by
       cases v with
       |chan r=>cases r with
        |none=>rfl
        |some r=>
         have hx2:[Value.chan (some r)]=y::V:=N;rw[<-hx2] at Z;cases Z
       |_=>rfl
      obtain⟨c1,c2⟩:=hv.cells hnj;have hlr:LR D ι (y::V) v'.cells.toList:=LR.of_AR ⟨by rw[<-N];simpa using c1,λk u u' h1 h2=>c2 k u u' (by rw[<-N] at h1;simpa using h1) (by simpa using h2)⟩;obtain⟨u1,u2,hu,J,hr2⟩:=Ea (is:=is) (gs:=g) (P:=P) (w:=w) (λq hm x=>z.hd q x (hm.elim (λh=>.inr (.inl h)) λh=>.inr (.inr (.inr (List.mem_cons_of_mem _ h)))))
       (λq hm k v=>z.ce q k v (.inr (.inr (.inr (List.mem_cons_of_mem _ hm))))) f (y::V) v'.cells.toList _ hc (λ_ h=>h) (λ_ h=>h) hps hlr
      cases hr2;rw[List.append_nil] at hu;subst hu;have J:Bj (Gv ι is g w) f x v'.cells.toList:=J;let IJ:Nat->Option (Array Value):=λb=>match(ι id).fz b with|some c=>some c|none=>Gv ι is g w b
      have u1:∀b c,(ι id).fz b=some c->IJ b=some c:=λb c h=>by simp only[IJ,h]
      have u2:∀b c,Gv ι is g w b=some c->IJ b=some c:=λb c h=>by
       simp only[IJ]
       split
       ·rename_i W S;obtain⟨_,_,d⟩:=Du b c h;obtain⟨_,_,m⟩:=e2 b W S;rw[d] at m;cases m;rfl
       ·exact h
      have u3:∀b c,IJ b=some c->(ι id).fz b=some c\/Gv ι is g w b=some c:=λb c h=>by
       simp only[IJ] at h
       split at h
       ·rename_i W S;cases h;exact .inl S
       ·exact .inr h
      have uok:Bs IJ w:=λb c h=>(u3 b c h).elim (e2 b c) (Du b c)
      have uf:∀b,(∃c,IJ b=some c)->(∃q,q∈id::g/\Wr σ.H q/\(ι q).Own b)\/∃q,(q∈is\/q∈id::g)/\Lv σ.H q/\(ι q).Fz b:=λb ⟨c,hc⟩=>by
       rcases u3 b c hc with h|h
       ·exact .inr ⟨id,.inr (by simp),St.lv_of B,c,h⟩
       ·rcases FO h with⟨q,d,m⟩|⟨q,d,m|m⟩
        ·exact .inr ⟨q,.inl d,b4 q d,m⟩
        ·exact .inl ⟨q,List.mem_cons_of_mem _ d,Q q d,m⟩
        ·exact .inr ⟨q,.inr (List.mem_cons_of_mem _ d),(Q q d).lv,m⟩
      have n:∀b c,IJ b=some c->b≠(ι id).blk:=λb c h e=>by
       subst e;rcases u3 _ c h with h|h
       ·exact g2 ⟨c,h⟩
       ·rcases FO h with⟨q,d,m⟩|⟨q,d,m|m⟩
        ·exact(z.inj id q (.inr (.inr (.inr (by simp)))) (.inr (.inl d)) ⟨_,St.hdr_of B,trivial⟩ (b4 q d) (λe=>A q (.inl d) e.symm) _ ⟨g1,rfl⟩).2 m
        ·exact(z.inj id q (.inr (.inr (.inr (by simp)))) (.inr (.inr (.inr (List.mem_cons_of_mem _ d)))) ⟨_,St.hdr_of B,trivial⟩ (Q q d).lv (λe=>A q (.inr d) e.symm) _ ⟨g1,rfl⟩).1 m
        ·exact(z.inj id q (.inr (.inr (.inr (by simp)))) (.inr (.inr (.inr (List.mem_cons_of_mem _ d)))) ⟨_,St.hdr_of B,trivial⟩ (Q q d).lv (λe=>A q (.inr d) e.symm) _ ⟨g1,rfl⟩).2 m
      have L:v'.cells.toList.length=f.sz:=by rw[E];exact hlr.len.symm
      have hle:=Jk (s:=f.sz) I;have hcap:=Nat.mul_le_mul_right f.sz g4;have M:=DI P (ι id).blk ((ι id).base+i*(ι id).esz+0) p fr v'.cells.toList 0 c w g5 (by rw[e1];omega) (MM f _ _ J) (λo h=>g9 o (Nat.lt_add_right _ h));rw[e1] at M;have hblk:=Ap g5;have U:∀b,b≠(ι id).blk->(w.heap.setIfInBounds (ι id).blk (.cells (BQ c ((ι id).base+i*f.sz+0+0) v'.cells.toList) p fr))[b]?=w.heap[b]?:=λb C=>by simp[Ne.symm C]
      have hnj2:σ.next≠j:=λe=>by have:=St.lv_lt hw (St.lv_of F);omega
      refine⟨undef,EG ι σ.next (B5 (ι id).blk (ι id).base (ι id).room f.sz IJ (ι id).sv),{ w with heap:=w.heap.setIfInBounds (ι id).blk (.cells (BQ c ((ι id).base+i*f.sz+0+0) v'.cells.toList) p fr)},?_,.tuple #[] #[] rfl (by simp),?_⟩
      ·have hsz:¬v'.cells.size≠ti.size:=by
        have:v'.cells.toList.length=ti.size:=by rw[L,O,E]
        simpa using this
       simp only[Instr.storeAt,Instr.sureAddr,storeVar,Sem.run_bind,Sem.run_pure,Result.andThen_ok,Ao hT hi];rw[if_neg hsz,e1,M];rfl
      ·refine cT (gs:=id::g) (rh:=is) hw F hjg ?_ ?_ (by simp) rfl rfl (λb C hx=>U b λe=>hx id (by simp) ⟨_,St.hdr_of B,trivial⟩ ⟨g1,e.symm⟩) (λq h=>by
         rcases List.mem_cons.1 h with rfl|h
         ·exact St.lv_of B
         ·exact(Q q h).lv) (λ_=>.inr ⟨id,by simp,⟨_,St.hdr_of B,trivial⟩,g1,rfl⟩) (λb C=>.inr (uf b C))
       ·
        obtain⟨p1,v1,p2,p3⟩:=z.ce j k (dt id) (.inr (.inr (.inl (by simp)))) (St.lv_of F) (by rw[St.cell_of F];exact hjk);obtain⟨d,m,q3,rfl,q4,q5⟩:=Cz p3;have hjb:(ι j).blk≠(ι id).blk:=λe=>by
         have hr:=(z.hd j _ (.inr (.inr (.inl ⟨k,by simp⟩))) (St.hdr_of F)).own_row;exact(z.inj id j (.inr (.inr (.inr (by simp)))) (.inr (.inr (.inl ⟨k,by simp⟩))) ⟨_,St.hdr_of B,trivial⟩ (St.lv_of F) (λe=>K e.symm) _ ⟨g1,rfl⟩).1 (by rw[<-e];exact hr)
        unfold BL;rw[Dz _ _ (Ne.symm hnj2)];refine⟨p1,_,?_,.dat _ _ _ _ (.inr rfl) (by rw[AV];exact q5)⟩;have:=U _ hjb;simp only[World.cell?] at p2⊢;rw[this];exact p2
       ·simp only[Am,AV];refine⟨rfl,uok.keep λb W h=>U b (n b W h),.inr ⟨rfl,λ⟨W,h⟩=>n _ W h rfl,cap,BQ c ((ι id).base+i*f.sz+0+0) v'.cells.toList,fr,by rw[List.length_set];exact Y,by rw[List.length_set];exact g4,by simp[B5,hblk],by rw[AJ];exact g6,g7,λj F=>by rw[AJ];exact g8 j F,λo z=>g9 o (by rwa[AJ] at z),?_⟩⟩
        refine Co.set (g10.mono u1) I (Bj.mono u2 _ _ _ J) L (by simp[AJ,B5]) λk=> ?_
        show((BQ c ((ι id).base+i*f.sz+0+0) v'.cells.toList).toList.drop (ι id).base)[k]?=_;rw[List.getElem?_drop,Array.getElem?_toList,Bo _ _ _ _ (by omega),List.getElem?_drop,Array.getElem?_toList];by_cases hk:i*f.sz<=k/\k<i*f.sz+v'.cells.toList.length
        ·rw[if_pos (by omega),if_pos hk,show(ι id).base+k-((ι id).base+i*f.sz+0+0)=k-i*f.sz by omega];exact(Array.getElem?_toList).symm
        ·rw[if_neg (by omega),if_neg hk];exact(Array.getElem?_toList).symm
     ·cases h
    ·cases h
  ·cases h
 ·cases h
omit hT
def Jm (T:TE) (σ:St) (t:TypeId) (a v:Value):Option R:=match NS T σ t a v with
 |some r=>some r
 |none=>match MN T σ t a v with
  |some r=>some r
  |none=>MO T σ t a v
include hT
theorem O9 {t:TypeId} {a f v v':Value} {r:R} (h:Jm T σ t a v=some r) (b:r.σ.Ok) (c:VR D ι a f) (d:VR D ι v v'):AF P D ι σ w (do Instr.storeAt t f v';Pure.pure undef) r:=by
 unfold Jm at h
 split at h
 ·rename_i g e;cases h;exact Rh hT e b c d
 ·split at h
  ·rename_i g e;cases h;exact O7 hT e b c d
  ·exact O8 hT h b c d
omit hT
def ic (z:Value):Bool:=match z.cells.toList with
 |[.int .u8 (.ofNat 0)]=>true
 |_=>false
theorem ZS {z:Value} (h:ic z=true):z.cells.toList=[.int .u8 0]:=by
 unfold ic at h
 split at h
 ·rename_i a;exact a
 ·cases h
def TM (T:TE) (σ:St) (t:TypeId) (l c:Value):Option R:=
 match Bm l,Bm c,T.und t with
 |some (.int _ n),some (.int _ m),some (.slice a)=>match T.inf a with
  |some e=>match e.zero with
   |some z=>bif Nat.beq e.size 1&&(Nat.beq e.bytes 1&&ic z) then
    some ⟨dt σ.next,(((σ.new (.vec .byte (List.replicate n.toNat 0) a)).assume (decide (n=m))).assume (decide (n<=1099511627776))).assume (decide (0<=n)),.nil⟩ else none
   |none=>none
  |none=>none
 |_,_,_=>none
include hT
theorem TN {t:TypeId} {l M c N:Value} {r:R} (h:TM T σ t l c=some r) (d:r.σ.Ok) (Q:VR D ι l M) (S:VR D ι c N):AF P D ι σ w (Instr.makeSlice t M N) r:=by
 unfold TM at h
 split at h
 ·rename_i k1 n k2 m u U V W;obtain⟨rfl, -⟩:=AZ U Q;obtain⟨rfl, -⟩:=AZ V S
  split at h
  ·rename_i e G
   split at h
   ·rename_i z X;cases q:(Nat.beq e.size 1&&(Nat.beq e.bytes 1&&ic z))
    ·rw[q] at h;cases h
    ·rw[q,cond_true] at h;rw[Bool.and_eq_true,Bool.and_eq_true] at q;obtain⟨g,I,s⟩:=q;have g:=Nat.eq_of_beq_eq_true g;have I:=Nat.eq_of_beq_eq_true I;have s:=ZS s;cases h;have Y:0<=n:=of_decide_eq_true d.1;have g1:n<=1099511627776:=of_decide_eq_true d.2.1;have Z:n=m:=of_decide_eq_true d.2.2.1
     subst Z;obtain⟨k,rfl⟩:=Int.eq_ofNat_of_zero_le Y;have g1:k<=1099511627776:=by omega
     refine AF.assume (AF.assume (AF.assume ⟨by simp[St.new],λJ=>⟨St.new_wf J _,AFr.new _ _ _⟩,λJ hD _=> ?_⟩));have hDn:¬D σ.next:=hD _ (by simp[St.rng,St.new]);have v:(E1 k z.cells.toList).length=k:=by rw[Ek,s];simp
     let c:Array Value:=(E1 k z.cells.toList).toArray;have y:c.size=k:=by simp only[c];rw[List.size_toArray,v]
     have A:(List.replicate ((k:Int)).toNat (0:UInt8)).length=k:=by rw[List.length_replicate];rfl
     let a:Reg:=B5 w.heap.size 0 c.size 1 (λ_=>none) (.slice (some ⟨w.heap.size,0,none⟩) (List.replicate ((k:Int)).toNat (0:UInt8)).length k);refine⟨.slice (some ⟨w.heap.size,0,none⟩) (List.replicate ((k:Int)).toNat (0:UInt8)).length k,EG ι σ.next a,{ w with heap:=w.heap.push (.cells c u (0,0))},?_,?_,?_⟩
     ·have e3:¬((e.bytes:Int)*(k:Int)>2^48):=by rw[I];omega
      have p:((((k:Int)<0||decide ((e.bytes:Int)*(k:Int)>2^48))||decide ((k:Int)<0)||decide ((k:Int)>(k:Int)))=true)=False:=by
       simp only[Bool.or_eq_true,decide_eq_true_eq,eq_iff_iff,iff_false];omega
      simp only[Instr.makeSlice,Sem.run_bind,AK hT W,Result.andThen_ok,asInt,asIntOf,Sem.run_pure,IF hT G,GG g1,p,if_false,run_askRoom,Ao hT G,Int.toNat_natCast,List.length_replicate];by_cases H:k*e.size=0
      ·rw[if_pos H];have h0:c=#[]:=Array.eq_empty_of_size_eq_zero (by rw[y];rw[g] at H;omega);rw[h0,H];have hr:∀f:Nat->Value,Array.map f (Array.range 0)=#[]:=λf=>Array.eq_empty_of_size_eq_zero (by simp)
       simp only[Sem.run_bind,Sem.run_pure,Result.andThen_ok,newRow,run_newObj,hr]
      ·rw[if_neg H];have K:z.cells.size=e.size:=by rw[g,<-Array.length_toList,s];rfl
       simp only[Sem.run_bind,Ei hT G X,Result.andThen_ok,Sem.run_pure,newRow,run_newObj];rw[<-K,RU]
     ·exact .dat _ _ _ _ (.inr (by simp[St.rng,St.new])) (by rw[AV];rfl)
     ·refine Db (gs:=[]) (rc:=[]) (rh:=[]) J ?_ (by simp) rfl rfl (λb q _=>Af w _ q) (λid h=>by cases h) (λ_=>.inl ⟨Nat.le_refl _,by simp[a,B5]⟩) (λb ⟨c,h⟩=>by cases h);simp only[Am,AV];refine⟨rfl,λb c h=>(by cases h),.inr ⟨rfl,λ⟨c,h⟩=>(by cases h),k,c,(0,0),rfl,by rw[A];exact Nat.le_refl _,Al w _,by simp[a,B5],?_,λj O=> ?_,λo ho B=> ?_,λi x B=> ?_⟩⟩
      ·simp only[Ty.sz,a,B5,Nat.mul_one];omega
      ·rw[hT.inf _ _ G] at O;cases O;exact⟨g.symm,by rw[g];exact Nat.mod_one _,by rw[g];exact Nat.mod_one _⟩
      ·simp only at B;omega
      ·have C:i<k:=by
        rcases Nat.lt_or_ge i (List.replicate ((k:Int)).toNat (0:UInt8)).length with h|h
        ·rw[A] at h;exact h
        ·rw[List.getElem?_eq_none h] at B;cases B
       have L:x=(0:UInt8):=by
        have:=List.mem_of_getElem? B;exact(List.mem_replicate.1 this).2
       subst L;have E:c.toList[i]?=some (.int .u8 0):=by
        show(E1 k z.cells.toList)[i]?=_;rw[Hg _ _ _ (by rw[s];simpa using C),s];show [Value.int .u8 0][i%1]?=_;rw[Nat.mod_one];rfl
       have F:i<c.toList.length:=by rw[Array.length_toList,y];exact C
       simp only[a,B5,List.drop_zero,Ty.sz,Nat.mul_one];refine⟨by omega,?_⟩;rw[List.getElem?_eq_getElem F,Option.some.injEq] at E;rw[List.drop_eq_getElem_cons F,List.take_succ_cons,List.take_zero,E];rfl
   ·cases h
  ·cases h
 ·cases h
end
end Go.Eng
end
end
end
section
noncomputable section
noncomputable section
namespace Go.Eng
open Go
def Jn (σ:St):Option SV->Option OpR
 |some (v,a)=>some (.val ⟨sy v,σ.assumes a,.nil⟩)
 |none=>none
def la (T:TE) (op:BinOp) (t:TypeId) (a b:Value):Option SV:=
 match Bm a,Bm b with
 |some (.bool x),some (.bool y)=>match T.und t with
  |some .bool=>cM op (.bool x) (.bool y)
  |_=>none
 |some a,some b=>cM op a b
 |_,_=>none
def cU:Operand->Bool
 | .const _=>true
 |_=>false
def nu (T:TE) (op:BinOp) (t:TypeId) (oy:Operand) (a b:Value):Option SV:=
 match ZO a,b,T.und t with
 |some e,.nilIface,some (.interface _)=>bif cU oy then match op with
   | .eql=>some (.bool e,[])
   | .neq=>some (.bool (!e),[])
   |_=>none
  else none
 |_,_,_=>none
def lb (T:TE) (op:BinOp) (t:TypeId) (oy:Operand) (a b:Value):Option SV:=
 match la T op t a b with
 |some r=>some r
 |none=>nu T op t oy a b
def ABr (E:Env) (op:BinOp) (t:TypeId) (oy:Operand) (a b:Value):Option SV:=
 match lb E.T op t oy a b with
 |some r=>some r
 |none=>oO E.T E.cmp op t a b
def Xv:Option Value->Option (Option Value)
 |none=>some none
 |some v=>match Bm v with
  |some u=>some (some u)
  |none=>none
def Hl:List Value->Option (List Value)
 |[]=>some []
 |v::vs=>match Bm v,Hl vs with
  |some u,some a=>some (u::a)
  |_,_=>none
def NX (T:TE) (σ:St) (t:TypeId) (x:Value) (lo a:Option Value):Option OpR:=
 match Tm T σ t x lo a with
 |some r=>some (.val r)
 |none=>match Bm x,Xv lo,Xv a with
  |some u,some l,some h=>Jn σ (nr T t u l h)
  |_,_,_=>none
def Hm (T:TE) (σ:St) (args:Array TypeId) (x y:Value):Option R:=
 match x with
 | .slice (some ⟨id,off,some 0⟩) 0 c=>bif Nat.beq c Ew then match ZG y with
   |some (_+1)=>GE T σ args (.slice (some ⟨id,off,none⟩) 0 Ew) y
   |_=>none
   else none
 |_=>none
def NY (T:TE) (σ:St) (b:Builtin) (argTypes:List TypeId) (args:List Value):Option OpR:=
 match b,args with
 | .append,[x,y]=>B6 (Hm T σ argTypes.toArray x y)
 | .len,[x]=>match sLen T σ argTypes x with
   |some r=>some (.val r)
   |none=>match Hl args with
    |some a=>Jn σ (tK T b argTypes a)
    |none=>none
 |_,_=>match Hl args with
  |some a=>Jn σ (tK T b argTypes a)
  |none=>none
def ZU (E:Env) (σ:St) (g:FuncId) (args:List Value):Option OpR:=
 match E.mnz g,args with
 |some a,[v]=>match Bm v,E.T.inf a with
  |some (.int .i64 (.ofNat n)),some e=>bif Nat.beq e.size 1&&Nat.ble n 281474976710656 then some (.val ⟨.slice (some ⟨σ.next,0,none⟩) n Ew,σ.new (.row (List.replicate n junk) a false),.nil⟩) else none
  |_,_=>none
 |_,_=>none
def ie (σ:St) (x:Value):Option R:=
 match x with
 | .slice (some ⟨id,off,none⟩) len _=>match σ.heap.get id with
   |some (.row a _ _)=>match DB a off len with
    |some l=>match Hl l with
     |some c=>match CC c with
      |some b=>some ⟨sy (.string (bs b)),σ,⟨GB id off len,[],[],[]⟩⟩
      |none=>none
     |none=>none
    |none=>none
   |_=>none
 |_=>none
def TP (T:TE) (σ:St) (src dst:TypeId) (x:Value):Option R:=
 match T.und src,T.und dst with
 |some (.slice e),some .string=>bif L1 (T.und e) then ie σ x else none
 |_,_=>none
def Dy (T:TE) (σ:St) (t:TypeId) (v u:Value):Option R:=
 match DE T σ t v u with
 |some r=>some r
 |none=>match Bm u with
  |some i=>CG T σ t v i
  |none=>none
def Jo (E:Env) (s:Tr Value) (σ:St) (o:Oper):Option OpR:=
 match o.op with
 | .load t a=>match av E.G s a with
   |some v=>B6 (Tk E.T σ t v)
   |none=>none
 | .binOp op t x y _=>match av E.G s x,av E.G s y with
   |some a,some b=>Jn σ (ABr E op t y a b)
   |_,_=>none
 | .unOp op _ x=>match av E.G s x with
   |some v=>match Bm v with
    |some u=>Jn σ (sUn op u)
    |none=>none
   |none=>none
 | .convert src dst x=>match av E.G s x with
   |some v=>match Bm v with
    |some u=>Jn σ (cN E.T src dst u)
    |none=>B6 (TP E.T σ src dst v)
   |none=>none
 | .slice t x lo d none=>match av E.G s x,bE E.G s lo,bE E.G s d with
   |some v,some l,some h=>NX E.T σ t v l h
   |_,_,_=>none
 | .fieldAddr t x f=>match av E.G s x with
   |some v=>B6 (Eo E.T σ t v f)
   |none=>none
 | .indexAddr t x i=>match av E.G s x,av E.G s i with
   |some v,some u=>B6 (Dy E.T σ t v u)
   |_,_=>none
 | .index t x i=>match av E.G s x,av E.G s i with
   |some v,some u=>match Bm v,Bm u with
    |some a,some b=>Jn σ (nq E.T t a b)
    |_,_=>none
   |_,_=>none
 | .call c=>match bD E.G s c.args.toList with
   |some args=>match c.callee with
    | .builtin b=>NY E.T σ b c.argTypes.toList args
    | .value f=>match av E.G s f with
      |some (.func (.func g) first captured)=>ZU E σ g (first.toList++args++captured.toList)
      |_=>none
    |_=>none
   |none=>none
 |_=>none
def TQ (T:TE) (vt:TypeId->Option Ty) (σ:St) (src dst:TypeId) (x:Value):Option R:=
 match x with
 | .tuple a=>match T.und src,T.und dst,a.toList with
   |some _,some (.slice e),[.chan (some 1),.string s]=>match vt e with
    |some .byte=>bif L1 (T.und e) then ia T σ e (C8 s) else none
    |_=>none
   |some (.slice e),some .string,[.chan (some 2),_]=>bif L1 (T.und e) then cQ σ x else none
   |_,_,_=>none
 |_=>none
def TR (T:TE) (σ:St) (t:TypeId) (x:Value) (lo f:Option Value):Option R:=
 match x with
 | .tuple a=>match T.und t,a.toList with
   |some (.slice b),[.chan (some 2),.pointer (some ⟨id,0,none⟩)]=>match σ.heap.get id,T.inf b with
    |some (.vec d c e),some i=>bif Nat.beq e b&&Nat.beq i.size d.sz then match lo,f with
     |none,some h=>match Bm h with
      |some (.int _ m)=>some ⟨pf id m.toNat,σ.assumes [decide (0<=m),decide (m<=c.length)],⟨[],[id],[],[]⟩⟩
      |_=>none
     |some l,none=>match Bm l with
      |some (.int _ n)=>some ⟨dt σ.next,((σ.puts [id]).new (.vec d (c.drop n.toNat) b)).assumes [decide (0<=n),decide (n<=c.length)],⟨[],[],[],[id]⟩⟩
      |_=>none
     |_,_=>none
     else none
    |_,_=>none
   |_,_=>none
 |_=>none
def NZ (T:TE) (σ:St) (op:BinOp) (t:TypeId) (x y:Value):Option R:=
 match x,y with
 | .tuple a,.slice none 0 0=>match T.und t,a.toList with
   |some (.slice _),[.chan (some 2),.pointer (some ⟨id,0,none⟩)]=>match Fh (σ.heap.get id) with
    |some ⟨_,b⟩=>match op with
     | .eql=>some ⟨.bool false,σ.assume (decide (0<b.length)),⟨[],[id],[],[]⟩⟩
     | .neq=>some ⟨.bool true,σ.assume (decide (0<b.length)),⟨[],[id],[],[]⟩⟩
     |_=>none
    |none=>none
   |_,_=>none
 |_,_=>none
def ZV (E:Env) (s:Tr Value) (σ:St) (o:Oper):Option OpR:=
 match o.op with
 | .call c=>match c.callee with
   | .builtin .append=>match bD E.G s c.args.toList with
     |some [x,y]=>B6 (cR E.T E.vt σ c.argTypes x y)
     |_=>none
   |_=>none
 | .store t a x=>match av E.G s a,av E.G s x with
   |some v,some u=>B6 (Jm E.T σ t v u)
   |_,_=>none
 | .convert src dst x=>match av E.G s x with
   |some v=>B6 (TQ E.T E.vt σ src dst v)
   |none=>none
 | .makeSlice t l c=>match av E.G s l,av E.G s c with
   |some a,some b=>B6 (TM E.T σ t a b)
   |_,_=>none
 | .binOp op t x y _=>match av E.G s x,av E.G s y with
   |some a,some b=>B6 (NZ E.T σ op t a b)
   |_,_=>none
 | .slice t x lo d none=>match av E.G s x,bE E.G s lo,bE E.G s d with
   |some v,some l,some h=>B6 (TR E.T σ t v l h)
   |_,_,_=>none
 |_=>none
def Na (P:Program) (E:Env) (s:Tr Value) (σ:St) (o:Oper):Option OpR:=
 match X9 P E s σ o with
 |some r=>some r
 |none=>Jo E s σ o
def Gw (P:Program) (E:Env) (s:Tr Value) (σ:St) (o:Oper):Option OpR:=
 match ZV E s σ o with
 |some r=>some r
 |none=>Na P E s σ o
section
variable {P:Program} {E:Env} (hE:E.OK P) {D:Nat->Prop} {ι:Nat->Reg} {σ:St} {w:World} {s:Tr Value} {ρ:Operand->Value}
theorem Ks {x:Option SV} {r:R} (h:Jn σ x=some (.val r)):∃v a,x=some (v,a)/\r=⟨sy v,σ.assumes a,.nil⟩:=by
 unfold Jn at h
 split at h
 ·cases h;exact⟨_,_,rfl,rfl⟩
 ·cases h
theorem ABC:∀(a:List Bool) (σ:St) (φ:Foot),σ.next<=(σ.assumes a).next/\(σ.wf->(σ.assumes a).wf/\AFr σ (σ.assumes a) φ)
 |[],σ,φ=>⟨Nat.le_refl _,λb=>⟨b,AFr.refl _ _⟩⟩
 |p::a,σ,φ=>by
  obtain⟨d,c⟩:=ABC a σ φ;exact⟨d,λb=>⟨(c b).1,(c b).2.assume p⟩⟩
theorem Jp {x:Option SV} {r:R} (h:Jn σ x=some (.val r)):A4 σ r:=by
 obtain⟨v,a,_,rfl⟩:=Ks h;exact ABC a σ .nil
theorem A4.assumes {v:Value} {σ':St} {φ:Foot}:∀(a:List Bool),A4 σ ⟨v,σ',φ⟩->A4 σ ⟨v,σ'.assumes a,φ⟩
 |[],h=>h
 |p::a,h=>by
  obtain⟨d,b⟩:=A4.assumes a h;exact⟨d,λc=>⟨(b c).1,(b c).2.assume p⟩⟩
theorem A4.assume {v:Value} {σ':St} {φ:Foot} {p:Bool} (h:A4 σ ⟨v,σ',φ⟩):A4 σ ⟨v,σ'.assume p,φ⟩:=A4.assumes [p] h
theorem ZX {T:TE} {t:TypeId} {a:Value} {r:R} (h:Tk T σ t a=some r):A4 σ r:=by
 unfold Tk at h;simp only[Bool.cond_eq_ite] at h
 split at h
 ·split at h
  ·split at h
   ·split at h
    ·split at h
     ·split at h
      ·rcases b:EM _ σ with⟨vs,σ1⟩
       rw[b] at h;cases h;exact A4.assume (CY b)
      ·cases h
     ·cases h
    ·split at h
     ·split at h
      ·rename_i b;cases h;exact A4.assume (CY b)
      ·cases h
     ·cases h
   ·cases h
  ·cases h
 ·cases h
theorem Nb {T:TE} {t:TypeId} {x i:Value} {r:R} (h:DE T σ t x i=some r):A4 σ r:=by
 unfold DE at h;simp only[Bool.cond_eq_ite] at h
 repeat' split at h
 all_goals first|(cases h;exact A4.assume (A4.assume (A4.same _ _)))|cases h
theorem ZY {T:TE} {src dst:TypeId} {x:Value} {r:R} (h:TP T σ src dst x=some r):A4 σ r:=by
 unfold TP ie at h;simp only[Bool.cond_eq_ite] at h
 repeat' split at h
 all_goals first|(cases h;exact A4.same _ _)|cases h
theorem Nc {T:TE} {t:TypeId} {x i:Value} {r:R} (h:Dy T σ t x i=some r):A4 σ r:=by
 unfold Dy at h
 split at h
 ·rename_i a;cases h;exact Nb a
 ·split at h
  ·exact Hk h
  ·cases h
theorem Nd {T:TE} {t:TypeId} {x:Value} {f:Nat} {r:R} (h:Eo T σ t x f=some r):A4 σ r:=by
 unfold Eo at h;simp only[Bool.cond_eq_ite] at h
 repeat' split at h
 all_goals first|(cases h;exact A4.same _ _)|cases h
theorem cV {T:TE} {ts:List TypeId} {x:Value} {r:R} (h:sLen T σ ts x=some r):A4 σ r:=by
 unfold sLen at h
 repeat' split at h
 all_goals first|(cases h;exact A4.same _ _)|cases h
theorem ZZ {T:TE} {t:TypeId} {x:Value} {lo a:Option Value} {r:R} (h:Tm T σ t x lo a=some r):A4 σ r:=by
 unfold Tm at h;simp only[Bool.cond_eq_ite] at h
 repeat' split at h
 all_goals first|(cases h;exact A4.assumes _ (A4.new _ _ _))|cases h
theorem Vx {T:TE} {t:TypeId} {x:Value} {lo a:Option Value} {r:R} (h:NX T σ t x lo a=some (.val r)):A4 σ r:=by
 unfold NX at h
 split at h
 ·rename_i b;cases h;exact ZZ b
 ·split at h
  ·exact Jp h
  ·cases h
theorem Ri {T:TE} {ts:Array TypeId} {x y:Value} {r:R} (h:Hm T σ ts x y=some r):A4 σ r:=by
 unfold Hm at h;simp only[Bool.cond_eq_ite] at h
 repeat' split at h
 all_goals first|exact LQ h|cases h
theorem Vy {T:TE} {b:Builtin} {ts:List TypeId} {args:List Value} {r:R} (h:NY T σ b ts args=some (.val r)):A4 σ r:=by
 unfold NY at h
 split at h
 ·exact Ri (AX h)
 ·split at h
  ·rename_i a;cases h;exact cV a
  ·split at h
   ·exact Jp h
   ·cases h
 ·split at h
  ·exact Jp h
  ·cases h
theorem cW {g:FuncId} {args:List Value} {r:R} (h:ZU E σ g args=some (.val r)):A4 σ r:=by
 unfold ZU at h;simp only[Bool.cond_eq_ite] at h
 repeat' split at h
 all_goals first|(cases h;exact A4.new _ _ _)|cases h
theorem Za {o:Oper} {r:R} (h:Jo E s σ o=some (.val r)):A4 σ r:=by
 unfold Jo at h
 repeat' split at h
 all_goals first
  |exact Jp h
  |exact ZX (AX h)
  |exact Nd (AX h)
  |exact Nc (AX h)
  |exact ZY (AX h)
  |exact Vx h
  |exact Vy h
  |exact cW h
  |cases h
theorem Zb {T:TE} {vt:TypeId->Option Ty} {src dst:TypeId} {x:Value} {r:R} (h:TQ T vt σ src dst x=some r):A4 σ r:=by
 unfold TQ ia cQ at h;simp only[Bool.cond_eq_ite] at h
 repeat' split at h
 all_goals first|(cases h;exact A4.new _ _ _)|(cases h;exact A4.same _ _)|cases h
theorem Vz {T:TE} {t:TypeId} {a v:Value} {r:R} (h:NS T σ t a v=some r):A4 σ r:=by
 unfold NS at h;simp only[Bool.cond_eq_ite] at h
 repeat' split at h
 all_goals first
  |(rename_i c _ _ _ _ _ _ _;cases h;exact A4.assume (A4.assumes _ ⟨Nat.le_refl _,λb=>⟨St.put_wf b (St.lv_lt b (St.lv_of (by assumption))) _,AFr.whole (by simp)⟩⟩))
  |(cases h;exact A4.assume (A4.assumes _ ⟨Nat.le_refl _,λb=>⟨St.put_wf b (St.lv_lt b (St.lv_of (by assumption))) _,AFr.whole (by simp)⟩⟩))
  |cases h
theorem TS {T:TE} {t:TypeId} {a v:Value} {r:R} (h:Jm T σ t a v=some r):A4 σ r:=by
 unfold Jm at h
 split at h
 ·rename_i d b;cases h;exact Vz b
 ·split at h
  ·rename_i d b;cases h;unfold MN at b;simp only[Bool.cond_eq_ite] at b
   repeat' split at b
   all_goals first
    |(cases b;exact A4.assume (A4.assumes _ ⟨Nat.le_refl _,λc=>⟨St.put_wf c (St.lv_lt c (St.lv_of (by assumption))) _,AFr.whole (by simp)⟩⟩))
    |cases b
  ·unfold MO at h;simp only[Bool.cond_eq_ite] at h
   repeat' split at h
   all_goals first
    |(cases h;exact A4.assume (A4.assumes _ (A4.rep (GJ (by assumption)).1)))
    |cases h
theorem cX {T:TE} {vt:TypeId->Option Ty} {ts:Array TypeId} {x y:Value} {r:R} (h:cR T vt σ ts x y=some r):A4 σ r:=by
 unfold cR at h;simp only[Bool.cond_eq_ite] at h
 repeat' split at h
 all_goals first|(cases h;exact A4.assume (A4.assumes _ A4.puts))|cases h
theorem Zc {T:TE} {t:TypeId} {x y:Value} {r:R} (h:TM T σ t x y=some r):A4 σ r:=by
 unfold TM at h;simp only[Bool.cond_eq_ite] at h
 repeat' split at h
 all_goals first|(cases h;exact A4.assume (A4.assume (A4.assume (A4.new _ _ _))))|cases h
theorem V0 {T:TE} {op:BinOp} {t:TypeId} {x y:Value} {r:R} (h:NZ T σ op t x y=some r):A4 σ r:=by
 unfold NZ at h
 repeat' split at h
 all_goals first|(cases h;exact A4.assume (A4.same _ _))|cases h
theorem Zd {T:TE} {t:TypeId} {x:Value} {lo a:Option Value} {r:R} (h:TR T σ t x lo a=some r):A4 σ r:=by
 unfold TR at h;simp only[Bool.cond_eq_ite] at h
 repeat' split at h
 all_goals first|(cases h;exact A4.assumes _ (A4.same _ _))|(cases h;exact A4.assumes _ A4.puts)|cases h
theorem ig {o:Oper} {r:R} (h:ZV E s σ o=some (.val r)):A4 σ r:=by
 unfold ZV at h
 repeat' split at h
 all_goals first
  |exact cX (AX h)
  |exact TS (AX h)
  |exact Zb (AX h)
  |exact Zc (AX h)
  |exact V0 (AX h)
  |exact Zd (AX h)
  |cases h
theorem cY {o:Oper} {r:R} (h:Gw P E s σ o=some (.val r)):A4 σ r:=by
 unfold Gw Na at h
 split at h
 ·rename_i a;cases h;exact ig a
 ·split at h
  ·rename_i a;cases h;exact iZ a
  ·exact Za h
theorem Jq {op:BinOp} {t:TypeId} {ox oy:Operand} {x y:Value} (h:IX x=true) (w:World):(eqGuard op t ox oy x y).run P w=.ok () w:=
 DP (by rintro rfl;cases h) (by rintro c rfl;cases h) w
theorem Em {e:Sem Value} {x:Option SV} {r:R} (h:Jn σ x=some (.val r)) (b:r.σ.Ok) (c:∀v a,x=some (v,a)->C5 a->e.run P w=.ok v w/\IX v=true):B8 P D ι σ w (do Pure.pure (.value (<-e))) r:=by
 obtain⟨v,a,d,rfl⟩:=Ks h;obtain⟨f, -⟩:=(BT _ _).1 b;obtain⟨g,i⟩:=c v a d f;exact AF.next (AF.assumes a (AF.pure g (.sym v i)))
theorem Nf:∀(vs d:List Value) (as:Array Value),Hl vs=some d->AR D ι vs.toArray as->as=d.toArray
 |[],d,as,h,b=>by
  simp only[Hl,Option.some.injEq] at h;subst h;have:as.size=0:=by simpa using b.1.symm
  exact Array.eq_empty_of_size_eq_zero this
 |v::vs,d,as,h,b=>by
  simp only[Hl] at h
  split at h
  ·rename_i u c f e;cases h;obtain⟨l⟩:=as;cases l with
   |nil=>have:=b.1;simp at this
   |cons a l=>
    have g:=(AZ f (b.2 0 v a (by simp) (by simp))).1;have:=Nf vs c l.toArray e ⟨by have:=b.1;simp at this;simpa using this,λi x y j k=>b.2 (i+1) x y (by simpa using j) (by simpa using k)⟩;have m:l=c:=by simpa using this
    rw[g,m]
  ·cases h
theorem Ng {x a:Option Value} {u:Option Value} (h:Xv x=some u) (c:OR D ι x a):a=u:=by
 unfold Xv at h
 split at h
 ·cases h;cases c;rfl
 ·split at h
  ·rename_i f d;cases h;cases c with
   |some _ b e=>rw[(AZ d e).1]
  ·cases h
theorem Ze {b:Bool} {x:Value} (h:ew b x=true):(x=.nilIface/\b=true)\/∃t u,x=.iface t u/\b=false:=by
 cases x<;>first|(cases h;done)|skip
 ·exact .inr ⟨_,_,rfl,by simpa[ew] using h⟩
 ·exact .inl ⟨rfl,h⟩
theorem TT {op:BinOp} {t:TypeId} {ox oy:Operand} {x y:Value} (a:cU oy=true) (b:∀c,x≠ .agg c) (w:World):(eqGuard op t ox oy x y).run P w=.ok () w:=by
 have:eqGuard op t ox oy x y=Pure.pure ():=by
  cases oy<;>first|(cases a;done)|skip
  cases op<;>first
   |rfl
   |(cases x<;>first
    |rfl
    |exact absurd rfl (b _)
    |(cases y<;>first|rfl|(simp only[eqGuard];cases ox<;>rfl)))
 rw[this];rfl
theorem cZ {T:TE} (hT:T.OK P) {op:BinOp} {t:TypeId} {ox oy:Operand} {a b c f v:Value} {m:List Bool} (h:nu T op t oy a b=some (v,m)) (n:VR D ι a c) (o:VR D ι b f) (w:World):
  (do eqGuard op t ox oy c f;binOp op t c f).run P w=.ok v w/\IX v=true:=by
 unfold nu at h
 split at h
 ·rename_i e i p q;cases o;cases g:cU oy
  ·rw[g] at h;cases h
  rw[g,cond_true] at h;have hE:=Ze (II p n);have d:(Op.equal t c .nilIface).run P w=.ok e w:=by
   have j:Op.equal t c .nilIface=Op.equalIn (9999+1) t c .nilIface:=rfl;rw[j,Op.equalIn];rcases hE with⟨rfl,rfl⟩|⟨_,_,rfl,rfl⟩<;>
   ·simp only[Sem.run_bind,AK hT q,Result.andThen_ok,Sem.run_pure]<;>rfl
  have k:notNum c=true:=by rcases hE with⟨rfl,_⟩|⟨_,_,rfl,_⟩<;>rfl
  have l:∀op,(eqGuard op t ox oy c .nilIface).run P w=.ok () w:=λop=>TT g (by rcases hE with⟨rfl,_⟩|⟨_,_,rfl,_⟩<;>simp) w
  split at h
  ·cases h;exact⟨by simp only[Sem.run_bind,l,Result.andThen_ok,K0 k,d,Sem.run_pure],rfl⟩
  ·cases h;exact⟨by simp only[Sem.run_bind,l,Result.andThen_ok,K1 k,d,Sem.run_pure],rfl⟩
  ·cases h
 ·cases h
include hE in
theorem V1 {g:FuncId} {args:List Value} {as:Array Value} {r:R} (h:ZU E σ g args=some (.val r)) (q:AR D ι args.toArray as):B8 P D ι σ w (callFunc g as) r:=by
 unfold ZU at h
 split at h
 ·rename_i a v s
  split at h
  ·rename_i n e t u;cases b:(Nat.beq e.size 1&&Nat.ble n 281474976710656)
   ·rw[b] at h;cases h
   rw[b,cond_true,] at h;rw[Bool.and_eq_true] at b;have m:=Nat.eq_of_beq_eq_true b.1;have x:=Nat.le_of_ble_eq_true b.2;cases h;obtain⟨v',rfl,y⟩:=q.one;obtain⟨rfl, -⟩:=AZ t y;obtain⟨d,z,c⟩:=hE.mnz _ _ s n w x;refine⟨by simp[St.new],λj=>⟨St.new_wf j _,AFr.new _ _ _⟩,λj A _=> ?_⟩
   have l:¬D σ.next:=A _ (by simp[St.rng,St.new]);refine⟨_,_,EG ι σ.next (rg w.heap.size 0 d.size 1),_,z,.inl rfl,?_,Post.new j l (by simpa using c) (λi p=> ?_) (fr:=(0,0)) (λo _ h=>by omega) (λk v f=> ?_) rfl rfl rfl rfl rfl⟩
   ·have:=VR.slU (D:=λi=>D i\/σ.rng (σ.new (.row (List.replicate n junk) a false)) i) (ι:=EG ι σ.next (rg w.heap.size 0 d.size 1)) σ.next 0 n d.size (.inr (St.rng_new.2 rfl)) c (by rw[AV];simp);rw[AV] at this;exact this
   ·rw[hE.T.inf _ _ u] at p;cases p;exact⟨m.symm,by rw[m];exact Nat.mod_one _⟩
   ·rw[List.getElem?_replicate] at f
    split at f
    ·cases f;exact⟨d[k]'(by omega),Array.getElem?_eq_getElem _,.junk _⟩
    ·cases f
  ·cases h
 ·cases h
theorem TU {size m n:Nat} {y:Value} {l:List Value} {rc:List (Nat×Nat)} (b:ZG y=some m) (a:NF σ size y=some (l,n,rc)):n=m:=by
 unfold NF at a;simp only[Bool.cond_eq_ite] at a
 repeat' split at a
 all_goals first|(cases a;cases b;rfl)|cases a
 all_goals (rename_i c;cases b;exact(Nat.eq_of_beq_eq_true c).symm)
theorem TV {T:TE} (hT:T.OK P) {j xT:TypeId} {args:Array TypeId} {d:TypeDesc} {c:TypeId} {e:TypeInfo} {z:Value} {a b:Addr} {n:Nat} {x:Value} {ty:TypeId}
  (m:args[0]?=some j) (o:args[1]?=some xT) (p:T.und j=some (.slice c)) (q:T.und xT=some d) (hd:∀k,d≠ .int k) (l:T.inf c=some e) (_hz:e.zero=some z)
  (g:e.bytes≠0) (t:(2*(0+n)+400)*e.bytes<=2^48) (f:∀w,(Builtin.lenOf x).run P w=.ok n w) (FJ:0<n) (w:World):
  (Builtin.append_ args ty #[.slice (some a) 0 0,x]).run P w=(Builtin.append_ args ty #[.slice (some b) 0 0,x]).run P w:=by
 have r:(Question.appendCap (0+n) 0 c).forced=false:=rfl;have h:¬(Builtin.nextslicecap (0+n) 0*e.bytes>2^48):=by
  have:=Nat.mul_le_mul_right e.bytes (NG (show 0<0+n by omega));omega
 have i:¬(0+n<=0):=by omega
 have s:∀(a:Addr) (w:World),(Builtin.firstCells e.size 0 (.slice (some a) 0 0)).run P w=.ok #[] w:=λa w=>by
  simp only[Builtin.firstCells,Nat.zero_mul];rfl
 unfold Builtin.append_;simp only[m,o,List.getElem?_toArray,List.getElem?_cons_zero,List.getElem?_cons_succ,Sem.run_bind,AK hT p,Result.andThen_ok,Ao hT l,AK hT q,Sem.run_pure,Bool.false_eq_true,if_false,f,if_neg i,
  IF hT l,g,false_or,and_false,if_neg h,run_choose,r,run_askRoom,Bool.not_false,if_true,s]
theorem Nh {T:TE} (hT:T.OK P) {args:Array TypeId} {ty:TypeId} {x s y g:Value} {r:R} (h:Hm T σ args x y=some r) (B:VR D ι x s) (i:VR D ι y g):
  AF P D ι σ w (Builtin.append_ args ty #[s,g]) r:=by
 unfold Hm at h
 split at h
 ·rename_i id off c;cases b:Nat.beq c Ew
  ·rw[b] at h;cases h
  rw[b,cond_true] at h;have b:=Nat.eq_of_beq_eq_true b;subst b
  split at h
  ·rename_i n t;cases B with
   |slE _ _ C c u v j=>
    rcases j with rfl|⟨rfl,j⟩
    ·obtain⟨E,F,G⟩:=FN hT (w:=w) (ty:=ty) h (.slU id off 0 0 u (Nat.le_refl _) (by omega)) i;refine⟨E,F,λH I J=> ?_⟩;have k:(Builtin.append_ args ty #[.slice (some ⟨(ι id).blk,(ι id).base+C,none⟩) 0 0,g]).run P w=(Builtin.append_ args ty #[.slice (some ⟨(ι id).blk,(ι id).base+off,none⟩) 0 0,g]).run P w:=by
      unfold GE at h
      split at h
      ·rename_i K xT A a;have L:args[0]?=some K:=by rw[<-Array.getElem?_toList,a];rfl
       have v:args[1]?=some xT:=by rw[<-Array.getElem?_toList,a];rfl
       split at h
       ·rename_i f d l o;cases hd:Kl d
        ·rw[hd,cond_false] at h
         split at h
         ·rename_i e M
          split at h
          ·rename_i z new m rc N p;have O:=TU t p;subst O;dsimp only at h
           split at h
           ·rename_i Y Q S Z;rw[Cc (rfl:Ew=Ew),cond_true,UG (show Nat.succ n≠0 by omega),cond_false] at h;cases q:(Nat.beq Q f&& !S&&Hb e z (0+(n+1))&&new.all oneC&&Nat.beq (Nat.mod off e.size) 0)
            ·rw[q] at h;cases h
            ·rw[Bool.and_eq_true,Bool.and_eq_true,Bool.and_eq_true] at q;obtain⟨g1,U,g3⟩:=E6 q.1.1.2;exact TV hT L v l o (Hc hd) M N U g3 (NJ t i) (by omega) w
           ·cases h
          ·cases h
         ·cases h
        ·rw[hd] at h;cases h
       ·cases h
      ·cases h
     obtain⟨v',ι',w',V,W,X⟩:=G H I J;exact⟨v',ι',w',k.trans V,W,X⟩
    ·exact FN hT h (.slU id _ 0 c u (Nat.zero_le _) j) i
  ·cases h
 ·cases h
theorem Xw {v:Value} (h:IX v=true):VR D ι v v:=by
 cases v<;>first|(cases h;done)|constructor
theorem Ni:∀(vs b:List Value),Hl vs=some b->b.length=vs.length/\∀(k:Nat) v u,vs[k]?=some v->b[k]?=some u->Bm v=some u
 |[],b,h=>by
  simp only[Hl,Option.some.injEq] at h;subst h;exact⟨rfl,λk v u c=>by simp at c⟩
 |v::vs,b,h=>by
  simp only[Hl] at h
  split at h
  ·rename_i u d f e;cases h;obtain⟨g,i⟩:=Ni vs d e;refine⟨by simp[g],λk v' j c a=> ?_⟩;rcases k with _|k
   ·simp only[List.getElem?_cons_zero,Option.some.injEq] at c a;subst c a;exact f
   ·exact i k v' j (by simpa using c) (by simpa using a)
  ·cases h
theorem V2 {x f:Value} {r:R} (h:ie σ x=some r) (q:VR D ι x f):AF P D ι σ w (Conv.bytesToString f) r/\∃a l c,f=.slice a l c:=by
 unfold ie at h
 split at h
 ·rename_i id off len cap
  split at h
  ·rename_i K e L s
   split at h
   ·rename_i l t
    split at h
    ·rename_i y g
     split at h
     ·rename_i b A;cases h;obtain⟨M,rfl,_⟩:=q.sl_inv;refine⟨AF.same (w':=w) (v':=.string (bs b)) (λB=> ?_) rfl rfl,_,_,_,rfl⟩;obtain⟨c,C,m⟩:=CB s t B λj N=>.inl (CA.2 ⟨rfl,Nat.le_add_right _ _,by omega⟩)
      refine⟨?_,.sym _ rfl,rfl,rfl,rfl⟩;obtain⟨n,E⟩:=Ni _ _ g;have d:=Je (D:=D) (ι:=ι) P w y c.toList b .empty A (by rw[n];simpa using m.1) λk u v' o F=>by
       have G:k<l.length:=by rw[<-n];exact(List.getElem?_eq_some_iff.1 o).1
       obtain⟨v,p⟩:∃v,l[k]?=some v:=⟨_,List.getElem?_eq_getElem G⟩
       have i:=m.2 k v v' (by simpa using p) (by simpa using F);obtain⟨rfl,H⟩:=AZ (E k _ u p o) i;exact Xw H
      have I:(⟨(ByteArray.empty).data++b.toArray⟩:ByteArray)=bs b:=by apply ByteArray.ext;simp[bs]
      rw[I] at d;simp only[Conv.bytesToString,Sem.run_bind,C w rfl,Result.andThen_ok];rw[<-Array.forIn_toList];have:∀z:Result ByteArray,z=.ok (bs b) w->(z.andThen λa w'=>(Pure.pure (Value.string a):Sem Value).run P w')=.ok (.string (bs b)) w:=λz J=>by rw[J];rfl
      exact this _ d
     ·cases h
    ·cases h
   ·cases h
  ·cases h
 ·cases h
theorem TW {T:TE} (hT:T.OK P) {src dst:TypeId} {x f:Value} {r:R} (h:TP T σ src dst x=some r) (g:VR D ι x f):AF P D ι σ w (convert src dst f) r:=by
 unfold TP at h
 split at h
 ·rename_i e i j;cases d:L1 (T.und e)
  ·rw[d] at h;cases h
  rw[d,cond_true] at h;have k:=Fk d;obtain⟨⟨g1,l,g3⟩,p,q,s,rfl⟩:=V2 (P:=P) (w:=w) (D:=D) (ι:=ι) h g;refine⟨g1,l,λa b c=> ?_⟩;obtain⟨v',ι',w',m,n,o⟩:=g3 a b c;refine⟨v',ι',w',?_,n,o⟩;simp only[convert,Sem.run_bind,AK hT i,AK hT j,Result.andThen_ok,AK hT k]
  exact m
 ·cases h
theorem Ku {T:TE} (hT:T.OK P) {t:TypeId} {x d e a:Value} {r:R} (h:Dy T σ t x e=some r) (c:r.σ.Ok) (f:VR D ι x d) (b:VR D ι e a):AF P D ι σ w (Instr.indexAt t d a) r:=by
 unfold Dy at h
 split at h
 ·rename_i g;cases h;exact Ky hT g c f b
 ·split at h
  ·rename_i i j;obtain⟨rfl,k⟩:=AZ j b;exact AA6 hT h f (Xw k)
  ·cases h
include hE in
theorem Zf {o:Oper} {r:R} (h:Jo E s σ o=some (.val r)) (n:r.σ.Ok) (k:∀x,x∈o.op.operands->YA E.G D ι s ρ x):B8 P D ι σ w (execOp ρ o) r:=by
 unfold Jo at h;unfold execOp
 split at h
 ·rename_i t a m;simp only[m,Op.operands] at k⊢
  split at h
  ·rename_i v j;exact AF.next (Tl hE.T (AX h) n (k a (by simp) v j))
  ·cases h
 ·rename_i op t x y ty m;simp only[m,Op.operands] at k⊢
  split at h
  ·rename_i a b Y Z;have q:=k x (by simp) a Y;have L:=k y (by simp) b Z;refine Em h n λv S j C=> ?_
   unfold ABr at j
   split at j
   case h_2=>exact dH hE.T hE.cmp j q L w
   rename_i hv3;cases j;have j:=hv3;unfold lb at j
   split at j
   case h_2=>exact cZ hE.T j q L w
   rename_i hv2;cases j;have j:=hv2;unfold la at j
   split at j
   ·rename_i x' y' I J
    split at j
    ·rename_i z;obtain⟨F,M⟩:=AZ I q;obtain⟨U,e4⟩:=AZ J L;rw[F,U];obtain⟨N,O⟩:=TI (P:=P) (t:=t) hE.T (λ_ _=>z) j C w;exact⟨by simp only[Sem.run_bind,Jq M,Result.andThen_ok];exact N,O⟩
    ·cases j
   ·rename_i u1 u2 hno I J;obtain⟨F,M⟩:=AZ I q;obtain⟨U,e4⟩:=AZ J L;rw[F,U];have hnb:∀b,u1=.bool b->E.T.und t=some .bool:=by
     rintro b rfl;unfold cM at j
     split at j
     ·rename_i p;cases p
     ·rename_i p;cases p
     ·exact(hno _ _ rfl rfl).elim
     ·rename_i p;cases p
     ·rename_i p;cases p
     ·cases j
    obtain⟨N,O⟩:=TI (P:=P) (t:=t) hE.T hnb j C w;exact⟨by simp only[Sem.run_bind,Jq M,Result.andThen_ok];exact N,O⟩
   ·cases j
  ·cases h
 ·rename_i op t x m;simp only[m,Op.operands] at k⊢
  split at h
  ·rename_i v j
   split at h
   ·rename_i u z;obtain⟨F,M⟩:=AZ z (k x (by simp) v j);rw[F];exact Em h n λv S j C=>iW j C w
   ·cases h
  ·cases h
 ·rename_i src dst x m;simp only[m,Op.operands] at k⊢
  split at h
  ·rename_i v j
   split at h
   ·rename_i u z;obtain⟨F,M⟩:=AZ z (k x (by simp) v j);rw[F];exact Em h n λv S j C=>ZI hE.T j C w
   ·exact AF.next (TW hE.T (AX h) (k x (by simp) v j))
  ·cases h
 ·rename_i t x lo hi m;simp only[m,Op.operands] at k⊢
  split at h
  ·rename_i v l h' j hl hh;have p:=GQ hl λy e=>k y (by subst e;simp)
   have X:=GQ hh λy e=>k y (by subst e;simp)
   unfold NX at h
   split at h
   ·rename_i Q;cases h;exact AF.next (Tn hE.T Q n (k x (by simp) v j) p X)
   ·split at h
    ·rename_i u l2 h2' z hl2 hh2;obtain⟨F,M⟩:=AZ z (k x (by simp) v j);have U:=Ng hl2 p;have e4:=Ng hh2 X;rw[F,U,e4];exact Em h n λv S j C=>cP hE.T j C w
    ·cases h
  ·cases h
 ·rename_i t x f m;simp only[m,Op.operands] at k⊢
  split at h
  ·rename_i v j;exact AF.next (Kz hE.T (AX h) (k x (by simp) v j))
  ·cases h
 ·rename_i t x i m;simp only[m,Op.operands] at k⊢
  split at h
  ·rename_i v u j z;exact AF.next (Ku hE.T (AX h) n (k x (by simp) v j) (k i (by simp) u z))
  ·cases h
 ·rename_i t x i m;simp only[m,Op.operands] at k⊢
  split at h
  ·rename_i v u j z
   split at h
   ·rename_i a b Y Z;rw[(AZ Y (k x (by simp) v j)).1,(AZ Z (k i (by simp) u z)).1];exact Em h n λv S j C=>cO hE.T j C w
   ·cases h
  ·cases h
 ·rename_i c m;simp only[m,Op.operands,Call.operands] at k⊢
  split at h
  ·rename_i args K;have V:=GP (ρ:=ρ) _ _ K λx q=>k x (by simp at q⊢;exact .inr q)
   have q1:(c.args.toList.map ρ).toArray=c.args.map ρ:=by apply Array.ext';simp
   rw[q1] at V
   split at h
   ·rename_i b Q;have e:(do let d<-resolve ρ c o.type;invoke d.target d.args:Sem Next)=builtin b c.argTypes o.type (c.args.map λ| .const _=>true|_=>false) (c.args.map ρ):=by
     simp only[resolve,Q];rfl
    rw[e];have A:∀H,Hl args=some H->Jn σ (tK E.T b c.argTypes.toList H)=some (.val r)->B8 P D ι σ w (builtin b c.argTypes o.type (c.args.map λ| .const _=>true|_=>false) (c.args.map ρ)) r:=by
     intro H B hsv;rw[Nf args H _ B V];obtain⟨v,S,q,rfl⟩:=Ks hsv;obtain⟨N,O,r3⟩:=iY (P:=P) hE.T q w (ty:=o.type) (consts:=c.args.map λ| .const _=>true|_=>false);simp only at N O r3;subst r3;exact B8.value N (.sym v O)
    unfold NY at h
    split at h
    ·rename_i x y;obtain⟨x',y',hxy,q,L⟩:=V.two;rw[hxy];have:=Nh hE.T (w:=w) (ty:=o.type) (AX h) q L;simp only[Array.toArray_toList] at this;exact AF.next this
    ·rename_i x
     split at h
     ·rename_i r' hl;cases h;obtain⟨x',hx',hxx⟩:=V.one;rw[hx'];exact AF.next (ABJ hE.T hl hxx)
     ·split at h
      ·rename_i H B;exact A H B h
      ·cases h
    ·split at h
     ·rename_i H B;exact A H B h
     ·cases h
   ·rename_i f Q
    split at h
    ·rename_i g first captured hf
     have ef:=k f (by simp[Q]) _ hf;generalize hrf:ρ f=rf at ef;cases ef with
     |func _ _ a' _ b' p X h3 h4=>
      have W:AR D ι (first.toList++args++captured.toList).toArray (a'++c.args.map ρ++b'):=AR.catN ⟨by simpa using p,by simpa using h3⟩ V ⟨by simpa using X,by simpa using h4⟩;obtain⟨s1,s2,s3⟩:=V1 hE (w:=w) h W;refine⟨s1,s2,λhw hD m=> ?_⟩;rw[GS Q hrf];exact s3 hw hD m
    ·cases h
   ·cases h
  ·cases h
 ·cases h
omit hE in
theorem TX {T:TE} (hT:T.OK P) {t:TypeId} {x S:Value} {lo hi o p:Option Value} {r:R} (h:TR T σ t x lo hi=some r) (J:r.σ.Ok) (hx:VR D ι x S) (h1:OR D ι lo o) (h2:OR D ι hi p):AF P D ι σ w (Instr.sliceAt t S o p none) r:=by
 have s:∀e,T.und t=some (.slice e)->∀w,(Instr.sliceAt t S o p none).run P w=(Instr.slice t S o p none).run P w:=λe u w=>by
  simp only[Instr.sliceAt,Sem.run_bind,AK hT u,Result.andThen_ok]
 unfold TR at h
 split at h
 ·rename_i a
  split at h
  ·rename_i K id u ha;rw[BG ha] at hx;obtain⟨q,l,c,rfl,hD,d⟩:=Cz hx
   split at h
   ·rename_i g B e i L he;cases C:(Nat.beq e K&&Nat.beq i.size g.sz)
    ·rw[C] at h;cases h
    rw[C,cond_true] at h;rw[Bool.and_eq_true] at C;have b1:=Nat.eq_of_beq_eq_true C.1;have b2:=Nat.eq_of_beq_eq_true C.2;subst b1
    split at h
    ·rename_i h0
     split at h
     ·rename_i k m U;cases h;cases h1;cases h2 with
      |some _ b E=>
       obtain⟨rfl, -⟩:=AZ U E;obtain⟨M, -⟩:=(BT _ _).1 J;have V:(0:Int)<=m:=of_decide_eq_true M.1;have F:m<=B.length:=of_decide_eq_true M.2.1;refine AF.assumes _ (AF.same (w':=w) (v':=.slice q m.toNat c) (λW=> ?_) rfl rfl);have run:∀(l c:Nat),m<=(c:Int)->(Instr.slice t (.slice q l c) none (some (.int k m)) none).run P w=.ok (.slice (if c=0 then q else q.map (·.add (0*i.size))) (m.toNat-0) (c-0)) w:=λl c z=>by
        have e:=λcode=>CX (P:=P) (k:=k) (code:=code) V (y:=c) z w
        have X:(Instr.sliceBounds true l c none (some (.int k m)) none).run P w=.ok (0,m.toNat,c) w:=by simp[Instr.sliceBounds,e]
        simp only[Instr.slice,Sem.run_bind,AK hT u,Result.andThen_ok,X,Ao hT he,Sem.run_pure]
       obtain⟨-, -,Y⟩:=W.hd id _ (.inr (.inl (by simp))) (St.hdr_of L);rw[s _ u];rcases Y with⟨-,I,q',f⟩|⟨-, -,cap,c0,fr,f,j4, -⟩
       ·rw[d] at f;cases f;have hm:m<=((0:Nat):Int):=by rw[I] at F;exact F
        refine⟨by rw[run _ _ hm,if_pos rfl];rfl,.pfx id _ _ _ _ hD d (by omega),rfl,rfl,rfl⟩
       ·rw[d] at f;simp only[Value.slice.injEq] at f;obtain⟨rfl,rfl,rfl⟩:=f;refine⟨?_,.pfx id _ _ _ _ hD d (by omega),rfl,rfl,rfl⟩;rw[run _ _ (by omega)]
        split
        ·rename_i z;rw[Nat.sub_zero,Nat.sub_zero]
        ·rw[Option.map_some,BF,Nat.zero_mul,Nat.add_zero,Nat.sub_zero,Nat.sub_zero]
     ·cases h
    ·rename_i l0
     split at h
     ·rename_i k n Z;cases h;cases h2;cases h1 with
      |some _ b E=>
       obtain⟨rfl, -⟩:=AZ Z E;obtain⟨M, -⟩:=(BT _ _).1 J;have V:(0:Int)<=n:=of_decide_eq_true M.1;have F:n<=B.length:=of_decide_eq_true M.2.1;refine AF.assumes _ ⟨by simp[St.new,St.puts_next],λN=>(A4.puts (v:=undef)).2 N,λN hDn W=> ?_⟩;have run:∀(l c:Nat),n<=(l:Int)->(Instr.slice t (.slice q l c) (some (.int k n)) none none).run P w=.ok (.slice (if c=n.toNat then q else q.map (·.add (n.toNat*i.size))) (l-n.toNat) (c-n.toNat)) w:=λl c z=>by
        have e:=λcode=>CX (P:=P) (k:=k) (code:=code) V (y:=l) z w
        have X:(Instr.sliceBounds true l c (some (.int k n)) none none).run P w=.ok (n.toNat,l,c) w:=by simp[Instr.sliceBounds,e]
        simp only[Instr.slice,Sem.run_bind,AK hT u,Result.andThen_ok,X,Ao hT he,Sem.run_pure]
       obtain⟨-,k2,Y⟩:=W.hd id _ (.inr (.inr (.inr (by simp)))) (St.hdr_of L);have G:∀k,k∈[id]->Lv σ.H k:=λk O=>by rw[List.mem_singleton] at O;subst O;exact St.lv_of L
       rcases Y with⟨j1,I,q',f⟩|⟨j1,I,cap,c0,fr,f,j4,j5,j6,j7,j8,j9,j10⟩
       ·rw[d] at f;cases f;have hn:n<=((0:Nat):Int):=by rw[I] at F;exact F
        have hn0:n.toNat=0:=by omega
        refine⟨.slice q 0 0,EG ι σ.next ⟨0,0,0,g.sz,false,λ_=>none,.slice q 0 0⟩,w,?_,.dat _ _ _ _ (.inr (St.rng_puts.2 rfl)) (by rw[AV]),?_⟩
        ·rw[s _ u,run _ _ hn,hn0,if_pos rfl]
        ·exact Db (gs:=[id]) (rc:=[]) (rh:=[]) N ⟨by rw[AV],λb c h=>(by rw[AV] at h;cases h),.inl ⟨by rw[AV],by rw[I];simp,q,by rw[AV]⟩⟩ (Nat.le_refl _) rfl rfl (λ_ _ _=>rfl) G (λh=>by cases h) (λb ⟨c,h⟩=>by cases h)
       ·rw[d] at f;simp only[Value.slice.injEq] at f;obtain⟨rfl,rfl,rfl⟩:=f;by_cases z:c=n.toNat
        ·refine⟨.slice (some ⟨(ι id).blk,(ι id).base,none⟩) 0 0,EG ι σ.next ⟨0,0,0,g.sz,false,λ_=>none,.slice (some ⟨(ι id).blk,(ι id).base,none⟩) 0 0⟩,w,?_,.dat _ _ _ _ (.inr (St.rng_puts.2 rfl)) (by rw[AV]),?_⟩
         ·rw[s _ u,run _ _ F,if_pos z,z,Nat.sub_self,show B.length-n.toNat=0 by omega]
         ·exact Db (gs:=[id]) (rc:=[]) (rh:=[]) N ⟨by rw[AV],λb c h=>(by rw[AV] at h;cases h),.inl ⟨by rw[AV],List.drop_eq_nil_of_le (by omega),_,by rw[AV]⟩⟩ (Nat.le_refl _) rfl rfl (λ_ _ _=>rfl) G (λh=>by cases h) (λb ⟨c,h⟩=>by cases h)
        ·have A:(B.drop n.toNat).length=B.length-n.toNat:=List.length_drop;have hmul:n.toNat*g.sz+(c-n.toNat)*g.sz=c*g.sz:=by rw[<-Nat.add_mul];congr 1;omega
         refine⟨.slice (some ⟨(ι id).blk,(ι id).base+n.toNat*g.sz,none⟩) (B.length-n.toNat) (c-n.toNat),EG ι σ.next (B5 (ι id).blk ((ι id).base+n.toNat*g.sz) ((ι id).room-n.toNat*g.sz) g.sz (ι id).fz (.slice (some ⟨(ι id).blk,(ι id).base+n.toNat*g.sz,none⟩) (B.length-n.toNat) (c-n.toNat))),w,?_,.dat _ _ _ _ (.inr (St.rng_puts.2 rfl)) (by rw[AV];rfl),?_⟩
         ·rw[s _ u,run _ _ F,if_neg z,Option.map_some,BF,b2]
         ·refine Db (gs:=[id]) (rc:=[]) (rh:=[]) N ?_ (Nat.le_refl _) rfl rfl (λ_ _ _=>rfl) G (λ_=>.inr ⟨id,by simp,⟨_,St.hdr_of L,trivial⟩,j1,rfl⟩) (λb C=>.inr (.inr ⟨id,.inr (by simp),St.lv_of L,C⟩));simp only[Am,AV];refine⟨rfl,k2,.inr ⟨rfl,I,c-n.toNat,c0,fr,by rw[A];rfl,by rw[A];omega,j5,by simp only[B5];omega,by simp only[B5];omega,λj hj=> ?_,j9,λk y O=> ?_⟩⟩
          ·obtain⟨Q,a2,a3⟩:=j8 j hj;refine⟨Q,?_,a3⟩;simp only[B5];rw[Q,Nat.add_mul_mod_self_right];exact a2
          ·rw[List.getElem?_drop] at O;obtain⟨Q,a2⟩:=j10 (n.toNat+k) y O;simp only[B5,List.length_drop,Array.length_toList] at Q⊢;rw[Nat.add_mul] at Q;refine⟨by omega,?_⟩;rw[List.drop_drop,Nat.add_mul] at a2;rw[List.drop_drop,Nat.add_assoc];exact a2
     ·cases h
    ·cases h
   ·cases h
  ·cases h
 ·cases h
include hE in
theorem Rj {op:BinOp} {t:TypeId} {ox oy:Operand} {x y m k:Value} {r:R} (h:NZ E.T σ op t x y=some r) (d:r.σ.Ok) (u:VR D ι x m) (v:VR D ι y k):
  AF P D ι σ w (do eqGuard op t ox oy m k;binOp op t m k) r:=by
 unfold NZ at h
 split at h
 ·rename_i a
  split at h
  ·rename_i e id z A;rw[BG A] at u;obtain⟨q,l,c,rfl,I,n⟩:=Cz u;obtain rfl:k=.slice none 0 0:=by cases v;rfl
   split at h
   ·rename_i ty p B;have key:decide (0<p.length)=true->HOn P D ι σ.H ⟨[],[id],[],[]⟩ w->(Op.equal t (.slice q l c) (.slice none 0 0)).run P w=.ok false w:=λf g=>by
     have i:=AA8 B (.inr (.inl (by simp))) g;rcases i.rd with⟨⟨J,C,e⟩,F⟩|⟨b,o,C,G,K,fr,g1,_⟩
     ·subst F;exact absurd (of_decide_eq_true f) (Nat.lt_irrefl 0)
     ·rw[n] at g1;cases g1;have s:Op.equal t (.slice (some ⟨b,o,none⟩) p.length c) (.slice none 0 0)=Op.equalIn (9999+1) t (.slice (some ⟨b,o,none⟩) p.length c) (.slice none 0 0):=rfl;rw[s,Op.equalIn];simp only[Sem.run_bind,AK hE.T z,Result.andThen_ok,Sem.run_pure]
    have j:=λop w=>DP (P:=P) (op:=op) (t:=t) (ox:=ox) (oy:=oy) (x:=.slice q l c) (y:=.slice none 0 0) (by simp) (by simp) w
    split at h
    ·cases h;have f:=(St.assume_ok.1 d).1;exact AF.assume (AF.same (w':=w) (v':=.bool false) (λg=>⟨by simp only[Sem.run_bind,j,Result.andThen_ok,K0 (x:=.slice q l c) rfl,key f g,Sem.run_pure],.bool _,rfl,rfl,rfl⟩) rfl rfl)
    ·cases h;have f:=(St.assume_ok.1 d).1;exact AF.assume (AF.same (w':=w) (v':=.bool true) (λg=>⟨by simp only[Sem.run_bind,j,Result.andThen_ok,K1 (x:=.slice q l c) rfl,key f g,Sem.run_pure];rfl,.bool _,rfl,rfl,rfl⟩) rfl rfl)
    ·cases h
   ·cases h
  ·cases h
 ·cases h
include hE in
theorem TY {src dst:TypeId} {x i:Value} {r:R} (h:TQ E.T E.vt σ src dst x=some r) (g:VR D ι x i):AF P D ι σ w (convert src dst i) r:=by
 unfold TQ at h
 split at h
 ·rename_i a
  split at h
  ·rename_i d e A j k z
   split at h
   ·cases f:L1 (E.T.und e)
    ·rw[f] at h;cases h
    rw[f,cond_true] at h;have l:=Fk f;rw[BG z] at g;obtain⟨rfl,_⟩:=cJ g;obtain⟨g1,m,g3⟩:=Vt (w:=w) (D:=D) (ι:=ι) hE.T h;rw[Iy] at g3;refine⟨g1,m,λa b c=> ?_⟩;obtain⟨v',ι',w',n,o,p⟩:=g3 a b c;refine⟨v',ι',w',?_,o,p⟩;simp only[convert,Sem.run_bind,AK hE.T j,AK hE.T k,Result.andThen_ok,AK hE.T l]
    exact n
   ·cases h
  ·rename_i e u j k z;cases f:L1 (E.T.und e)
   ·rw[f] at h;cases h
   rw[f,cond_true] at h;have l:=Fk f;obtain⟨g1,m,g3⟩:=Vu (P:=P) (w:=w) (D:=D) (ι:=ι) h g;refine⟨g1,m,λa b c=> ?_⟩;obtain⟨v',ι',w',n,o,p⟩:=g3 a b c;refine⟨v',ι',w',?_,o,p⟩;have q:∃s t v,i=.slice s t v:=by
    unfold cQ at h;dsimp only at h
    split at h
    ·rename_i id y;rw[BG y] at g;obtain⟨s,t,v,rfl,_⟩:=Cz g;exact⟨_,_,_,rfl⟩
    ·cases h
   obtain⟨s,t,v,rfl⟩:=q;simp only[convert,Sem.run_bind,AK hE.T j,AK hE.T k,Result.andThen_ok,AK hE.T l];exact n
  ·cases h
 ·cases h
include hE in
theorem ABk {o:Oper} {r:R} (h:ZV E s σ o=some (.val r)) (g:r.σ.Ok) (f:∀x,x∈o.op.operands->YA E.G D ι s ρ x):B8 P D ι σ w (execOp ρ o) r:=by
 unfold ZV at h;unfold execOp
 split at h
 ·rename_i c i;simp only[i,Op.operands,Call.operands] at f⊢
  split at h
  ·rename_i z
   split at h
   ·rename_i x y j;have q:=GP (ρ:=ρ) _ _ j λx m=>f x (by simp at m⊢;exact .inr m)
    have A:(c.args.toList.map ρ).toArray=c.args.map ρ:=by apply Array.ext';simp
    rw[A] at q;have e:(do let d<-resolve ρ c o.type;invoke d.target d.args:Sem Next)=builtin .append c.argTypes o.type (c.args.map λ| .const _=>true|_=>false) (c.args.map ρ):=by
     simp only[resolve,z];rfl
    rw[e];obtain⟨I,J,n,m,B⟩:=q.two;rw[n];exact AF.next (Vw hE.T (w:=w) (ty:=o.type) (AX h) g m B)
   ·cases h
  ·cases h
 ·rename_i t a x i;simp only[i,Op.operands] at f⊢
  split at h
  ·rename_i v u k C;exact AF.nextU (O9 hE.T (AX h) g (f a (by simp) v k) (f x (by simp) u C))
  ·cases h
 ·rename_i src dst x i;simp only[i,Op.operands] at f⊢
  split at h
  ·rename_i v k;exact AF.next (TY hE (AX h) (f x (by simp) v k))
  ·cases h
 ·rename_i t l c i;simp only[i,Op.operands] at f⊢
  split at h
  ·rename_i a b j p;exact AF.next (TN hE.T (AX h) g (f l (by simp) a j) (f c (by simp) b p))
  ·cases h
 ·rename_i op t x y ty i;simp only[i,Op.operands] at f⊢
  split at h
  ·rename_i a b j p;exact AF.next (Rj hE (AX h) g (f x (by simp) a j) (f y (by simp) b p))
  ·cases h
 ·rename_i t x lo K i;simp only[i,Op.operands] at f⊢
  split at h
  ·rename_i v l L k F H;exact AF.next (TX hE.T (AX h) g (f x (by simp) v k) (GQ F λy e=>f y (by subst e;simp)) (GQ H λy e=>f y (by subst e;simp)))
  ·cases h
 ·cases h
include hE in
theorem ca {o:Oper} {r:R} (h:Gw P E s σ o=some (.val r)) (a:r.σ.Ok) (b:∀x,x∈o.op.operands->YA E.G D ι s ρ x):B8 P D ι σ w (execOp ρ o) r:=by
 unfold Gw Na at h
 split at h
 ·rename_i c;cases h;exact ABk hE c a b
 ·split at h
  ·rename_i c;cases h;exact jE hE c a b
  ·exact Zf hE h a b
theorem Zg {o:Oper} {f:FuncId} {args:List Value}:ZV E s σ o≠some (.enter f args):=by
 have a:∀x:Option R,B6 x≠some (.enter f args):=λx=>GR
 intro h;unfold ZV at h
 repeat' split at h
 all_goals first
  |exact a _ h
  |cases h
theorem TZ {o:Oper} {f:FuncId} {args:List Value}:Jo E s σ o≠some (.enter f args):=by
 have a:∀x,Jn σ x≠some (.enter f args):=λx=>by unfold Jn;split<;>simp
 have b:∀x:Option R,B6 x≠some (.enter f args):=λx=>GR
 intro h;unfold Jo at h
 repeat' split at h
 all_goals first
  |exact a _ h
  |exact b _ h
  |(unfold NX at h;repeat' split at h
    all_goals first|exact a _ h|cases h)
  |(unfold NY at h;repeat' split at h
    all_goals first|exact a _ h|exact b _ h|cases h)
  |(simp only[ZU,Bool.cond_eq_ite] at h;repeat' split at h
    all_goals cases h)
  |cases h
include hE in
theorem V3 {o:Oper} {f:FuncId} {args:List Value} (h:Gw P E s σ o=some (.enter f args)) (c:∀x,x∈o.op.operands->YA E.G D ι s ρ x):
  ∃a fn,AR D ι args.toArray a/\E.fn f=some fn/\(execOp ρ o).run P w=.ok (.enter f a) w:=by
 unfold Gw Na at h
 split at h
 ·rename_i b;cases h;exact absurd b Zg
 ·split at h
  ·rename_i b;cases h;exact Z5 hE b c
  ·exact absurd h TZ
end
end Go.Eng
end
end
end
section
noncomputable section
noncomputable section
namespace Go.Eng
open Go
def A3 (σ:St):(t:Ty)->List Value->Option (t.Den×List Value×List Nat×List Bool)
 | .int k,v::r=>match Bm v with
   |some (.int e n)=>bif decide (e=k) then some (n,r,[],[]) else none
   |_=>none
 | .byte,v::r=>match Bm v with
   |some (.int .u8 n)=>some (UInt8.ofNat n.toNat,r,[],[decide (Ad .u8 n)])
   |_=>none
 | .bool,v::r=>match Bm v with
   |some (.bool b)=>some (b,r,[],[])
   |_=>none
 | .f64,v::r=>match Bm v with
   |some (.float .f64 b)=>some (b,r,[],[])
   |_=>none
 | .cx,v::r=>match Bm v with
   |some (.complex .f64 a b)=>some ((a,b),r,[],[])
   |_=>none
 | .str,v::r=>match Bm v with
   |some (.string s)=>some (C8 s,r,[],[])
   |_=>none
 | .unit,c=>some ((),c,[],[])
 | .pair a b,c=>match A3 σ a c with
   |some (x,r,i,p)=>match A3 σ b r with
    |some (y,l,j,q)=>some ((x,y),l,i++j,p++q)
    |none=>none
   |none=>none
 | .slice a,v::r=>match v with
   | .slice none 0 0=>some ([],r,[],[])
   | .slice (some ⟨_,_,some 0⟩) 0 _=>some ([],r,[],[])
   | .tuple d=>match d.toList with
     |[.chan (some 2),.pointer (some ⟨id,0,none⟩)]=>match σ.heap.get id with
      |some (.dat t m)=>if h:t=a then some (h▸m,r,[id],[]) else none
      |_=>none
     |_=>none
   |_=>none
 | .err,v::r=>match ZO v with
   |some b=>some (b,r,[],[])
   |none=>none
 | .fn f,v::r=>match TK v with
   |some g=>bif Nat.beq g f then some ((),r,[],[]) else none
   |none=>none
 | .fv,v::r=>match TK v with
   |some g=>some (g,r,[],[])
   |none=>none
 | .ref _,_::_=>none
 | .clo _ _,_::_=>none
 |_,[]=>none
def Hn (σ:St):(ts:List Ty)->List Value->Option (AA ts×List Nat×List Bool)
 |[],[]=>some ((),[],[])
 |t::ts,v::vs=>match(bif t.agg then(match v with| .agg a=>some a.toList|_=>none) else some [v]) with
  |some a=>match A3 σ t a with
   |some (x,[],i,p)=>match Hn σ ts vs with
    |some (y,j,q)=>some ((x,y),i++j,p++q)
    |none=>none
   |_=>none
  |none=>none
 |_,_=>none
def IW:(rs:List Ty)->AA rs->List DC
 |[],_=>[]
 |r::rs,y=>X8 r y.1++IW rs y.2
def Zh:List Ty->List Value->List Value
 |[],_=>[]
 |r::rs,vs=>(bif r.agg then .agg (vs.take r.sz).toArray else(match vs with|v::_=>v|[]=>undef))::Zh rs (vs.drop r.sz)
section
variable {P:Program} {D:Nat->Prop} {ι:Nat->Reg} {σ σ':St} {w:World} {φ:Foot}
open Classical in
def IJ (ι:Nat->Reg) (a:List Nat) (w:World):Nat->Option (Array Value):=λb=>
 if ∃id,id∈a/\(ι id).Fz b then(match w.heap[b]? with|some (.cells c _ _)=>some c|_=>none) else none
theorem nv {a:List Nat} {id:Nat} (d:id∈a) (f:Bs (ι id).fz w) (b:Nat) (c:Array Value) (h:(ι id).fz b=some c):IJ ι a w b=some c:=by
 unfold IJ;rw[if_pos ⟨id,d,c,h⟩];obtain⟨e,fr,g⟩:=f b c h;rw[g]
theorem nw (a:List Nat):Bs (IJ ι a w) w:=by
 intro b c h;unfold IJ at h
 split at h
 ·split at h
  ·rename_i f e fr d;cases h;exact⟨e,fr,d⟩
  ·cases h
 ·cases h
theorem ny {a:List Nat} {b:Nat} {c:Array Value} (h:IJ ι a w b=some c):∃id,id∈a/\(ι id).Fz b:=by
 unfold IJ at h
 split at h
 ·assumption
 ·cases h
theorem Px {s:List Nat} (L:∀id,id∈s->∀x,σ.H.hdr id=some x->Am P ι id w x):∀(t:Ty) (o m:List Value) (x:t.Den) (r:List Value) (i:List Nat) (p:List Bool),A3 σ t o=some (x,r,i,p)->(∀id,id∈i->id∈s)->C5 p->LR D ι o m->
  ∃u v,m=u++v/\Bj (IJ ι s w) t x u/\LR D ι r v:=by
 intro t
 induction t with
 |int k=>
  intro o m x r i p h _ _ d;cases d with
  |nil=>simp[A3] at h
  |cons e j=>
   simp only[A3] at h
   split at h
   ·rename_i M n q;cases z:decide (M=k)
    ·rw[z] at h;cases h
    ·rw[z] at h;cases h;have:=of_decide_eq_true z;subst this;exact⟨[_],_,rfl,by rw[(AZ q e).1];rfl,j⟩
   ·cases h
 |byte=>
  intro o m x r i p h _ A d;cases d with
  |nil=>simp[A3] at h
  |cons e j=>
   simp only[A3] at h
   split at h
   ·rename_i n q;cases h;refine⟨[_],_,rfl,?_,j⟩;rw[(AZ q e).1];simp only[Bj];rw[<-ML (of_decide_eq_true A.1)]
   ·cases h
 |bool=>
  intro o m x r i p h _ _ d;cases d with
  |nil=>simp[A3] at h
  |cons e j=>
   simp only[A3] at h
   split at h
   ·rename_i b q;cases h;exact⟨[_],_,rfl,by rw[(AZ q e).1];rfl,j⟩
   ·cases h
 |ref a G=>
  intro o m x r i p h _ _ d;cases d<;>simp[A3] at h
 |clo f a G=>
  intro o m x r i p h _ _ d;cases d<;>simp[A3] at h
 |f64=>
  intro o m x r i p h _ _ d;cases d with
  |nil=>simp[A3] at h
  |cons e j=>
   simp only[A3] at h
   split at h
   ·rename_i b q;cases h;exact⟨[_],_,rfl,by rw[(AZ q e).1];rfl,j⟩
   ·cases h
 |cx=>
  intro o m x r i p h _ _ d;cases d with
  |nil=>simp[A3] at h
  |cons e j=>
   simp only[A3] at h
   split at h
   ·rename_i a b q;cases h;exact⟨[_],_,rfl,by rw[(AZ q e).1];rfl,j⟩
   ·cases h
 |str=>
  intro o m x r i p h _ _ d;cases d with
  |nil=>simp[A3] at h
  |cons e j=>
   simp only[A3] at h
   split at h
   ·rename_i b q;cases h;exact⟨[_],_,rfl,by rw[(AZ q e).1];simp only[Bj,Iy],j⟩
   ·cases h
 |unit=>
  intro o m x r i p h _ _ d;simp only[A3,Option.some.injEq,Prod.mk.injEq] at h;obtain⟨-,rfl, -⟩:=h;exact⟨[],m,rfl,rfl,d⟩
 |err=>
  intro o m x r i p h _ _ d;cases d with
  |nil=>simp[A3] at h
  |cons e j=>
   simp only[A3] at h
   split at h
   ·rename_i b q;cases h;exact⟨[_],_,rfl,⟨_,rfl,II q e⟩,j⟩
   ·cases h
 |fv=>
  intro o m x r i p h _ _ d;cases d with
  |nil=>simp[A3] at h
  |cons e j=>
   simp only[A3] at h
   split at h
   ·rename_i g q;cases h;exact⟨[_],_,rfl,by rw[EZ q e];rfl,j⟩
   ·cases h
 |fn f=>
  intro o m x r i p h _ _ d;cases d with
  |nil=>simp[A3] at h
  |cons e j=>
   simp only[A3] at h
   split at h
   ·rename_i g q;cases B:Nat.beq g f
    ·rw[B] at h;cases h
    ·rw[B] at h;cases h;have:=Nat.eq_of_beq_eq_true B;subst this;exact⟨[_],_,rfl,by rw[EZ q e];rfl,j⟩
   ·cases h
 |pair a b C E=>
  intro o m x r i p h y A d;simp only[A3] at h
  split at h
  ·rename_i N I O Q R
   split at h
   ·rename_i S r2 i2 T U;cases h;obtain⟨V,W⟩:=BK A;obtain⟨u,v,rfl,g1,X⟩:=C o m N I O Q R (λid hid=>y id (by simp[hid])) V d;obtain⟨J,v2,rfl,g3,g4⟩:=E I v S r i2 T U (λid hid=>y id (by simp[hid])) W X;exact⟨u++J,v2,by simp,⟨u,J,rfl,g1,g3⟩,g4⟩
   ·cases h
  ·cases h
 |slice a G=>
  intro o m x r i p h y _ d;cases d with
  |nil=>simp[A3] at h
  |cons e j=>
   simp only[A3] at h
   split at h
   ·cases h;cases e;exact⟨[_],_,rfl,⟨_,rfl,.inl ⟨⟨_,_,rfl⟩,rfl⟩⟩,j⟩
   ·cases h;cases e;exact⟨[_],_,rfl,⟨_,rfl,.inl ⟨⟨_,_,rfl⟩,rfl⟩⟩,j⟩
   ·rename_i Y
    split at h
    ·rename_i id Z;rw[BG Z] at e;obtain⟨a',l,c,rfl,hD,F⟩:=Cz e
     split at h
     ·rename_i t xs hg
      split at h
      ·rename_i he;subst he;cases h;have K:=y id (by simp);obtain⟨g1, -, -,g4⟩:=L id K _ (St.hdr_of hg);rw[F] at g1;exact⟨[_],_,rfl,⟨_,rfl,(g1.mono λb c h=>nv K g4 b c h)⟩,j⟩
      ·cases h
     ·cases h
    ·cases h
   ·cases h
theorem Ta {c:List Nat} (f:∀id,id∈c->∀x,σ.H.hdr id=some x->Am P ι id w x):∀(ts:List Ty) (vs d:List Value) (x:AA ts) (i:List Nat) (p:List Bool),Hn σ ts vs=some (x,i,p)->(∀id,id∈i->id∈c)->C5 p->LR D ι vs d->Bc (IJ ι c w) ts x d
 |[],vs,d,x,i,p,h,_,_,g=>by
  cases g with
  |nil=>rfl
  |cons _ _=>simp[Hn] at h
 |t::ts,vs,d,x,i,p,h,k,A,g=>by
  cases g with
  |nil=>simp[Hn] at h
  |cons m B=>
   rename_i v u vs d;simp only[Hn] at h
   split at h
   ·rename_i K b
    split at h
    ·rename_i n o r s
     split at h
     ·rename_i y j q C;cases h;obtain⟨z,E⟩:=BK A;refine⟨u,d,rfl,?_,Ta f ts vs d y j q C (λid hid=>k id (by simp[hid])) E B⟩;cases a:t.agg
      ·rw[a] at b;cases b;obtain⟨F,G,e,g1,l⟩:=Px f t [v] [u] n [] o r s (λid hid=>k id (by simp[hid])) z (.cons m .nil);cases l;rw[List.append_nil] at e;rw[<-e] at g1;exact .inr ⟨a,g1⟩
      ·rw[a,cond_true] at b
       split at b
       ·rename_i as;cases b;cases m with
        |agg _ bs I J=>
         obtain⟨F,G,e,g1,l⟩:=Px f t as.toList bs.toList n [] o r s (λid hid=>k id (by simp[hid])) z (LR.of_AR ⟨by simpa using I,by simpa using J⟩);cases l;rw[List.append_nil] at e;rw[<-e] at g1;exact .inl ⟨a,bs,rfl,g1⟩
       ·cases b
     ·cases h
    ·cases h
   ·cases h
theorem Rk {fz:Nat->Option (Array Value)}:∀(rs:List Ty) (y:AA rs) (n:List Value),Bc fz rs y n->∃o:List Value,(IW rs y).length=o.length/\(∀(k:Nat) d u,(IW rs y)[k]?=some d->o[k]?=some u->oJ fz d u)/\
  ∀(vs:List Value) (D:Nat->Prop) (ι:Nat->Reg),vs.length=o.length->(∀(k:Nat) v u,vs[k]?=some v->o[k]?=some u->VR D ι v u)->LR D ι (Zh rs vs) n
 |[],y,n,h=>by
  simp only[Bc] at h;subst h;exact⟨[],rfl,λk d u h=>by simp[IW] at h,λvs D ι _ _=>.nil⟩
 |r::rs,y,n,h=>by
  obtain⟨v,j,rfl,A,B⟩:=h;obtain⟨q,C,a2,a3⟩:=Rk rs y.2 j B;obtain⟨c,s,t⟩:∃c:List Value,((r.agg=true/\v=.agg ⟨c⟩)\/(r.agg=false/\c=[v]))/\Bj fz r y.1 c:=by
   rcases A with⟨e,E,rfl,g⟩|⟨e,g⟩
   ·exact⟨E.toList,.inl ⟨e,rfl⟩,g⟩
   ·exact⟨[v],.inr ⟨e,rfl⟩,g⟩
  obtain⟨l,x,F⟩:=I5 r y.1 c t;refine⟨c++q,by simp[IW,l,x,C],λk d u hd f=> ?_,λvs D ι z w=> ?_⟩
  ·simp only[IW] at hd;by_cases I:k<r.sz
   ·rw[List.getElem?_append_left (by omega)] at hd f;exact F k d u hd f
   ·rw[List.getElem?_append_right (by omega)] at hd f;rw[x] at hd;rw[l] at f;exact a2 _ d u hd f
  ·simp only[List.length_append,l] at z;refine .cons ?_ (a3 _ D ι (by rw[List.length_drop];omega) λk v u m f=> ?_)
   ·rcases s with⟨e,rfl⟩|⟨e,rfl⟩
    ·rw[e,cond_true];refine .agg _ _ ?_ λi a b p G=> ?_
     ·simp only[List.size_toArray,List.length_take];show min r.sz vs.length=c.length;omega
     ·simp only[List.getElem?_toArray,List.getElem?_take] at p
      split at p
      ·rename_i J;refine w i a b p ?_;rw[List.getElem?_append_left (by omega)];simpa using G
      ·cases p
    ·rw[e,cond_false];have H:r.sz=1:=by rw[<-l];rfl
     cases vs with
     |nil=>simp only[List.length_nil] at z;omega
     |cons a vs=>exact w 0 a v rfl rfl
   ·rw[List.getElem?_drop] at m;refine w _ v u m ?_;rw[List.getElem?_append_right (by omega),l];rw[Nat.add_sub_cancel_left];exact f
