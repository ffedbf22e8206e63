/-
  The engine, part K: iterators over strings, comparisons, arithmetic, conversions, calls of built-in functions. No condition.
-/
import Derived.Test.YtdbaigcnlmnliaaGreatDoorEngJ
noncomputable section
namespace Go.Eng
open Go
section
variable {P : Program} {T : TE} (hT : T.OK P) {D : Nat → Prop} {ι : Nat → Reg} {σ : St} {w : World}

/-! ### iterators over strings -/
def aRange (T : TE) (σ : St) (t : TypeId) (x : Value) : Option R :=
  match x with
  | .string s => match T.und t with
    | some .string => some ⟨.pointer (some ⟨σ.next, 0, none⟩), σ.new (.iter s 0), .nil⟩
    | _ => none
  | _ => none
include hT
theorem aRange_sound {t : TypeId} {x x' : Value} {r : R} (h : aRange T σ t x = some r) (hx : VR D ι x x') : Sound P D ι σ w (Instr.range t x') r := by
  unfold aRange at h
  split at h
  · rename_i s
    cases hx
    split at h
    · rename_i hu
      cases h
      refine ⟨by simp [St.new], fun hw => ⟨St.new_wf hw _, AFr.new _ _ _⟩, fun hw _ _ => ?_⟩
      refine ⟨.pointer (some ⟨w.heap.size, 0, none⟩), upd ι σ.next (rg w.heap.size 0 0 0), { w with heap := w.heap.push (.stringIter s 0) }, ?_, ?_, Post.newIter hw⟩
      · simp only [Instr.range, Sem.run_bind, run_und hT hu, Result.andThen_ok, Sem.run_pure, run_newObj]
      · have := VR.ptr (D := fun i => D i ∨ σ.rng (σ.new (.iter s 0)) i) (ι := upd ι σ.next (rg w.heap.size 0 0 0)) σ.next 0 (.inr (St.rng_new.2 rfl))
        rw [upd_eq] at this
        exact this
    · cases h
  · cases h
omit hT

def aNext (σ : St) (it : Value) (isString : Bool) : Option R :=
  match it with
  | .pointer (some ⟨id, 0, none⟩) => match isString, σ.heap.get id with
    | true, some (.iter s pos) => bif Nat.blt pos s.size then
        match Utf8.decode s pos with
        | (c, wd) => some ⟨.tuple #[.bool true, goInt pos, .int .i32 c], σ.put id (some (.iter s (pos + wd))), ⟨[], [], [], [id]⟩⟩
      else some ⟨.tuple #[.bool false], σ, ⟨[], [id], [], []⟩⟩
    | _, _ => none
  | _ => none

theorem run_getIter (P : Program) (w : World) {b : Nat} {s : ByteArray} {pos : Nat} (h : w.heap[b]? = some (.stringIter s pos)) : (getObj b).run P w = .ok (.stringIter s pos) w := by
  simp only [getObj, Sem.run, h]
theorem run_setIter (P : Program) (w : World) {b : Nat} {s : ByteArray} {pos : Nat} (h : w.heap[b]? = some (.stringIter s pos)) (o : Obj) : (setObj b o).run P w = .ok () { w with heap := w.heap.setIfInBounds b o } := by
  simp only [setObj, Sem.run, h]

theorem aNext_sound {it it' : Value} {isString : Bool} {ty : TypeId} {r : R} (h : aNext σ it isString = some r) (hx : VR D ι it it') : Sound P D ι σ w (Instr.next it' isString ty) r := by
  unfold aNext at h
  split at h
  · rename_i id
    obtain ⟨rfl, hD⟩ := hx.ptr_inv
    split at h
    · rename_i s pos hg
      have hlk : ∀ φ : Foot, φ.Fi id → HOn P D ι σ.H φ w → w.heap[(ι id).blk]? = some (.stringIter s pos) ∧ (ι id).base = 0 ∧ (ι id).own = true ∧ ∀ b, ¬ (ι id).Fz b := fun φ hf ho => ho.hd id _ hf (St.hdr_of hg)
      cases hb : Nat.blt pos s.size
      · rw [hb, cond_false] at h
        cases h
        refine Sound.same (w' := w) (v' := .tuple #[.bool false]) (fun ho => ?_) rfl rfl
        obtain ⟨e1, e2, -⟩ := hlk _ (.inr (.inl (by simp))) ho
        refine ⟨?_, plain_refl 3 _ rfl, rfl, rfl, rfl⟩
        have hn : ¬ pos < s.size := by
          intro h
          have : Nat.blt pos s.size = true := by simpa using h
          rw [this] at hb; cases hb
        simp only [e2, Nat.zero_add, Instr.next, Sem.run_bind, run_getIter P w e1, Result.andThen_ok, if_neg hn, Sem.run_pure]
      · rw [hb, cond_true] at h
        have hlt : pos < s.size := by simpa using hb
        split at h
        rename_i c wd hdec
        cases h
        refine ⟨Nat.le_refl _, fun hw => ⟨St.put_wf hw (St.lv_lt hw (St.lv_of hg)) _, AFr.whole (by simp)⟩, fun hw _ ho => ?_⟩
        obtain ⟨e1, e2, e3⟩ := hlk _ (.inr (.inr (.inr (by simp)))) ho
        refine ⟨.tuple #[.bool true, goInt pos, .int .i32 c], ι, _, ?_, plain_refl 3 _ rfl, Post.setIter hg ⟨e1, e2, e3⟩⟩
        simp only [e2, Nat.zero_add, Instr.next, Sem.run_bind, run_getIter P w e1, Result.andThen_ok, if_pos hlt, hdec, run_setIter P w e1, Sem.run_pure]
    · cases h
  · cases h

/-! ### comparisons -/
def beqL : List UInt8 → List UInt8 → Bool
  | [], [] => true
  | a :: x, b :: y => bif Nat.beq a.toNat b.toNat then beqL x y else false
  | _, _ => false
theorem beqL_eq : ∀ (x y : List UInt8), beqL x y = (x == y)
  | [], [] => rfl
  | [], _ :: _ => rfl
  | _ :: _, [] => rfl
  | a :: x, b :: y => by
    simp only [beqL, List.cons_beq_cons, beqL_eq x y]
    by_cases h : a = b
    · subst h; rw [beq_t rfl]; simp
    · have : a.toNat ≠ b.toNat := fun e => h (UInt8.toNat_inj.1 e)
      rw [beq_f this]
      simp [h]
def bltL : List UInt8 → List UInt8 → Bool
  | _, [] => false
  | [], _ :: _ => true
  | a :: x, b :: y => bif Nat.blt a.toNat b.toNat then true else bif Nat.beq a.toNat b.toNat then bltL x y else false
theorem bltL_eq : ∀ (x y : List UInt8), bltL x y = Op.bytesLess x y
  | [], [] => rfl
  | [], _ :: _ => rfl
  | _ :: _, [] => rfl
  | a :: x, b :: y => by
    simp only [bltL, Op.bytesLess, bltL_eq x y]
    by_cases h1 : a < b
    · have : Nat.blt a.toNat b.toNat = true := by
        have := UInt8.lt_iff_toNat_lt.1 h1
        simpa using this
      simp [h1, this]
    · have h2 : Nat.blt a.toNat b.toNat = false := by
        cases hb : Nat.blt a.toNat b.toNat
        · rfl
        · have : a.toNat < b.toNat := by simpa using hb
          exact absurd (UInt8.lt_iff_toNat_lt.2 this) h1
      by_cases h : a = b
      · subst h; simp
      · have : a.toNat ≠ b.toNat := fun e => h (UInt8.toNat_inj.1 e)
        simp [h1, h2, beq_f this, h]

theorem bytes_toList (s : ByteArray) : s.toList = s.data.toList := by
  have key : ∀ (n i : Nat) (r : List UInt8), s.size - i = n → ByteArray.toList.loop s i r = r.reverse ++ s.data.toList.drop i := by
    intro n
    induction n with
    | zero =>
      intro i r h
      unfold ByteArray.toList.loop
      rw [if_neg (by omega)]
      have : s.data.toList.length ≤ i := by simp; omega
      rw [List.drop_eq_nil_of_le this]; simp
    | succ n ih =>
      intro i r h
      unfold ByteArray.toList.loop
      rw [if_pos (by omega), ih (i + 1) _ (by omega)]
      have hi : i < s.data.toList.length := by simp; omega
      rw [List.drop_eq_getElem_cons hi]
      have hi2 : i < s.data.size := by simpa using hi
      have : s.get! i = s.data.toList[i] := by
        simp only [ByteArray.get!, getElem!_def, Array.getElem?_eq_getElem hi2, Array.getElem_toList]
      simp [this]
  unfold ByteArray.toList
  rw [key _ 0 [] rfl]; simp

def strBin (op : BinOp) (x y : ByteArray) : Option Value :=
  match op with
  | .add => bif Nat.ble (x.size + y.size) 1099511627776 then some (.string ⟨(x.data.toList ++ y.data.toList).toArray⟩) else none
  | .eql => some (.bool (beqL x.data.toList y.data.toList))
  | .neq => some (.bool (!beqL x.data.toList y.data.toList))
  | .lss => some (.bool (bltL x.data.toList y.data.toList))
  | .leq => some (.bool (bltL x.data.toList y.data.toList || beqL x.data.toList y.data.toList))
  | .gtr => some (.bool (!(bltL x.data.toList y.data.toList || beqL x.data.toList y.data.toList)))
  | .geq => some (.bool (!bltL x.data.toList y.data.toList))
  | _ => none
theorem strBin_run {op : BinOp} {x y : ByteArray} {v : Value} (h : strBin op x y = some v) (w : World) : (Op.stringOp op x y).run P w = .ok v w := by
  cases op <;> simp only [strBin] at h <;> try cases h
  case add =>
    cases hb : Nat.ble (x.size + y.size) 1099511627776
    · rw [hb] at h; cases h
    · rw [hb] at h
      have hb := Nat.le_of_ble_eq_true hb
      cases h
      have hn : ¬ (((x.size + y.size : Nat) : Int) > IntKind.i64.max) := by
        show ¬ (((x.size + y.size : Nat) : Int) > 2 ^ 63 - 1)
        omega
      simp only [Op.stringOp, if_neg hn, Sem.run_pure]
      congr 2
  all_goals simp only [Op.stringOp, bytes_toList, beqL_eq, bltL_eq, Sem.run_pure]

def intBin (op : BinOp) (k : IntKind) (a b : Int) : Option Value :=
  match op with
  | .add => some (.int k (k.wrap (a + b)))
  | .sub => some (.int k (k.wrap (a - b)))
  | .mul => some (.int k (k.wrap (a * b)))
  | .quo => if b = 0 then none else some (.int k (k.wrap (a.tdiv b)))
  | .rem => if b = 0 then none else some (.int k (a.tmod b))
  | .and => some (.int k (k.wrap (BitVec.ofInt k.bits a &&& BitVec.ofInt k.bits b).toNat))
  | .or => some (.int k (k.wrap (BitVec.ofInt k.bits a ||| BitVec.ofInt k.bits b).toNat))
  | .xor => some (.int k (k.wrap (BitVec.ofInt k.bits a ^^^ BitVec.ofInt k.bits b).toNat))
  | .andNot => some (.int k (k.wrap (BitVec.ofInt k.bits a &&& ~~~BitVec.ofInt k.bits b).toNat))
  | .eql => some (.bool (a == b))
  | .neq => some (.bool (a != b))
  | .lss => some (.bool (decide (a < b)))
  | .leq => some (.bool (decide (a ≤ b)))
  | .gtr => some (.bool (decide (a > b)))
  | .geq => some (.bool (decide (a ≥ b)))
  | _ => none

theorem intBin_run {op : BinOp} {t : TypeId} {k : IntKind} {a b : Int} {v : Value} (h : intBin op k a b = some v) (w : World) : (binOp op t (.int k a) (.int k b)).run P w = .ok v w := by
  cases op <;> simp only [intBin] at h <;> try cases h
  case quo =>
    split at h
    · cases h
    · rename_i hb; cases h; simp [binOp, Op.intDiv, hb]
  case rem =>
    split at h
    · cases h
    · rename_i hb; cases h; simp [binOp, Op.intDiv, hb]
  all_goals simp [binOp, Op.intArith, Op.intBits, Op.intCmp]

def shBin (op : BinOp) (k : IntKind) (a b : Int) : Option Value :=
  if b < 0 then none else
  match op with
  | .shl => some (.int k (k.wrap (a * 2 ^ (min b.toNat k.bits))))
  | .shr => some (.int k (a.fdiv (2 ^ (min b.toNat k.bits))))
  | _ => none
theorem shBin_run {op : BinOp} {t : TypeId} {k k' : IntKind} {a b : Int} {v : Value} (h : shBin op k a b = some v) (w : World) : (binOp op t (.int k a) (.int k' b)).run P w = .ok v w := by
  unfold shBin at h
  split at h
  · cases h
  · rename_i hb
    cases op <;> simp only at h <;> cases h <;> simp [binOp, Op.shift, hb]

/-- values that are compared, some of them by where they lie -/
def aEqV (T : TE) (t : TypeId) (x y : Value) : Option Bool :=
  match x, y with
  | .bool a, .bool b => match T.und t with
    | some .bool => some (a == b)
    | _ => none
  | .pointer none, .pointer b => match T.und t with
    | some (.pointer _) => some b.isNone
    | _ => none
  | .pointer (some _), .pointer none => match T.und t with
    | some (.pointer _) => some false
    | _ => none
  | .pointer (some ⟨i, o, none⟩), .pointer (some ⟨j, p, none⟩) => match T.und t with
    | some (.pointer e) => match T.inf e with
      | some ie => bif Nat.beq i j && !Nat.beq ie.size 0 then some (Nat.beq o p) else none
      | none => none
    | _ => none
  | .slice none _ _, .slice b _ _ => match T.und t with
    | some (.slice _) => some b.isNone
    | _ => none
  | .slice (some _) _ _, .slice none _ _ => match T.und t with
    | some (.slice _) => some false
    | _ => none
  | .nilIface, .iface _ _ => match T.und t with
    | some (.interface _) => some false
    | _ => none
  | .iface _ _, .nilIface => match T.und t with
    | some (.interface _) => some false
    | _ => none
  | .func .., .nilFunc => match T.und t with
    | some (.func ..) => some false
    | _ => none
  | .nilFunc, .func .. => match T.und t with
    | some (.func ..) => some false
    | _ => none
  | _, _ => none

theorem VR.ptr_shape {a : Addr} {v' : Value} (h : VR D ι (.pointer (some a)) v') : ∃ a', v' = .pointer (some a') := by
  cases h with
  | ptr id off h => exact ⟨_, rfl⟩
  | pel id i j b o l c h e => exact ⟨_, rfl⟩
theorem VR.sl_shape {a : Addr} {l c : Nat} {v' : Value} (h : VR D ι (.slice (some a) l c) v') : ∃ a' c', v' = .slice (some a') l c' := by
  cases h with
  | slK id off l c h hc => exact ⟨_, _, rfl⟩
  | slU id off l c h h1 h2 => exact ⟨_, _, rfl⟩
  | slE id off o' c h h1 h2 => exact ⟨_, _, rfl⟩

include hT
theorem aEqV_run {t : TypeId} {x x' y y' : Value} {b : Bool} (h : aEqV T t x y = some b) (hx : VR D ι x x') (hy : VR D ι y y') (w : World) :
    (Op.equal t x' y').run P w = .ok b w ∧ (x' = .nilIface → y' ≠ .nilIface) ∧ (∀ c, x' ≠ .agg c) := by
  have hun : Op.equal t x' y' = Op.equalIn (9999 + 1) t x' y' := rfl
  rw [hun, Op.equalIn]
  simp only [Sem.run_bind]
  unfold aEqV at h
  split at h
  · split at h
    · rename_i hu
      cases h; cases hx; cases hy
      exact ⟨by simp only [run_und hT hu, Result.andThen_ok, Sem.run_pure] <;> rfl, by simp, by simp⟩
    · cases h
  · rename_i bb
    split at h
    · rename_i e hu
      cases h; cases hx
      cases bb with
      | none => cases hy; exact ⟨by simp only [run_und hT hu, Result.andThen_ok, Sem.run_pure] <;> rfl, by simp, by simp⟩
      | some a => obtain ⟨a', rfl⟩ := hy.ptr_shape; exact ⟨by simp only [run_und hT hu, Result.andThen_ok, Sem.run_pure] <;> rfl, by simp, by simp⟩
    · cases h
  · split at h
    · rename_i hu
      cases h; cases hy
      obtain ⟨a', rfl⟩ := hx.ptr_shape
      exact ⟨by simp only [run_und hT hu, Result.andThen_ok, Sem.run_pure] <;> rfl, by simp, by simp⟩
    · cases h
  · rename_i i o j p
    split at h
    · rename_i e hu
      split at h
      · rename_i ie he
        cases hb : (Nat.beq i j && !Nat.beq ie.size 0)
        · rw [hb] at h; cases h
        · rw [hb, cond_true] at h
          rw [Bool.and_eq_true] at hb
          have hij := Nat.eq_of_beq_eq_true hb.1
          subst hij
          have hz : ie.size ≠ 0 := fun e => by rw [e] at hb; cases hb.2
          cases h
          obtain ⟨rfl, _⟩ := hx.ptr_inv
          obtain ⟨rfl, _⟩ := hy.ptr_inv
          refine ⟨?_, by simp, by simp⟩
          have : ((⟨(ι i).blk, (ι i).base + o, none⟩ : Addr) == ⟨(ι i).blk, (ι i).base + p, none⟩) = Nat.beq o p := by
            by_cases e : o = p
            · subst e; rw [beq_t rfl]; simp
            · rw [beq_f e]
              simp only [beq_eq_false_iff_ne, ne_eq, Addr.mk.injEq, true_and, and_true]
              omega
          have hs : (sameAddr ⟨(ι i).blk, (ι i).base + o, none⟩ ⟨(ι i).blk, (ι i).base + p, none⟩).run P w = .ok (Nat.beq o p) w := by
            simp only [sameAddr, beq_self_eq_true, if_true, Sem.run_pure, this]
          simp only [run_und hT hu, Result.andThen_ok, Sem.run_bind, run_siz hT he, ne_eq, hz, not_false_eq_true, if_true, hs]
      · cases h
    · cases h
  · rename_i bb l c
    split at h
    · rename_i hu
      cases h; cases hx
      cases bb with
      | none => cases hy; exact ⟨by simp only [run_und hT hu, Result.andThen_ok, Sem.run_pure] <;> rfl, by simp, by simp⟩
      | some a => obtain ⟨a', c', rfl⟩ := hy.sl_shape; exact ⟨by simp only [run_und hT hu, Result.andThen_ok, Sem.run_pure] <;> rfl, by simp, by simp⟩
    · cases h
  · split at h
    · rename_i hu
      cases h; cases hy
      obtain ⟨a', c', rfl⟩ := hx.sl_shape
      exact ⟨by simp only [run_und hT hu, Result.andThen_ok, Sem.run_pure] <;> rfl, by simp, by simp⟩
    · cases h
  · split at h
    · rename_i hu
      cases h; cases hx; cases hy
      exact ⟨by simp only [run_und hT hu, Result.andThen_ok, Sem.run_pure] <;> rfl, by simp, by simp⟩
    · cases h
  · split at h
    · rename_i hu
      cases h; cases hx; cases hy
      exact ⟨by simp only [run_und hT hu, Result.andThen_ok, Sem.run_pure] <;> rfl, by simp, by simp⟩
    · cases h
  · split at h
    · rename_i hu
      cases h; cases hx; cases hy
      exact ⟨by simp only [run_und hT hu, Result.andThen_ok, Sem.run_pure] <;> rfl, by simp, by simp⟩
    · cases h
  · split at h
    · rename_i hu
      cases h; cases hx; cases hy
      exact ⟨by simp only [run_und hT hu, Result.andThen_ok, Sem.run_pure] <;> rfl, by simp, by simp⟩
    · cases h
  · cases h
omit hT
end
end Go.Eng
