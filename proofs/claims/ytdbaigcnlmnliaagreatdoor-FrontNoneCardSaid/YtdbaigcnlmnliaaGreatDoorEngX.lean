/-
  The engine, part X: operations on scalars of which only a word is known: what they give, and what is taken to hold. No condition.
-/
import Derived.Test.YtdbaigcnlmnliaaGreatDoorEngP
noncomputable section
namespace Go.Eng
open Go
section
variable {P : Program} {T : TE} (hT : T.OK P) {D : Nat → Prop} {ι : Nat → Reg} {σ : St} {w : World}

/-- it is symbolic -/
def isSy : Value → Bool
  | .tuple a => match a.toList with
    | [.chan (some 1), _] => true
    | _ => false
  | _ => false
/-- a scalar, symbolic or not -/
def unsy (v : Value) : Option Value :=
  match v with
  | .tuple a => match a.toList with
    | [.chan (some 1), v] => some v
    | _ => none
  | .bool b => some (.bool b)
  | .int k n => some (.int k n)
  | .string s => some (.string s)
  | _ => none
theorem sy_inv {v x' : Value} (h : VR D ι (sy v) x') : x' = v ∧ scal v = true := by
  cases h with
  | sym _ h => exact ⟨rfl, h⟩
  | tuple as bs hs h =>
    have hb : bs[0]? = some (bs[0]'(by rw [← hs]; exact Nat.succ_pos _)) := Array.getElem?_eq_getElem _
    exact (h 0 _ _ rfl hb).no_chan.elim
theorem tuple_eq {a : Array Value} {l : List Value} (h : a.toList = l) : a = ⟨l⟩ := by cases a; simp only at h; rw [h]
theorem unsy_spec {x x' v : Value} (h : unsy x = some v) (hx : VR D ι x x') : x' = v ∧ scal v = true := by
  unfold unsy at h
  split at h
  · rename_i a
    split at h
    · rename_i u hu
      cases h
      rw [tuple_eq hu] at hx
      exact sy_inv hx
    · cases h
  · cases h; cases hx; exact ⟨rfl, rfl⟩
  · cases h; cases hx; exact ⟨rfl, rfl⟩
  · cases h; cases hx; exact ⟨rfl, rfl⟩
  · cases h

/-- the number is one of the kind -/
def inK (k : IntKind) (n : Int) : Prop := k.min ≤ n ∧ n ≤ k.max
theorem wrap_inK {k : IntKind} {n : Int} (h : inK k n) : k.wrap n = n := by
  obtain ⟨h1, h2⟩ := h
  have key : ∀ (s : Bool) (m q : Int), (if (s && decide (m ≥ q)) = true then m - 2 * q else m) = if s = true ∧ m ≥ q then m - 2 * q else m := by
    intro s m q; cases s <;> simp
  cases k
  · show (if (true && decide (n % 2 ^ 8 ≥ (2 ^ 7 : Int))) = true then n % 2 ^ 8 - 2 * (2 ^ 7 : Int) else n % 2 ^ 8) = n
    have h1 : -(2 ^ 7 : Int) ≤ n := h1
    have h2 : n ≤ 2 ^ 7 - 1 := h2
    rw [key]; simp only [true_and]; split <;> omega
  · show (if (true && decide (n % 2 ^ 16 ≥ (2 ^ 15 : Int))) = true then n % 2 ^ 16 - 2 * (2 ^ 15 : Int) else n % 2 ^ 16) = n
    have h1 : -(2 ^ 15 : Int) ≤ n := h1
    have h2 : n ≤ 2 ^ 15 - 1 := h2
    rw [key]; simp only [true_and]; split <;> omega
  · show (if (true && decide (n % 2 ^ 32 ≥ (2 ^ 31 : Int))) = true then n % 2 ^ 32 - 2 * (2 ^ 31 : Int) else n % 2 ^ 32) = n
    have h1 : -(2 ^ 31 : Int) ≤ n := h1
    have h2 : n ≤ 2 ^ 31 - 1 := h2
    rw [key]; simp only [true_and]; split <;> omega
  · show (if (true && decide (n % 2 ^ 64 ≥ (2 ^ 63 : Int))) = true then n % 2 ^ 64 - 2 * (2 ^ 63 : Int) else n % 2 ^ 64) = n
    have h1 : -(2 ^ 63 : Int) ≤ n := h1
    have h2 : n ≤ 2 ^ 63 - 1 := h2
    rw [key]; simp only [true_and]; split <;> omega
  · have h1 : 0 ≤ n := h1
    have h2 : n ≤ 2 ^ 8 - 1 := h2
    show n % 2 ^ 8 = n
    omega
  · have h1 : 0 ≤ n := h1
    have h2 : n ≤ 2 ^ 16 - 1 := h2
    show n % 2 ^ 16 = n
    omega
  · have h1 : 0 ≤ n := h1
    have h2 : n ≤ 2 ^ 32 - 1 := h2
    show n % 2 ^ 32 = n
    omega
  · have h1 : 0 ≤ n := h1
    have h2 : n ≤ 2 ^ 64 - 1 := h2
    show n % 2 ^ 64 = n
    omega

def toL (s : ByteArray) : List UInt8 := s.data.toList
theorem bs_toL (s : ByteArray) : bs (toL s) = s := by cases s; rfl
theorem toL_bs (l : List UInt8) : toL (bs l) = l := rfl
theorem size_toL (s : ByteArray) : s.size = (toL s).length := by show s.data.size = s.data.toList.length; exact Array.length_toList.symm
theorem cat_toL (a b : ByteArray) : a ++ b = bs (toL a ++ toL b) := by
  apply ByteArray.ext
  simp [bs, toL]
theorem toList_toL (s : ByteArray) : s.toList = toL s := bytes_toList s

/-- what an operation gives, and what is taken to hold -/
def SV : Type := Value × List Prop
def sI (k : IntKind) (n : Int) : SV := bif k.signed then (.int k n, [inK k n]) else (.int k (k.wrap n), [])
theorem sI_spec {k : IntKind} {n : Int} {r : SV} (h : sI k n = r) (hp : AllP r.2) : r.1 = .int k (k.wrap n) := by
  unfold sI at h
  cases hs : k.signed
  · rw [hs] at h; subst h; rfl
  · rw [hs] at h
    subst h
    have : inK k n := hp.1
    show Value.int k n = _
    rw [wrap_inK this]

def sBin (op : BinOp) (x y : Value) : Option SV :=
  match x, y with
  | .int k a, .int k' b => match op with
    | .shl => some (.int k (k.wrap (a * 2 ^ (min b.toNat k.bits))), [0 ≤ b])
    | .shr => some (.int k (a.fdiv (2 ^ (min b.toNat k.bits))), [0 ≤ b])
    | _ => bif decide (k = k') then match op with
      | .add => some (sI k (a + b))
      | .sub => some (sI k (a - b))
      | .mul => some (sI k (a * b))
      | .quo => bif k.signed then some (.int k (a.tdiv b), [b ≠ 0, inK k (a.tdiv b)]) else some (.int k (k.wrap (a.tdiv b)), [b ≠ 0])
      | .rem => some (.int k (a.tmod b), [b ≠ 0])
      | .and => some (.int k (k.wrap (BitVec.ofInt k.bits a &&& BitVec.ofInt k.bits b).toNat), [])
      | .or => some (.int k (k.wrap (BitVec.ofInt k.bits a ||| BitVec.ofInt k.bits b).toNat), [])
      | .xor => some (.int k (k.wrap (BitVec.ofInt k.bits a ^^^ BitVec.ofInt k.bits b).toNat), [])
      | .andNot => some (.int k (k.wrap (BitVec.ofInt k.bits a &&& ~~~BitVec.ofInt k.bits b).toNat), [])
      | .eql => some (.bool (a == b), [])
      | .neq => some (.bool (a != b), [])
      | .lss => some (.bool (decide (a < b)), [])
      | .leq => some (.bool (decide (a ≤ b)), [])
      | .gtr => some (.bool (decide (a > b)), [])
      | .geq => some (.bool (decide (a ≥ b)), [])
      | _ => none
    else none
  | .string a, .string b => match op with
    | .add => some (.string (bs (toL a ++ toL b)), [(toL a).length + (toL b).length ≤ 1099511627776])
    | .eql => some (.bool (toL a == toL b), [])
    | .neq => some (.bool (!(toL a == toL b)), [])
    | .lss => some (.bool (Op.bytesLess (toL a) (toL b)), [])
    | .leq => some (.bool (Op.bytesLess (toL a) (toL b) || toL a == toL b), [])
    | .gtr => some (.bool (!(Op.bytesLess (toL a) (toL b) || toL a == toL b)), [])
    | .geq => some (.bool (!Op.bytesLess (toL a) (toL b)), [])
    | _ => none
  | .bool a, .bool b => match op with
    | .eql => some (.bool (a == b), [])
    | .neq => some (.bool (!(a == b)), [])
    | _ => none
  | _, _ => none

include hT in
theorem sBin_run {op : BinOp} {x y : Value} {r : SV} {t : TypeId} (ht : ∀ b, x = .bool b → T.und t = some .bool) (h : sBin op x y = some r) (hp : AllP r.2) (w : World) : (binOp op t x y).run P w = .ok r.1 w ∧ scal r.1 = true := by
  unfold sBin at h
  split at h
  · rename_i k a k' b
    split at h
    · cases h
      have hb : ¬ b < 0 := by have : 0 ≤ b := hp.1; omega
      exact ⟨by simp [binOp, Op.shift, hb], rfl⟩
    · cases h
      have hb : ¬ b < 0 := by have : 0 ≤ b := hp.1; omega
      exact ⟨by simp [binOp, Op.shift, hb], rfl⟩
    · cases hk : decide (k = k')
      · rw [hk] at h; cases h
      rw [hk, cond_true] at h
      have hk := of_decide_eq_true hk
      subst hk
      have arith : ∀ n, (sI k n).1 = r.1 → some (sI k n) = some r → r.1 = .int k (k.wrap n) := fun n _ e => sI_spec (r := r) (Option.some.inj e) hp
      split at h
      · have := sI_spec (r := r) (Option.some.inj h) hp
        rw [this]; exact ⟨by simp [binOp, Op.intArith], rfl⟩
      · have := sI_spec (r := r) (Option.some.inj h) hp
        rw [this]; exact ⟨by simp [binOp, Op.intArith], rfl⟩
      · have := sI_spec (r := r) (Option.some.inj h) hp
        rw [this]; exact ⟨by simp [binOp, Op.intArith], rfl⟩
      · cases hs : k.signed
        · rw [hs] at h; cases h
          have hb : b ≠ 0 := hp.1
          exact ⟨by simp [binOp, Op.intDiv, hb], rfl⟩
        · rw [hs] at h; cases h
          have hb : b ≠ 0 := hp.1
          have hi : inK k (a.tdiv b) := hp.2.1
          exact ⟨by simp [binOp, Op.intDiv, hb, wrap_inK hi], rfl⟩
      · cases h
        have hb : b ≠ 0 := hp.1
        exact ⟨by simp [binOp, Op.intDiv, hb], rfl⟩
      all_goals first
        | (cases h; exact ⟨by simp [binOp, Op.intBits, Op.intCmp], rfl⟩)
        | cases h
  · rename_i a b
    have hl : ∀ op, binOp op t (.string a) (.string b) = Op.stringOp op a b := fun op => by cases op <;> rfl
    rw [hl]
    split at h
    · cases h
      have hb : (toL a).length + (toL b).length ≤ 1099511627776 := hp.1
      have hn : ¬ (((a.size + b.size : Nat) : Int) > IntKind.i64.max) := by
        rw [size_toL, size_toL]
        show ¬ ((((toL a).length + (toL b).length : Nat) : Int) > 2 ^ 63 - 1)
        omega
      exact ⟨by simp only [Op.stringOp, if_neg hn, Sem.run_pure, cat_toL], rfl⟩
    all_goals first
      | (cases h; exact ⟨by simp only [Op.stringOp, toList_toL, Sem.run_pure], rfl⟩)
      | cases h
  · rename_i a b
    have hu := ht a rfl
    have hun : Op.equal t (.bool a) (.bool b) = Op.equalIn (9999 + 1) t (.bool a) (.bool b) := rfl
    have he : (Op.equal t (.bool a) (.bool b)).run P w = .ok (a == b) w := by
      rw [hun, Op.equalIn]
      simp only [Sem.run_bind, run_und hT hu, Result.andThen_ok]
      rfl
    split at h
    · cases h
      exact ⟨by simp only [binOp, Sem.run_bind, he, Result.andThen_ok, Sem.run_pure], rfl⟩
    · cases h
      exact ⟨by simp only [binOp, Sem.run_bind, he, Result.andThen_ok, Sem.run_pure], rfl⟩
    · cases h
  · cases h
omit hT

def sUn (op : UnOp) (x : Value) : Option SV :=
  match op, x with
  | .neg, .int k n => some (sI k (0 - n))
  | .xor, .int k n => some (.int k (k.wrap (BitVec.ofInt k.bits (if k.signed then -1 else k.max) ^^^ BitVec.ofInt k.bits n).toNat), [])
  | .not, .bool b => some (.bool (!b), [])
  | _, _ => none
theorem sUn_run {op : UnOp} {x : Value} {r : SV} (h : sUn op x = some r) (hp : AllP r.2) (w : World) : (Op.unary op x).run P w = .ok r.1 w ∧ scal r.1 = true := by
  unfold sUn at h
  split at h
  · have := sI_spec (r := r) (Option.some.inj h) hp
    rw [this]; exact ⟨by simp [Op.unary, Op.intArith], rfl⟩
  · cases h; exact ⟨by simp [Op.unary, Op.intBits], rfl⟩
  · cases h; exact ⟨rfl, rfl⟩
  · cases h

def sConv (T : TE) (src dst : TypeId) (x : Value) : Option SV :=
  match T.und src, T.und dst, x with
  | some _, some (.int k), .int k0 n => bif k.signed || decide (k = k0) then some (.int k n, [inK k n]) else some (.int k (k.wrap n), [])
  | some _, some .string, .string s => some (.string s, [])
  | _, _, _ => none
include hT in
theorem sConv_run {src dst : TypeId} {x : Value} {r : SV} (h : sConv T src dst x = some r) (hp : AllP r.2) (w : World) : (convert src dst x).run P w = .ok r.1 w ∧ scal r.1 = true := by
  unfold sConv at h
  split at h
  · rename_i d k k0 n h1 h2
    have e : (convert src dst (.int k0 n)).run P w = .ok (.int k (k.wrap n)) w := by
      simp only [convert, Sem.run_bind, run_und hT h1, run_und hT h2, Result.andThen_ok, Conv.intToInt, Sem.run_pure]
    rw [e]
    cases hs : (k.signed || decide (k = k0))
    · rw [hs] at h; cases h; exact ⟨rfl, rfl⟩
    · rw [hs] at h; cases h
      have : inK k n := hp.1
      exact ⟨by rw [wrap_inK this], rfl⟩
  · rename_i d s h1 h2
    cases h
    exact ⟨by simp only [convert, Sem.run_bind, run_und hT h1, run_und hT h2, Result.andThen_ok, Sem.run_pure], rfl⟩
  · cases h

def sIdx (T : TE) (t : TypeId) (x i : Value) : Option SV :=
  match T.und t, x, i with
  | some .string, .string s, .int _ n => some (.int .u8 ((toL s).getD n.toNat 0).toNat, [0 ≤ n, n < (toL s).length])
  | _, _, _ => none
include hT in
theorem sIdx_run {t : TypeId} {x i : Value} {r : SV} (h : sIdx T t x i = some r) (hp : AllP r.2) (w : World) : (Instr.index t x i).run P w = .ok r.1 w ∧ scal r.1 = true := by
  unfold sIdx at h
  split at h
  · rename_i s k n hu
    cases h
    have h0 : (0 : Int) ≤ n := hp.1
    have h1 : n < (toL s).length := hp.2.1
    have hlt : n.toNat < (toL s).length := by omega
    have hb : s[n.toNat]? = some ((toL s).getD n.toNat 0) := by
      rw [bytes_get]
      show (toL s)[n.toNat]? = _
      rw [List.getElem?_eq_getElem hlt, List.getD_eq_getElem?_getD, List.getElem?_eq_getElem hlt]
      rfl
    exact ⟨by simp only [Instr.index, asIntOf, Sem.run_bind, Sem.run_pure, Result.andThen_ok, run_und hT hu, h0, if_true, hb], rfl⟩
  · cases h

/-- a cut of a string -/
def sCut (T : TE) (t : TypeId) (x : Value) (lo hi : Option Value) : Option SV :=
  match T.und t, x, lo, hi with
  | some .string, .string s, none, none => some (.string s, [])
  | some .string, .string s, some (.int _ n), none => some (.string (bs ((toL s).drop n.toNat)), [0 ≤ n, n ≤ (toL s).length])
  | some .string, .string s, none, some (.int _ m) => some (.string (bs ((toL s).take m.toNat)), [0 ≤ m, m ≤ (toL s).length])
  | some .string, .string s, some (.int _ n), some (.int _ m) => some (.string (bs (((toL s).take m.toNat).drop n.toNat)), [0 ≤ n, n ≤ m, m ≤ (toL s).length])
  | _, _, _, _ => none
theorem bound_run {k : IntKind} {n : Int} {y : Nat} {code : BoundsCode} (h0 : 0 ≤ n) (h1 : n ≤ y) (w : World) : (Instr.sliceBound (.int k n) y code).run P w = .ok n.toNat w := by
  simp only [Instr.sliceBound, asIntOf, Sem.run_bind, Sem.run_pure, Result.andThen_ok, h0, h1, and_self, if_true]
theorem extract_toL (s : ByteArray) (l h : Nat) : s.extract l h = bs (((toL s).take h).drop l) := by
  rw [bsub_eq, bsub, List.drop_take]; rfl
include hT in
theorem sCut_run {t : TypeId} {x : Value} {lo hi : Option Value} {r : SV} (h : sCut T t x lo hi = some r) (hp : AllP r.2) (w : World) : (Instr.sliceAt t x lo hi none).run P w = .ok r.1 w ∧ scal r.1 = true := by
  unfold sCut at h
  split at h
  · rename_i s hu
    cases h
    refine ⟨?_, rfl⟩
    simp only [Instr.sliceAt, Instr.slice, Sem.run_bind, run_und hT hu, Result.andThen_ok, Option.isSome_none, Bool.false_eq_true, if_false, Sem.run_pure, Instr.sliceBounds, extract_toL]
    rw [size_toL, List.take_length, List.drop_zero, bs_toL]
  · rename_i s k n hu
    cases h
    have h0 : (0 : Int) ≤ n := hp.1
    have h1 : n ≤ (toL s).length := hp.2.1
    refine ⟨?_, rfl⟩
    have hb := fun c => bound_run (P := P) (k := k) (code := c) h0 (y := s.size) (by rw [size_toL]; exact h1) w
    simp only [Instr.sliceAt, Instr.slice, Sem.run_bind, run_und hT hu, Result.andThen_ok, Option.isSome_none, Bool.false_eq_true, if_false, Sem.run_pure, Instr.sliceBounds, hb, extract_toL]
    rw [size_toL, List.take_length]
  · rename_i s k m hu
    cases h
    have h0 : (0 : Int) ≤ m := hp.1
    have h1 : m ≤ (toL s).length := hp.2.1
    refine ⟨?_, rfl⟩
    have hb := fun c => bound_run (P := P) (k := k) (code := c) h0 (y := s.size) (by rw [size_toL]; exact h1) w
    simp only [Instr.sliceAt, Instr.slice, Sem.run_bind, run_und hT hu, Result.andThen_ok, Option.isSome_none, Bool.false_eq_true, if_false, Sem.run_pure, Instr.sliceBounds, hb, extract_toL, List.drop_zero]
  · rename_i s k n k2 m hu
    cases h
    have h0 : (0 : Int) ≤ n := hp.1
    have h1 : n ≤ m := hp.2.1
    have h2 : m ≤ (toL s).length := hp.2.2.1
    refine ⟨?_, rfl⟩
    have hb := fun c => bound_run (P := P) (k := k2) (code := c) (by omega : 0 ≤ m) (y := s.size) (by rw [size_toL]; exact h2) w
    have hc := fun c => bound_run (P := P) (k := k) (code := c) h0 (y := m.toNat) (by omega) w
    simp only [Instr.sliceAt, Instr.slice, Sem.run_bind, run_und hT hu, Result.andThen_ok, Option.isSome_none, Bool.false_eq_true, if_false, Sem.run_pure, Instr.sliceBounds, hb, hc, extract_toL]
  · cases h

/-- the least, the greatest -/
def sMM (b : Builtin) (x : Value) : List Value → Option Value
  | [] => some x
  | y :: ys => match b, x, y with
    | .min, .int k n, .int _ m => sMM b (.int k (min n m)) ys
    | .max, .int k n, .int _ m => sMM b (.int k (max n m)) ys
    | _, _, _ => none
def sBI (T : TE) (b : Builtin) (argTypes : List TypeId) (args : List Value) : Option SV :=
  match b, args with
  | .len, [.string s] => match argTypes with
    | t :: _ => match T.und t with
      | some .string => some (.int .i64 (toL s).length, [])
      | _ => none
    | _ => none
  | .min, .int k n :: xs => match sMM .min (.int k n) xs with
    | some v => some (v, [])
    | none => none
  | .max, .int k n :: xs => match sMM .max (.int k n) xs with
    | some v => some (v, [])
    | none => none
  | _, _ => none
theorem sMM_min : ∀ (ys : List Value) (k : IntKind) (n : Int) (v : Value), sMM .min (.int k n) ys = some v → (∃ m, v = .int k m) ∧ ∀ w, (ys.foldlM Builtin.min2 (.int k n)).run P w = .ok v w
  | [], k, n, v, h => by simp only [sMM, Option.some.injEq] at h; subst h; exact ⟨⟨_, rfl⟩, fun w => rfl⟩
  | y :: ys, k, n, v, h => by
    cases y with
    | int k2 m =>
      simp only [sMM] at h
      obtain ⟨h1, h2⟩ := sMM_min ys k _ v h
      refine ⟨h1, fun w => ?_⟩
      have e : (Builtin.min2 (.int k n) (.int k2 m)).run P w = .ok (.int k (min n m)) w := by
        simp only [Builtin.min2, Sem.run_pure]
        congr 2
        rw [Int.min_def]
        split <;> split <;> omega
      simp only [List.foldlM_cons, Sem.run_bind, e, Result.andThen_ok, h2]
    | _ => simp [sMM] at h
theorem sMM_max : ∀ (ys : List Value) (k : IntKind) (n : Int) (v : Value), sMM .max (.int k n) ys = some v → (∃ m, v = .int k m) ∧ ∀ w, (ys.foldlM Builtin.max2 (.int k n)).run P w = .ok v w
  | [], k, n, v, h => by simp only [sMM, Option.some.injEq] at h; subst h; exact ⟨⟨_, rfl⟩, fun w => rfl⟩
  | y :: ys, k, n, v, h => by
    cases y with
    | int k2 m =>
      simp only [sMM] at h
      obtain ⟨h1, h2⟩ := sMM_max ys k _ v h
      refine ⟨h1, fun w => ?_⟩
      have e : (Builtin.max2 (.int k n) (.int k2 m)).run P w = .ok (.int k (max n m)) w := by
        simp only [Builtin.max2, Sem.run_pure]
        congr 2
        rw [Int.max_def]
        split <;> split <;> omega
      simp only [List.foldlM_cons, Sem.run_bind, e, Result.andThen_ok, h2]
    | _ => simp [sMM] at h
include hT in
theorem sBI_run {b : Builtin} {ty : TypeId} {argTypes : Array TypeId} {consts : Array Bool} {args : List Value} {r : SV} (h : sBI T b argTypes.toList args = some r) (w : World) :
    (builtin b argTypes ty consts args.toArray).run P w = .ok (.value r.1) w ∧ scal r.1 = true ∧ r.2 = [] := by
  have tl : ∀ t l, argTypes.toList = t :: l → argTypes[0]? = some t := fun t l e => by rw [← Array.getElem?_toList, e]; rfl
  unfold sBI at h
  split at h
  · rename_i s
    split at h
    · rename_i t l ht
      split at h
      · rename_i hu
        cases h
        refine ⟨?_, rfl, rfl⟩
        have : (Builtin.len_ argTypes ty [Value.string s].toArray).run P w = .ok (.int .i64 (toL s).length) w := by
          simp only [Builtin.len_, tl _ _ ht, List.getElem?_toArray, List.getElem?_cons_zero, Sem.run_bind, run_und hT hu, Result.andThen_ok, Sem.run_pure, goInt, size_toL]
        show (do Pure.pure (Next.value (← Builtin.len_ argTypes ty [Value.string s].toArray)) : Sem Next).run P w = _
        simp only [Sem.run_bind, this, Result.andThen_ok, Sem.run_pure]
      · cases h
    · cases h
  · rename_i k n xs
    split at h
    · rename_i v hv
      cases h
      obtain ⟨⟨m, rfl⟩, h2⟩ := sMM_min (P := P) xs k n v hv
      refine ⟨?_, rfl, rfl⟩
      have : (Builtin.min_ argTypes ty (Value.int k n :: xs).toArray).run P w = .ok (.int k m) w := h2 w
      show (do Pure.pure (Next.value (← Builtin.min_ argTypes ty (Value.int k n :: xs).toArray)) : Sem Next).run P w = _
      simp only [Sem.run_bind, this, Result.andThen_ok, Sem.run_pure]
    · cases h
  · rename_i k n xs
    split at h
    · rename_i v hv
      cases h
      obtain ⟨⟨m, rfl⟩, h2⟩ := sMM_max (P := P) xs k n v hv
      refine ⟨?_, rfl, rfl⟩
      have : (Builtin.max_ argTypes ty (Value.int k n :: xs).toArray).run P w = .ok (.int k m) w := h2 w
      show (do Pure.pure (Next.value (← Builtin.max_ argTypes ty (Value.int k n :: xs).toArray)) : Sem Next).run P w = _
      simp only [Sem.run_bind, this, Result.andThen_ok, Sem.run_pure]
    · cases h
  · cases h
end
end Go.Eng
