/-
  The engine, part L: one operation, whatever it is. No condition.
-/
import Derived.Test.YtdbaigcnlmnliaaGreatDoorEngP
noncomputable section
namespace Go.Eng
open Go

/-- package-level variables hold what they hold -/
def isEr : Value → Bool
  | .tuple a => match a.toList with
    | [.chan (some 3), .bool _] => true
    | _ => false
  | _ => false
def isAi : Value → Bool
  | .tuple a => match a.toList with
    | [.chan (some 4), .int _ 0] => true
    | _ => false
  | _ => false
/-- what may be told of a listed variable's cell -/
def glc (c : Value) : Bool := plainN 8 c || isEr c || isAi c
def glR (c u : Value) : Prop := (plainN 8 c = true ∧ u = c) ∨ (∃ b, c = er b ∧ isE b u = true) ∨ ∃ k n, c = ai k ∧ u = .int k n
theorem isAi_spec {c : Value} (h : isAi c = true) : ∃ k, c = ai k := by
  unfold isAi at h
  split at h
  · rename_i a
    split at h
    · rename_i k hb
      refine ⟨k, ?_⟩
      cases a
      simp only at hb
      rw [hb]
    · cases h
  · cases h
theorem ai_inv {D : Nat → Prop} {ι : Nat → Reg} {k : IntKind} {x' : Value} (h : VR D ι (ai k) x') : ∃ n, x' = .int k n := by
  cases h with
  | aint _ n => exact ⟨n, rfl⟩
  | tuple as bs hs h =>
    have hb : bs[0]? = some (bs[0]'(by rw [← hs]; exact Nat.succ_pos _)) := Array.getElem?_eq_getElem _
    exact (h 0 _ _ rfl hb).no_chan.elim
theorem isEr_spec {c : Value} (h : isEr c = true) : ∃ b, c = er b := by
  unfold isEr at h
  split at h
  · rename_i a
    split at h
    · rename_i b hb
      refine ⟨b, ?_⟩
      cases a
      simp only at hb
      rw [hb]
    · cases h
  · cases h
theorem er_inv {D : Nat → Prop} {ι : Nat → Reg} {b : Bool} {x' : Value} (h : VR D ι (er b) x') : isE b x' = true := by
  cases h with
  | err _ _ h => exact h
  | tuple as bs hs h =>
    have hb : bs[0]? = some (bs[0]'(by rw [← hs]; exact Nat.succ_pos _)) := Array.getElem?_eq_getElem _
    exact (h 0 _ _ rfl hb).no_chan.elim
theorem glR.vr {D : Nat → Prop} {ι : Nat → Reg} {c u : Value} (h : glR c u) : VR D ι c u := by
  rcases h with ⟨h, rfl⟩ | ⟨b, rfl, h⟩ | ⟨k, n, rfl, rfl⟩
  · exact plain_refl 8 _ h
  · exact .err b u h
  · exact .aint k n
theorem glR.of {D : Nat → Prop} {ι : Nat → Reg} {c u : Value} (h : glc c = true) (hv : VR D ι c u) : glR c u := by
  unfold glc at h
  rw [Bool.or_eq_true, Bool.or_eq_true] at h
  rcases h with (h | h) | h
  · exact .inl ⟨h, plain_eq 8 _ _ h hv⟩
  · obtain ⟨b, rfl⟩ := isEr_spec h
    exact .inr (.inl ⟨b, rfl, er_inv hv⟩)
  · obtain ⟨k, rfl⟩ := isAi_spec h
    obtain ⟨n, rfl⟩ := ai_inv hv
    exact .inr (.inr ⟨k, n, rfl, rfl⟩)
def GlW (gl : List (Nat × List Value)) (w : World) : Prop := ∀ p, p ∈ gl → ∀ (i : Nat) c, p.2[i]? = some c → ∃ u, w.cell? ⟨p.1, i, none⟩ = some u ∧ glR c u
/-- what stood stands -/
def Same (w w' : World) : Prop := w.heap.size ≤ w'.heap.size ∧ w'.os = w.os ∧ w'.output = w.output ∧ ∀ b, b < w.heap.size → w'.heap[b]? = w.heap[b]?
/-- a call with arguments that read as data returns what reads as data; what stood stands -/
def PureC (P : Program) (gl : List (Nat × List Value)) (f : FuncId) (S : PSpec) : Prop :=
  ∀ (fz : Nat → Option (Array Value)) (w : World) (args : Array Value) (x : DenL S.ts), FzOK fz w → GlW gl w → (∀ p, p ∈ gl → fz p.1 = none) → RdAll fz S.ts x args.toList → S.pre x →
    Calls P f args w fun e w' => ∃ vs fz', e = .returned (resV vs) ∧ (∀ b c, fz b = some c → fz' b = some c) ∧ FzOK fz' w' ∧ (∀ b c, fz' b = some c → fz b = some c ∨ w.heap.size ≤ b) ∧ RdAll fz' S.rs (S.g x) vs ∧ Same w w'
structure Env where
  T : TE
  G : Nat
  fn : FuncId → Option Func
  ext : FuncId → List Value → Option Value
  sum : FuncId → List Value → Option Value
  gl : List (Nat × List Value)
  spec : FuncId → Option PSpec
  /-- functions that lay a slice of some bytes -/
  mnz : FuncId → Option TypeId := fun _ => none
structure Env.OK (E : Env) (P : Program) : Prop where
  T : E.T.OK P
  fn : ∀ f x, E.fn f = some x → P.funcs[f]? = some x ∧ x.body.isSome = true ∧ (x.name == "runtime.NumGoroutine") = false
  ext : ∀ f a v, E.ext f a = some v → ∀ (D : Nat → Prop) (ι : Nat → Reg) (a' : Array Value) (w : World), AR D ι a.toArray a' → ∃ v', VR D ι v v' ∧ (callFunc f a').run P w = .ok (.value v') w
  sum : ∀ f a v, E.sum f a = some v → plainN 8 v = true ∧ a.all (plainN 8) = true ∧ ∀ w, GlW E.gl w → Calls P f a.toArray w fun e w' => e = .returned v ∧ Same w w'
  gl : ∀ p, p ∈ E.gl → p.1 < E.G ∧ p.2.all glc = true
  mixed : P.follows .mixedOrders = true
  spec : ∀ f S, E.spec f = some S → PureC P E.gl f S
  mnz : ∀ f e, E.mnz f = some e → ∀ (n : Nat) (w : World), n ≤ 281474976710656 → ∃ cs : Array Value, (callFunc f #[.int .i64 n]).run P w = .ok (.value (.slice (some ⟨w.heap.size, 0, none⟩) n cs.size)) (w.drew.drew.alloc (.cells cs e)) ∧ n ≤ cs.size

/-- package-level variables lie where they lie -/
def GI (E : Env) (D : Nat → Prop) (ι : Nat → Reg) : Prop := ∀ g, g < E.G → D g ∧ (ι g).blk = g ∧ (ι g).base = 0

inductive OpR where
  | val (r : R)
  | enter (f : FuncId) (args : List Value)

def av (G : Nat) (s : Tr Value) : Operand → Option Value
  | .tmp t => s.get t
  | .const v => bif plainN 8 v then some v else none
  | .global g => bif Nat.blt g G then some (.pointer (some ⟨g, 0, none⟩)) else none
  | .func f => some (.func (.func f) #[] #[])
def avs (G : Nat) (s : Tr Value) : List Operand → Option (List Value)
  | [] => some []
  | x :: xs => match av G s x with
    | some v => match avs G s xs with
      | some l => some (v :: l)
      | none => none
    | none => none
def avo (G : Nat) (s : Tr Value) : Option Operand → Option (Option Value)
  | none => some none
  | some x => match av G s x with
    | some v => some (some v)
    | none => none
def avp (G : Nat) (s : Tr Value) : List (Nat × Operand) → Option (List (Nat × Value))
  | [] => some []
  | (i, x) :: xs => match av G s x with
    | some v => match avp G s xs with
      | some l => some ((i, v) :: l)
      | none => none
    | none => none

def pureV (σ : St) : Option Value → Option OpR
  | some v => some (.val ⟨v, σ, .nil⟩)
  | none => none
def memV : Option R → Option OpR
  | some r => some (.val r)
  | none => none

def aBin (P : Program) (T : TE) (op : BinOp) (t : TypeId) (ox oy : Operand) (x y : Value) : Option Value :=
  match x, y with
  | .int k a, .int k' b => match op with
    | .shl => shBin .shl k a b
    | .shr => shBin .shr k a b
    | _ => if k = k' then intBin op k a b else none
  | .string a, .string b => strBin op a b
  | _, _ => match aEqV T t x y, op with
    | some b, .eql => some (.bool b)
    | some b, .neq => some (.bool (!b))
    | _, _ => bif plainN 8 x && plainN 8 y then
        match prun P (do eqGuard op t ox oy x y; binOp op t x y) with
        | some v => bif plainN 8 v then some v else none
        | none => none
      else none

def prunV (P : Program) (e : Sem Value) : Option Value :=
  match prun P e with
  | some v => bif plainN 8 v then some v else none
  | none => none

def isU8 : Option TypeDesc → Bool
  | some (.int .u8) => true
  | _ => false

def aConv (P : Program) (T : TE) (σ : St) (src dst : TypeId) (x : Value) : Option R :=
  match T.und src, T.und dst, x with
  | some _, some (.int k), .int _ n => some ⟨.int k (k.wrap n), σ, .nil⟩
  | some _, some .string, .string s => some ⟨.string s, σ, .nil⟩
  | some _, some (.slice e), .string s => bif isU8 (T.und e) then aStringToBytes T σ e s else none
  | some (.slice e), some .string, .slice a l c => bif isU8 (T.und e) then aBytesToString σ (.slice a l c) else none
  | some (.pointer t), some .unsafePointer, .pointer a => aToUns T σ t (.pointer a)
  | some .unsafePointer, some (.pointer t), .pointer a => aFromUns T σ t (.pointer a)
  | _, _, _ => bif plainN 8 x then match prunV P (convert src dst x) with
      | some v => some ⟨v, σ, .nil⟩
      | none => none
    else none

def aBuiltin (P : Program) (T : TE) (σ : St) (b : Builtin) (argTypes : Array TypeId) (ty : TypeId) (consts : Array Bool) (args : List Value) : Option R :=
  match b, args with
  | .len, [.slice _ n _] => match argTypes.toList with
    | t :: _ => match T.und t with
      | some (.slice _) => some ⟨goInt n, σ, .nil⟩
      | _ => none
    | _ => none
  | .len, [.string s] => match argTypes.toList with
    | t :: _ => match T.und t with
      | some .string => some ⟨goInt s.size, σ, .nil⟩
      | _ => none
    | _ => none
  | .cap, [.slice _ _ c] => match argTypes.toList with
    | t :: _ => match T.und t with
      | some (.slice _) => bif Nat.beq c unk then none else some ⟨goInt c, σ, .nil⟩
      | _ => none
    | _ => none
  | .append, [s, x] => aAppend T σ argTypes s x
  | .copy, [d, x] => aCopy T σ argTypes d x
  | .unsafeSliceData, [x] => match aSliceData x with
    | some v => some ⟨v, σ, .nil⟩
    | none => none
  | .unsafeString, [x, .int _ n] => match argTypes.toList with
    | pt :: _ => aUString T σ pt x n
    | _ => none
  | _, _ => bif args.all (plainN 8) then match prun P (builtin b argTypes ty consts args.toArray) with
      | some (.value v) => bif plainN 8 v then some ⟨v, σ, .nil⟩ else none
      | _ => none
    else none

def aOp (P : Program) (E : Env) (s : Tr Value) (σ : St) (o : Oper) : Option OpR :=
  match o.op with
  | .move x => pureV σ (av E.G s x)
  | .assign x => pureV σ (av E.G s x)
  | .pick c a b => match av E.G s c with
    | some (.bool true) => pureV σ (av E.G s a)
    | some (.bool false) => pureV σ (av E.G s b)
    | _ => none
  | .alloc elem => memV (aAlloc E.T σ elem)
  | .box elem x => match av E.G s x with
    | some v => bif notJ v then memV (aNew E.T σ elem v.cells.toList) else none
    | none => none
  | .build t ps => match avp E.G s ps.toList with
    | some l => pureV σ (aBuild E.T t l)
    | none => none
  | .buildSlice t n ps => match avp E.G s ps.toList with
    | some l => memV (aBuildSlice E.T σ t n l)
    | none => none
  | .load t a => match av E.G s a with
    | some v => memV (aLoad E.T σ t v)
    | none => none
  | .store t a x => match av E.G s a, av E.G s x with
    | some v, some u => memV (aStore E.T σ t v u)
    | _, _ => none
  | .nilCheck x => match av E.G s x with
    | some (.pointer (some a)) => pureV σ (some (.pointer (some a)))
    | some (.iface t v) => pureV σ (some (.iface t v))
    | some (.func (.func f) a b) => pureV σ (some (.func (.func f) a b))
    | _ => none
  | .binOp op t x y _ => match av E.G s x, av E.G s y with
    | some a, some b => pureV σ (aBin P E.T op t x y a b)
    | _, _ => none
  | .unOp op _ x => match av E.G s x with
    | some (.bool b) => match op with
      | .not => pureV σ (some (.bool (!b)))
      | _ => none
    | some v => pureV σ (bif plainN 8 v then prunV P (Op.unary op v) else none)
    | none => none
  | .convert src dst x => match av E.G s x with
    | some v => memV (aConv P E.T σ src dst v)
    | none => none
  | .makeInterface t x => match av E.G s x, E.T.und t with
    | some v, some d => match d with
      | .interface _ => none
      | _ => pureV σ (some (.iface t v))
    | _, _ => none
  | .makeFunc fn first captured => match avs E.G s first.toList, avs E.G s captured.toList with
    | some l, some m => pureV σ (some (.func fn l.toArray m.toArray))
    | _, _ => none
  | .makeSlice t l c => match av E.G s l, av E.G s c with
    | some a, some b => memV (aMakeSlice E.T σ t a b)
    | _, _ => none
  | .slice t x lo hi mx => match av E.G s x, avo E.G s lo, avo E.G s hi, avo E.G s mx with
    | some v, some l, some h, some m => memV (aSlice E.T σ t v l h m)
    | _, _, _, _ => none
  | .fieldAddr t x f => match av E.G s x with
    | some v => memV (aFieldAddr E.T σ t v f)
    | none => none
  | .field t x f => match av E.G s x with
    | some v => pureV σ (aField E.T t v f)
    | none => none
  | .indexAddr t x i => match av E.G s x, av E.G s i with
    | some v, some u => memV (aIndexAddr E.T σ t v u)
    | _, _ => none
  | .index t x i => match av E.G s x, av E.G s i with
    | some v, some u => pureV σ (aIndex E.T t v u)
    | _, _ => none
  | .range t x => match av E.G s x with
    | some v => memV (aRange E.T σ t v)
    | none => none
  | .next it isS => match av E.G s it with
    | some v => memV (aNext σ v isS)
    | none => none
  | .extract x i => match av E.G s x with
    | some v => pureV σ (aExtract v i)
    | none => none
  | .call c => match avs E.G s c.args.toList with
    | some args => match c.callee with
      | .builtin b => memV (aBuiltin P E.T σ b c.argTypes o.type (c.args.map fun | .const _ => true | _ => false) args)
      | .value f => match av E.G s f with
        | some (.func (.func g) first captured) => match E.fn g with
          | some _ => some (.enter g (first.toList ++ args ++ captured.toList))
          | none => pureV σ (E.ext g (first.toList ++ args ++ captured.toList))
        | _ => none
      | _ => none
    | none => none
  | _ => none

section
variable {P : Program} {E : Env} (hE : E.OK P) {D : Nat → Prop} {ι : Nat → Reg} {σ : St} {w : World} {s : Tr Value} {ρ : Operand → Value}

def SoundN (P : Program) (D : Nat → Prop) (ι : Nat → Reg) (σ : St) (w : World) (e : Sem Next) (r : R) : Prop :=
  σ.next ≤ r.σ.next ∧ (σ.wf → r.σ.wf ∧ AFr σ r.σ r.φ) ∧ (σ.wf → (∀ id, σ.rng r.σ id → ¬ D id) → HOn P D ι σ.H r.φ w →
    ∃ nx v' ι' w', e.run P w = .ok nx w' ∧ (nx = .value v' ∨ (nx = .skip ∧ v' = undef)) ∧ VR (fun i => D i ∨ σ.rng r.σ i) ι' r.v v' ∧ Post P D (σ.rng r.σ) ι σ.H w r.φ ι' r.σ.H w')

theorem Sound.next {e : Sem Value} {r : R} (h : Sound P D ι σ w e r) : SoundN P D ι σ w (do Pure.pure (.value (← e))) r := by
  obtain ⟨h1, h2, h3⟩ := h
  refine ⟨h1, h2, fun a b c => ?_⟩
  obtain ⟨v', ι', w', g1, g2, g3⟩ := h3 a b c
  exact ⟨.value v', v', ι', w', by simp only [Sem.run_bind, g1, Result.andThen_ok, Sem.run_pure], .inl rfl, g2, g3⟩
theorem Sound.nextU {e : Sem Unit} {r : R} (h : Sound P D ι σ w (do e; Pure.pure undef) r) : SoundN P D ι σ w (do e; Pure.pure .skip) r := by
  obtain ⟨h1, h2, h3⟩ := h
  refine ⟨h1, h2, fun a b c => ?_⟩
  obtain ⟨v', ι', w', g1, g2, g3⟩ := h3 a b c
  simp only [Sem.run_bind] at g1
  cases hr : e.run P w with
  | ok u w2 =>
    rw [hr] at g1
    simp only [Result.andThen_ok, Sem.run_pure, Result.ok.injEq] at g1
    obtain ⟨rfl, rfl⟩ := g1
    exact ⟨.skip, undef, ι', w2, by simp only [Sem.run_bind, hr, Result.andThen_ok, Sem.run_pure], .inr ⟨rfl, rfl⟩, g2, g3⟩
  | halt hh w2 => rw [hr] at g1; simp at g1

def Rel (G : Nat) (D : Nat → Prop) (ι : Nat → Reg) (s : Tr Value) (ρ : Operand → Value) (x : Operand) : Prop := ∀ v, av G s x = some v → VR D ι v (ρ x)

theorem avs_rel {G : Nat} : ∀ (xs : List Operand) (l : List Value), avs G s xs = some l → (∀ x, x ∈ xs → Rel G D ι s ρ x) → AR D ι l.toArray (xs.map ρ).toArray
  | [], l, h, _ => by
    simp only [avs, Option.some.injEq] at h
    subst h
    exact ⟨rfl, by simp⟩
  | x :: xs, l, h, hr => by
    simp only [avs] at h
    split at h
    · rename_i v hv
      split at h
      · rename_i l' hl
        cases h
        obtain ⟨h1, h2⟩ := avs_rel xs l' hl fun y hy => hr y (by simp [hy])
        refine ⟨by simpa using h1, fun i a b ha hb => ?_⟩
        rcases i with _ | i
        · simp at ha hb
          subst ha hb
          exact hr x (by simp) v hv
        · exact h2 i a b (by simpa using ha) (by simpa using hb)
      · cases h
    · cases h

theorem avo_rel {G : Nat} {x : Option Operand} {v : Option Value} (h : avo G s x = some v) (hr : ∀ y, x = some y → Rel G D ι s ρ y) : OR D ι v (x.map ρ) := by
  unfold avo at h
  split at h
  · cases h; exact .none
  · rename_i y
    split at h
    · rename_i u hu
      cases h; exact .some _ _ (hr y rfl u hu)
    · cases h

theorem avp_rel {G : Nat} : ∀ (xs : List (Nat × Operand)) (l : List (Nat × Value)), avp G s xs = some l → (∀ x, x ∈ xs.map (·.2) → Rel G D ι s ρ x) → PR D ι l (xs.map fun (i, x) => (i, ρ x))
  | [], l, h, _ => by
    simp only [avp, Option.some.injEq] at h
    subst h
    exact .nil
  | (i, x) :: xs, l, h, hr => by
    simp only [avp] at h
    split at h
    · rename_i v hv
      split at h
      · rename_i l' hl
        cases h
        exact .cons i v (ρ x) l' _ (hr x (by simp) v hv) (avp_rel xs l' hl fun y hy => hr y (by
          simp only [List.map_cons, List.mem_cons]; exact .inr hy))
      · cases h
    · cases h

theorem prunV_sound {e : Sem Value} {v : Value} (h : prunV P e = some v) : Sound P D ι σ w e ⟨v, σ, .nil⟩ := by
  unfold prunV at h
  split at h
  · rename_i u hu
    cases hp : plainN 8 u
    · rw [hp] at h; cases h
    · rw [hp] at h; cases h
      exact prun_sound hu hp
  · cases h

theorem eqGuard_run {op : BinOp} {t : TypeId} {ox oy : Operand} {x y : Value} (h1 : x = .nilIface → y ≠ .nilIface) (h2 : ∀ c, x ≠ .agg c) (w : World) : (eqGuard op t ox oy x y).run P w = .ok () w := by
  have : eqGuard op t ox oy x y = Pure.pure () := by
    cases op <;> first
      | rfl
      | (cases x <;> first
          | rfl
          | exact absurd rfl (h2 _)
          | (cases y <;> first | rfl | exact absurd rfl (h1 rfl)))
  rw [this]; rfl

def notNum : Value → Bool
  | .int .. | .float .. | .complex .. | .string _ | .chan (some _) | .tuple _ => false
  | _ => true
theorem VR.notNum {x x' : Value} (h : VR D ι x x') (hn : notNum x = true) : notNum x' = true := by cases h <;> first | rfl | cases hn
theorem aEqV_notNum {T : TE} {t : TypeId} {x y : Value} {b : Bool} (h : aEqV T t x y = some b) : notNum x = true := by
  cases x <;> first | rfl | simp [aEqV] at h
theorem binOp_eql {t : TypeId} {x y : Value} (h : notNum x = true) : binOp .eql t x y = (do Pure.pure (.bool (← Op.equal t x y))) := by
  cases x <;> first | rfl | cases h
theorem binOp_neq {t : TypeId} {x y : Value} (h : notNum x = true) : binOp .neq t x y = (do Pure.pure (.bool (!(← Op.equal t x y)))) := by
  cases x <;> first | rfl | cases h

include hE
theorem aBin_sound {op : BinOp} {t : TypeId} {ox oy : Operand} {x y x' y' v : Value} (h : aBin P E.T op t ox oy x y = some v) (hx : VR D ι x x') (hy : VR D ι y y') :
    Sound P D ι σ w (do eqGuard op t ox oy x' y'; binOp op t x' y') ⟨v, σ, .nil⟩ := by
  unfold aBin at h
  split at h
  · rename_i k a k' b
    cases hx; cases hy
    have hg := fun w => eqGuard_run (P := P) (op := op) (t := t) (ox := ox) (oy := oy) (x := .int k a) (y := .int k' b) (by simp) (by simp) w
    have hi : ∀ u, intBin op k a b = some u → VR D ι u u := fun u hu => by
      cases op <;> simp only [intBin] at hu <;> first | (cases hu; done) | (cases hu; exact .int _ _) | (cases hu; exact .bool _) | (split at hu <;> cases hu <;> exact .int _ _)
    have hsh : ∀ op u, shBin op k a b = some u → VR D ι u u := fun op u hu => by
      unfold shBin at hu
      split at hu
      · cases hu
      · cases op <;> simp only at hu <;> cases hu <;> exact .int _ _
    split at h
    · exact Sound.pure (v' := v) (by simp only [Sem.run_bind, hg, Result.andThen_ok]; exact shBin_run h w) (hsh _ v h)
    · exact Sound.pure (v' := v) (by simp only [Sem.run_bind, hg, Result.andThen_ok]; exact shBin_run h w) (hsh _ v h)
    · split at h
      · rename_i hk
        subst hk
        exact Sound.pure (v' := v) (by simp only [Sem.run_bind, hg, Result.andThen_ok]; exact intBin_run h w) (hi v h)
      · cases h
  · rename_i a b
    cases hx; cases hy
    have hg := fun w => eqGuard_run (P := P) (op := op) (t := t) (ox := ox) (oy := oy) (x := .string a) (y := .string b) (by simp) (by simp) w
    have hv : VR D ι v v := by
      cases op <;> simp only [strBin] at h <;> first | (cases h; done) | (cases h; exact .bool _) | skip
      cases hb : Nat.ble (a.size + b.size) 1099511627776
      · rw [hb] at h; cases h
      · rw [hb] at h; cases h; exact .string _
    refine Sound.pure (v' := v) ?_ hv
    have e : binOp op t (.string a) (.string b) = Op.stringOp op a b := by cases op <;> rfl
    simp only [Sem.run_bind, hg, Result.andThen_ok, e]
    exact strBin_run h w
  · split at h
    · rename_i b hb
      cases h
      obtain ⟨e1, e2, e3⟩ := aEqV_run hE.T hb hx hy w
      refine Sound.pure (v' := .bool b) ?_ (.bool _)
      have hn := hx.notNum (aEqV_notNum hb)
      simp only [Sem.run_bind, eqGuard_run e2 e3, Result.andThen_ok, binOp_eql hn, e1, Sem.run_pure]
    · rename_i b hb
      cases h
      obtain ⟨e1, e2, e3⟩ := aEqV_run hE.T hb hx hy w
      refine Sound.pure (v' := .bool (!b)) ?_ (.bool _)
      have hn := hx.notNum (aEqV_notNum hb)
      simp only [Sem.run_bind, eqGuard_run e2 e3, Result.andThen_ok, binOp_neq hn, e1, Sem.run_pure]
    · cases hp : (plainN 8 x && plainN 8 y)
      · rw [hp] at h; cases h
      · rw [hp, cond_true] at h
        rw [Bool.and_eq_true] at hp
        have ex := plain_eq 8 x x' hp.1 hx
        have ey := plain_eq 8 y y' hp.2 hy
        subst ex ey
        exact prunV_sound h
omit hE
end
end Go.Eng
