/-
  The environment of the engine over the program. No condition.
-/
import Derived.Test.YtikedhemjoljpaaGreatDoorTab
import Derived.Test.YtikedhemjoljpaaGreatDoorEng10
import Derived.Laws.Externs
import Derived.Lib.MakeNoZero
import Derived.Laws.Entries
namespace Go.Proofs.YtikedhemjoljpaaGreatDoor
open Go Go.Eng
set_option maxRecDepth 100000

def pow10C : List Value := [.int .u64 1, .int .u64 10, .int .u64 100, .int .u64 1000, .int .u64 10000, .int .u64 100000, .int .u64 1000000, .int .u64 10000000, .int .u64 100000000, .int .u64 1000000000, .int .u64 10000000000, .int .u64 100000000000, .int .u64 1000000000000, .int .u64 10000000000000, .int .u64 100000000000000, .int .u64 1000000000000000, .int .u64 10000000000000000, .int .u64 100000000000000000, .int .u64 1000000000000000000, .int .u64 10000000000000000000]
/-- the listed variables that are read -/
def glC : List (Nat × List Value) := [(1, pow10C), (5, [er false]), (6, [er false]), (2, [ai .i64])]
noncomputable def entC (f : FuncId) : Option (Array Value → Sem Value) :=
  bif Nat.beq f 369 then some (Extern.MathFloor.toIntegral "math.archTrunc" .zero) else
  bif Nat.beq f 368 then some (Extern.BytealgIndexByte.indexByte) else
  bif Nat.beq f 474 then some (Extern.BytealgCount.count) else
  bif Nat.beq f 428 then some (Extern.MathFloatBits.float64bits) else
  bif Nat.beq f 429 then some (Extern.MathFloatBits.float64frombits) else
  none
noncomputable def extC (f : FuncId) (args : List Value) : Option Value :=
  bif Nat.beq f 425 then (match args with | [x] => some x | _ => none) else
  match entC f with
  | some e => bif args.all (plainN 8) then prunV Tryz.prog (e args.toArray) else none
  | none => none
noncomputable def mnzC (f : FuncId) : Option TypeId := bif Nat.beq f 432 then some 5 else none
/-- the environment, with what is known of some calls -/
noncomputable def envC (sum : FuncId → List Value → Option Value) (spec : FuncId → Option PSpec) : Eng.Env := ⟨teOf tyT, 10, fnOf fnT, extC, sum, glC, spec, mnzC, fun _ => none, fun _ => none, fun _ => none, fun _ => none, fun _ _ _ => none, false⟩

theorem beq_eq {a b : Nat} (h : Nat.beq a b = true) : a = b := Nat.eq_of_beq_eq_true h
theorem entC_run {f : FuncId} {e : Array Value → Sem Value} (h : entC f = some e) (args : Array Value) (w : World) : (callFunc f args).run Tryz.prog w = ((e args).run Tryz.prog w).andThen fun v w' => .ok (.value v) w' := by
  unfold entC at h
  cases h1 : Nat.beq f 369
  · rw [h1, cond_false] at h
    cases h2 : Nat.beq f 368
    · rw [h2, cond_false] at h
      cases h3 : Nat.beq f 474
      · rw [h3, cond_false] at h
        cases h4 : Nat.beq f 428
        · rw [h4, cond_false] at h
          cases h5 : Nat.beq f 429
          · rw [h5] at h; cases h
          · rw [h5] at h; cases h
            rw [beq_eq h5]
            exact run_callFunc_extern Tryz.func429 (by kernel_rfl) (by kernel_rfl) (by kernel_rfl) (by kernel_rfl) args w
        · rw [h4] at h; cases h
          rw [beq_eq h4]
          exact run_callFunc_extern Tryz.func428 (by kernel_rfl) (by kernel_rfl) (by kernel_rfl) (by kernel_rfl) args w
      · rw [h3] at h; cases h
        rw [beq_eq h3]
        exact run_callFunc_extern Tryz.func474 (by kernel_rfl) (by kernel_rfl) (by kernel_rfl) (by kernel_rfl) args w
    · rw [h2] at h; cases h
      rw [beq_eq h2]
      exact run_callFunc_extern Tryz.func368 (by kernel_rfl) (by kernel_rfl) (by kernel_rfl) (by kernel_rfl) args w
  · rw [h1] at h; cases h
    rw [beq_eq h1]
    exact run_callFunc_extern Tryz.func369 (by kernel_rfl) (by kernel_rfl) (by kernel_rfl) (by kernel_rfl) args w

theorem extC_run {f : FuncId} {args : List Value} {v : Value} (h : extC f args = some v) (D : Nat → Prop) (ι : Nat → Reg) (args' : Array Value) (w : World) (ha : AR D ι args.toArray args') :
    ∃ v', VR D ι v v' ∧ (callFunc f args').run Tryz.prog w = .ok (.value v') w := by
  unfold extC at h
  cases h1 : Nat.beq f 425
  · rw [h1, cond_false] at h
    split at h
    · rename_i e he
      cases hp : args.all (plainN 8)
      · rw [hp] at h; cases h
      · rw [hp, cond_true] at h
        have := plain_arr hp ha
        subst this
        unfold prunV at h
        split at h
        · rename_i u hu
          cases hq : plainN 8 u
          · rw [hq] at h; cases h
          · rw [hq] at h; cases h
            refine ⟨_, plain_refl 8 _ hq, ?_⟩
            rw [entC_run he, prun_run _ _ _ hu w]
            rfl
        · cases h
    · cases h
  · rw [h1, cond_true] at h
    split at h
    · cases h
      obtain ⟨x', rfl, hx⟩ := ha.one
      refine ⟨x', hx, ?_⟩
      rw [beq_eq h1, run_callFunc_extern Tryz.func425 (e := Extern.AbiNoEscape.same) (by kernel_rfl) (by kernel_rfl) (by kernel_rfl) (by kernel_rfl)]
      rfl
    · cases h

theorem mnzC_run (f e : Nat) (h : mnzC f = some e) (n : Nat) (w : World) (hn : n ≤ 281474976710656) : ∃ cs : Array Value, (callFunc f #[.int .i64 n]).run Tryz.prog w = .ok (.value (.slice (some ⟨w.heap.size, 0, none⟩) n cs.size)) (w.drew.drew.alloc (.cells cs e)) ∧ n ≤ cs.size := by
  unfold mnzC at h
  cases h1 : Nat.beq f 432
  · rw [h1] at h; cases h
  rw [h1] at h
  cases h
  rw [beq_eq h1]
  obtain ⟨cs, h1, h2, -⟩ := Lib.run_makeNoZero (P := Tryz.prog) w Tryz.f432.params 188 5 (by kernel_rfl) n hn
  refine ⟨cs, ?_, h2⟩
  rw [run_callFunc_extern Tryz.func432 (e := Extern.BytealgMakeNoZero.makeNoZero Tryz.f432.params #[188]) (by kernel_rfl) (by kernel_rfl) (by kernel_rfl) (by kernel_rfl), h1]
  rfl

theorem gl_ok : ∀ p, p ∈ glC → p.1 < 10 ∧ p.2.all glc = true := by
  intro p hp
  have : (glC.all fun p => Nat.blt p.1 10 && p.2.all glc) = true := by kernel_rfl
  have := List.all_eq_true.1 this p hp
  rw [Bool.and_eq_true] at this
  exact ⟨Nat.le_of_ble_eq_true this.1, this.2⟩
theorem gl_ne : ∀ p, p ∈ glC → p.2 ≠ [] := by
  intro p hp h
  have : (glC.all fun p => !p.2.isEmpty) = true := by kernel_rfl
  have := List.all_eq_true.1 this p hp
  rw [h] at this; cases this
theorem env_ok {sum : FuncId → List Value → Option Value} {spec : FuncId → Option PSpec} (hs : ∀ f a v, sum f a = some v → plainN 8 v = true ∧ a.all (plainN 8) = true ∧ ∀ w, GlW glC w → Calls Tryz.prog f a.toArray w fun e w' => e = .returned v ∧ Same w w')
    (hp : ∀ f S, spec f = some S → PureC Tryz.prog glC f S) : (envC sum spec).OK Tryz.prog where
  T := teOf_ok tyT_eq
  fn := fnOf_ok fnT_eq names_ok
  ext := fun f a v h D ι a' w ha => extC_run h D ι a' w ha
  sum := hs
  gl := gl_ok
  mixed := by kernel_rfl
  spec := hp
  mnz := mnzC_run
  cmp := fun _ _ h => by cases h
  osp := fun _ _ h => by cases h
  vsp := fun _ _ h => by cases h
  cus := fun _ _ _ _ _ _ h => by cases h

/-! ### calls that are known to give true -/
noncomputable def sum0 (_ : FuncId) (_ : List Value) : Option Value := none
noncomputable def spec0 (_ : FuncId) : Option PSpec := none
theorem env0 : (envC sum0 spec0).OK Tryz.prog := env_ok (fun f a v h => by cases h) (fun f S h => by cases h)
/-- a sum, with one more call of no arguments that gives true -/
noncomputable def sumT (g : FuncId) (sum : FuncId → List Value → Option Value) (f : FuncId) (a : List Value) : Option Value :=
  match a with
  | [] => bif Nat.beq f g then some (.bool true) else sum f []
  | x :: xs => sum f (x :: xs)
theorem env_more {g : FuncId} {sum : FuncId → List Value → Option Value} {spec : FuncId → Option PSpec} (h : (envC sum spec).OK Tryz.prog) (hg : ∀ w, GlW glC w → Calls Tryz.prog g #[] w fun e w' => e = .returned (.bool true) ∧ Same w w') : (envC (sumT g sum) spec).OK Tryz.prog :=
  env_ok (fun f a v hs => by
    cases a with
    | nil =>
      simp only [sumT] at hs
      cases hb : Nat.beq f g
      · rw [hb, cond_false] at hs
        exact h.sum f [] v hs
      · rw [hb, cond_true] at hs
        cases hs
        rw [beq_eq hb]
        exact ⟨rfl, rfl, hg⟩
    | cons x xs => exact h.sum f (x :: xs) v hs) h.spec
end Go.Proofs.YtikedhemjoljpaaGreatDoor
