/-
  The program's tables, and the environment of the engine over it. No condition.
-/
import Derived.Test.YtpdbgpkedehpgaaGreatDoorTab
import Derived.Test.YtpdbgpkedehpgaaGreatDoorEngY
import Derived.Laws.Externs
namespace Go.Proofs.YtpdbgpkedehpgaaGreatDoor
open Go Go.Eng
set_option maxRecDepth 100000

def pow10C : List Value := [.int .u64 1, .int .u64 10, .int .u64 100, .int .u64 1000, .int .u64 10000, .int .u64 100000, .int .u64 1000000, .int .u64 10000000, .int .u64 100000000, .int .u64 1000000000, .int .u64 10000000000, .int .u64 100000000000, .int .u64 1000000000000, .int .u64 10000000000000, .int .u64 100000000000000, .int .u64 1000000000000000, .int .u64 10000000000000000, .int .u64 100000000000000000, .int .u64 1000000000000000000, .int .u64 10000000000000000000]
noncomputable def entC (f : FuncId) : Option (Array Value → Sem Value) :=
  bif Nat.beq f 274 then some (Extern.MathFloor.toIntegral "math.archTrunc" .zero) else
  bif Nat.beq f 261 then some Extern.BytealgIndexByte.indexByte else
  bif Nat.beq f 228 then some Extern.BytealgCount.count else
  bif Nat.beq f 279 then some Extern.MathFloatBits.float64bits else
  bif Nat.beq f 280 then some Extern.MathFloatBits.float64frombits else none
noncomputable def extC (f : FuncId) (args : List Value) : Option Value :=
  bif Nat.beq f 237 then (match args with | [x] => some x | _ => none) else
  match entC f with
  | some e => bif args.all (plainN 8) then prunV Tryz.prog (e args.toArray) else none
  | none => none
/-- the environment, with what is known of some calls -/
noncomputable def envC (sum : FuncId → List Value → Option Value) : Eng.Env := ⟨teOf tyT, 9, fnOf fnT, extC, sum, [(0, pow10C)]⟩

theorem beq_eq {a b : Nat} (h : Nat.beq a b = true) : a = b := Nat.eq_of_beq_eq_true h
theorem entC_run {f : FuncId} {e : Array Value → Sem Value} (h : entC f = some e) (args : Array Value) (w : World) : (callFunc f args).run Tryz.prog w = ((e args).run Tryz.prog w).andThen fun v w' => .ok (.value v) w' := by
  unfold entC at h
  cases h1 : Nat.beq f 274
  · rw [h1, cond_false] at h
    cases h2 : Nat.beq f 261
    · rw [h2, cond_false] at h
      cases h3 : Nat.beq f 228
      · rw [h3, cond_false] at h
        cases h4 : Nat.beq f 279
        · rw [h4, cond_false] at h
          cases h5 : Nat.beq f 280
          · rw [h5] at h; cases h
          · rw [h5] at h; cases h
            rw [beq_eq h5]
            exact run_callFunc_extern Tryz.func280 (by kernel_rfl) (by kernel_rfl) (by kernel_rfl) (by kernel_rfl) args w
        · rw [h4] at h; cases h
          rw [beq_eq h4]
          exact run_callFunc_extern Tryz.func279 (by kernel_rfl) (by kernel_rfl) (by kernel_rfl) (by kernel_rfl) args w
      · rw [h3] at h; cases h
        rw [beq_eq h3]
        exact run_callFunc_extern Tryz.func228 (by kernel_rfl) (by kernel_rfl) (by kernel_rfl) (by kernel_rfl) args w
    · rw [h2] at h; cases h
      rw [beq_eq h2]
      exact run_callFunc_extern Tryz.func261 (by kernel_rfl) (by kernel_rfl) (by kernel_rfl) (by kernel_rfl) args w
  · rw [h1] at h; cases h
    rw [beq_eq h1]
    exact run_callFunc_extern Tryz.func274 (by kernel_rfl) (by kernel_rfl) (by kernel_rfl) (by kernel_rfl) args w

theorem extC_run {f : FuncId} {args : List Value} {v : Value} (h : extC f args = some v) (D : Nat → Prop) (ι : Nat → Reg) (args' : Array Value) (w : World) (ha : AR D ι args.toArray args') :
    ∃ v', VR D ι v v' ∧ (callFunc f args').run Tryz.prog w = .ok (.value v') w := by
  unfold extC at h
  cases h1 : Nat.beq f 237
  · rw [h1, cond_false] at h
    split at h
    · rename_i e he
      cases hp : args.all (plainN 8)
      · rw [hp] at h; cases h
      · rw [hp, cond_true] at h
        have := plain_arr hp ha
        subst this
        unfold prunV at h
        split at h
        · rename_i u hu
          cases hq : plainN 8 u
          · rw [hq] at h; cases h
          · rw [hq] at h; cases h
            refine ⟨_, plain_refl 8 _ hq, ?_⟩
            rw [entC_run he, prun_run _ _ _ hu w]
            rfl
        · cases h
    · cases h
  · rw [h1, cond_true] at h
    split at h
    · cases h
      obtain ⟨x', rfl, hx⟩ := ha.one
      refine ⟨x', hx, ?_⟩
      rw [beq_eq h1, run_callFunc_extern Tryz.func237 (e := Extern.AbiNoEscape.same) (by kernel_rfl) (by kernel_rfl) (by kernel_rfl) (by kernel_rfl)]
      rfl
    · cases h

theorem gl_ok : ∀ p, p ∈ [(0, pow10C)] → p.1 < 9 ∧ p.2.all (plainN 8) = true := by
  intro p hp
  rw [List.mem_singleton] at hp
  subst hp
  exact ⟨by decide, by kernel_rfl⟩
theorem gl_ne : ∀ p, p ∈ [(0, pow10C)] → p.2 ≠ [] := by
  intro p hp
  rw [List.mem_singleton] at hp
  subst hp
  simp [pow10C]
theorem env_ok {sum : FuncId → List Value → Option Value} (hs : ∀ f a v, sum f a = some v → plainN 8 v = true ∧ a.all (plainN 8) = true ∧ ∀ w, GlW [(0, pow10C)] w → Calls Tryz.prog f a.toArray w fun e w' => e = .returned v ∧ Same w w') : (envC sum).OK Tryz.prog where
  T := teOf_ok tyT_eq
  fn := fnOf_ok fnT_eq names_ok
  ext := fun f a v h D ι a' w ha => extC_run h D ι a' w ha
  sum := hs
  gl := gl_ok
  mixed := by kernel_rfl
end Go.Proofs.YtpdbgpkedehpgaaGreatDoor
