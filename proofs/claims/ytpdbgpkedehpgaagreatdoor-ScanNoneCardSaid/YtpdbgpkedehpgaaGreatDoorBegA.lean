import Derived.Test.YtpdbgpkedehpgaaGreatDoorEnv
namespace Go.Proofs.YtpdbgpkedehpgaaGreatDoor
open Go Go.Eng
set_option maxRecDepth 1000000
noncomputable def sum0 (_ : FuncId) (_ : List Value) : Option Value := none
theorem env0 : (envC sum0).OK Tryz.prog := env_ok fun f a v h => by cases h
theorem t163 : kTrue Tryz.prog (envC sum0) 100000 163 [] = true := by kernel_rfl
theorem begun1 (w : World) (hw : GlW [(0, pow10C)] w) : Calls Tryz.prog 163 #[] w fun e w' => e = .returned (.bool true) ∧ Same w w' :=
  true_of env0 gl_ne t163 rfl w hw

/-- a sum, with one more call of no arguments that gives true -/
noncomputable def sumT (g : FuncId) (sum : FuncId → List Value → Option Value) (f : FuncId) (a : List Value) : Option Value :=
  match a with
  | [] => bif Nat.beq f g then some (.bool true) else sum f []
  | x :: xs => sum f (x :: xs)
theorem env_more {g : FuncId} {sum : FuncId → List Value → Option Value} (h : (envC sum).OK Tryz.prog) (hg : ∀ w, GlW [(0, pow10C)] w → Calls Tryz.prog g #[] w fun e w' => e = .returned (.bool true) ∧ Same w w') : (envC (sumT g sum)).OK Tryz.prog :=
  env_ok fun f a v hs => by
    cases a with
    | nil =>
      simp only [sumT] at hs
      cases hb : Nat.beq f g
      · rw [hb, cond_false] at hs
        exact h.sum f [] v hs
      · rw [hb, cond_true] at hs
        cases hs
        rw [beq_eq hb]
        exact ⟨rfl, rfl, hg⟩
    | cons x xs => exact h.sum f (x :: xs) v hs
end Go.Proofs.YtpdbgpkedehpgaaGreatDoor
