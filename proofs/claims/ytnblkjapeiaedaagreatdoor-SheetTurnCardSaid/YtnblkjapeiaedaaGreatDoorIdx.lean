/-
  strings.Index at texts that are written out, off the shelf. No condition.
-/
import Derived.Test.YtnblkjapeiaedaaGreatDoorEnv
import Derived.Test.YtnblkjapeiaedaaGreatDoorShelfW
namespace Go.Proofs.YtnblkjapeiaedaaGreatDoor
open Go Go.Eng
/-- stringslite.Index at texts that are written out -/
noncomputable def sumI (sum : FuncId → List Value → Option Value) (f : FuncId) (a : List Value) : Option Value :=
  bif Nat.beq f 141 then match a with
    | [.string s, .string t] => bif Nat.blt s.size 60 then some (.int .i64 (Lib.index s.data.toList t.data.toList)) else none
    | _ => none
  else sum f a
theorem env_idx {sum : FuncId → List Value → Option Value} {spec : FuncId → Option PSpec} (h : (envC sum spec).OK Tryz.prog) : (envC (sumI sum) spec).OK Tryz.prog :=
  env_ok (fun f a v hs => by
    unfold sumI at hs
    cases hb : Nat.beq f 141
    · rw [hb, cond_false] at hs
      exact h.sum f a v hs
    · rw [hb, cond_true] at hs
      rw [beq_eq hb]
      split at hs
      · rename_i s t
        cases hl : Nat.blt s.size 60
        · rw [hl] at hs; cases hs
        · rw [hl, cond_true] at hs
          cases hs
          have hl : s.size < 60 := by simpa using hl
          refine ⟨rfl, rfl, fun w hw => ?_⟩
          obtain ⟨u, hu, hr⟩ := hw.1 (1, [ai .i64]) (by simp [glC]) 0 (ai .i64) rfl
          rcases hr with ⟨hp, _⟩ | ⟨b, he, _⟩ | ⟨k, m, he, rfl⟩
          · cases hp
          · cases he
          · cases he
            refine (Tryz.stringslite_Index s t m w (by omega) hu).mono ?_
            rintro e w' ⟨rfl, rfl⟩
            exact ⟨rfl, Nat.le_refl _, rfl, rfl, fun _ _ => rfl⟩
      · cases hs) h.spec
end Go.Proofs.YtnblkjapeiaedaaGreatDoor
