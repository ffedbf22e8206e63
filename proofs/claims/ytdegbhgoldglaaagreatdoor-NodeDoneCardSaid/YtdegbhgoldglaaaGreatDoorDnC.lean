/-
  armariumlaw21.NodeDone: the loop. No condition.
-/
import Derived.Test.YtdegbhgoldglaaaGreatDoorDnB
namespace Go.Proofs.YtdegbhgoldglaaaGreatDoor
noncomputable section
open Go Go.Eng
set_option maxRecDepth 1000000
theorem rv_bd (xs : List Int) (i : Int) : 0 ≤ rv xs i ∧ rv xs i ≤ 1099511627775 := by
  have h : (BitVec.ofInt IntKind.i64.bits (List.getD xs i.toNat 0) &&& BitVec.ofInt IntKind.i64.bits 1099511627775).toNat ≤ 1099511627775 := by
    rw [BitVec.toNat_and]
    exact Nat.le_trans Nat.and_le_right (by decide)
  have k1 : IntKind.i64.min = -9223372036854775808 := by decide
  have k2 : IntKind.i64.max = 9223372036854775807 := by decide
  unfold rv
  generalize (BitVec.ofInt IntKind.i64.bits (List.getD xs i.toNat 0) &&& BitVec.ofInt IntKind.i64.bits 1099511627775).toNat = m at h ⊢
  rw [wrap_inK ⟨by rw [k1]; omega, by rw [k2]; omega⟩]
  omega
theorem p2_all (xs : List Int) (t i : Int) (h0 : 0 ≤ i) (h1 : i < (xs.length : Int)) : ∃ ora pc, SX xs t i ora = some (.normal, regT (rsL t i), pc) ∧ AllP pc := by
  obtain ⟨b0, b1⟩ := rv_bd xs i
  have hB : AllP (pB xs i) := ⟨by simp; omega, by simp; omega, by simp; omega, trivial⟩
  by_cases e0 : rv xs i = 12884901889
  · exact ⟨_, _, c0 xs t i, by simp [e0], hB⟩
  have hM : AllP (pM xs i) := ⟨by simp; omega, by simp; omega, by simp [e0], hB⟩
  by_cases e1 : rv xs i < 4294967296
  · exact ⟨_, _, c1 xs t i, by simp; omega, hM⟩
  by_cases e2 : rv xs i ≥ 25769803776
  · exact ⟨_, _, c2 xs t i, by simp; omega, by simp; omega, hM⟩
  have hH : AllP (pH xs i) := ⟨by simp; omega, by simp; omega, hM⟩
  by_cases e3 : (rv xs i).tmod 4294967296 = 0
  · exact ⟨_, _, c3 xs t i, by simp [e3], rfl, hH⟩
  have hQ : AllP (pQ xs i) := ⟨rfl, by
    have : (rv xs i).tdiv 4294967296 = rv xs i / 4294967296 := Int.tdiv_eq_ediv_of_nonneg b0
    simp only [decide_eq_true_eq, this]
    unfold inK
    simp only [IntKind.min, IntKind.max, IntKind.signed, IntKind.bits]
    constructor <;> simp <;> omega, by simp [e3], rfl, hH⟩
  by_cases e4 : (rv xs i).tdiv 4294967296 = 3
  · exact ⟨_, _, c5 xs t i, by simp; exact fun h => e0 h.symm, by simp [e4], hQ⟩
  · exact ⟨_, _, c4 xs t i, by simp [e4], hQ⟩
theorem loopB_eq : loopB = .seq p1 (.seq p2 p3) := by kernel_rfl
abbrev HD (w0 : World) (ι0 : Nat → Reg) (xs : List Int) (t i : Int) (a : Act) (w : World) : Prop := Here Tryz.prog ED w0 (sB xs t) ι0 117 (regT (rsL t i)) (backS (sB xs t) 214 D2os) a w
theorem loop_all (hE : ED.OK Tryz.prog) (xs : List Int) (t : Int) {w0 : World} {ι0 : Nat → Reg} (hB : Base Tryz.prog ED w0 (sB xs t) ι0) {Q : Exit → Act → World → Prop} (d : List Code) :
    ∀ (n : Nat) (i : Int) (a : Act) (w : World), 6 - i ≤ n → 0 ≤ i → HD w0 ι0 xs t i a w → (∀ i a' w', HD w0 ι0 xs t i a' w' → a'.defers = a.defers → Q .normal a' w') → wpL Tryz.prog loopB (Exit.inBlock 0 Q) a w := by
  intro n
  induction n with
  | zero =>
    intro i a w hn hi h hQ
    refine wpL_of ?_
    rw [loopB_eq]
    refine wp_seq ?_
    by_cases hl : i < (xs.length : Int)
    · refine Here.piece hE hB h [1,0] (w2 xs t i) ⟨by simp; omega, by simp; omega, trivial⟩ fun a1 w1 h1 d1 => ?_
      show Exit.inBlock 0 Q (.exit 0) a1 w1
      simp only [Exit.inBlock, if_true]
      exact hQ i a1 w1 h1 d1
    · refine Here.piece hE hB h [0] (w3 xs t i) ⟨by simp; omega, trivial⟩ fun a1 w1 h1 d1 => ?_
      show Exit.inBlock 0 Q (.exit 0) a1 w1
      simp only [Exit.inBlock, if_true]
      exact hQ i a1 w1 h1 d1
  | succ n ih =>
    intro i a w hn hi h hQ
    refine wpL_of ?_
    rw [loopB_eq]
    refine wp_seq ?_
    by_cases hl : i < (xs.length : Int)
    · by_cases h6 : i < 6
      · refine Here.piece hE hB h [1,1] (w1 xs t i) ⟨by simp; omega, by simp; omega, trivial⟩ fun a1 v1 h1 d1 => ?_
        show (Code.seq p2 p3).wp Tryz.prog _ a1 v1
        refine wp_seq ?_
        obtain ⟨ora, pc, e, hp⟩ := p2_all xs t i hi hl
        refine Here.piece hE hB h1 ora e hp fun a2 v2 h2 d2 => ?_
        show p3.wp Tryz.prog _ a2 v2
        refine Here.piece hE hB h2 [] (w4 xs t i) ⟨?_, trivial⟩ fun a3 v3 h3 d3 => ?_
        · have k1 : IntKind.i64.min = -9223372036854775808 := by decide
          have k2 : IntKind.i64.max = 9223372036854775807 := by decide
          simp only [decide_eq_true_eq]
          exact ⟨by rw [k1]; omega, by rw [k2]; omega⟩
        · show wpL Tryz.prog (.seq p1 (.seq p2 p3)) _ a3 v3
          rw [← loopB_eq]
          exact ih (i + 1) a3 v3 (by omega) (by omega) h3 fun j a' w' h' d' => hQ j a' w' h' (d'.trans (d3.trans (d2.trans d1)))
      · refine Here.piece hE hB h [1,0] (w2 xs t i) ⟨by simp; omega, by simp; omega, trivial⟩ fun a1 w1 h1 d1 => ?_
        show Exit.inBlock 0 Q (.exit 0) a1 w1
        simp only [Exit.inBlock, if_true]
        exact hQ i a1 w1 h1 d1
    · refine Here.piece hE hB h [0] (w3 xs t i) ⟨by simp; omega, trivial⟩ fun a1 w1 h1 d1 => ?_
      show Exit.inBlock 0 Q (.exit 0) a1 w1
      simp only [Exit.inBlock, if_true]
      exact hQ i a1 w1 h1 d1
end
end Go.Proofs.YtdegbhgoldglaaaGreatDoor
