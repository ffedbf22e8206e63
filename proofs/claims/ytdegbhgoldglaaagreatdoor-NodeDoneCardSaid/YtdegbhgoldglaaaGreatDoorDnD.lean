/-
  armariumlaw21.NodeDone: the law, out of its pieces. No condition.
-/
import Derived.Test.YtdegbhgoldglaaaGreatDoorDnC
namespace Go.Proofs.YtdegbhgoldglaaaGreatDoor
noncomputable section
open Go Go.Eng
set_option maxRecDepth 1000000
def RC : Code := match LC with | .seq _ r => r | _ => .skip
abbrev TX (xs : List Int) (t i : Int) (k : Nat) := segX Tryz.prog ED 100000 117 (sB xs t) RC (regT (rsL t i)) (sX xs t [k]) 214 [] [4]
theorem t0 (xs : List Int) (t i : Int) : TX xs t i 1000 = some (.ret, regT [(4, .bool true)], [true, decide (t.tmod 3 = 0)]) := by kernel_rfl
theorem t1 (xs : List Int) (t i : Int) : TX xs t i 1001 = some (.ret, regT [(4, .bool true)], [true, decide (t.tmod 3 = 1)]) := by kernel_rfl
theorem t2 (xs : List Int) (t i : Int) : TX xs t i 1002 = some (.ret, regT [(4, .bool true)], [true, decide (t.tmod 3 = 2)]) := by kernel_rfl
theorem t3 (xs : List Int) (t i : Int) : TX xs t i 2000 = some (.ret, regT [(4, .bool true)], [true, decide (t.tmod 3 = -1)]) := by kernel_rfl
theorem t4 (xs : List Int) (t i : Int) : TX xs t i 2001 = some (.ret, regT [(4, .bool true)], [true, decide (t.tmod 3 = -2)]) := by kernel_rfl
theorem LC_eq : LC = .seq (.seq c12 (.block 0 (.loop loopB))) RC := by kernel_rfl
theorem tail_all (xs : List Int) (t i : Int) : ∃ k pc, TX xs t i k = some (.ret, regT [(4, .bool true)], pc) ∧ AllP pc := by
  have h1 := Int.tmod_lt_of_pos t (show (0 : Int) < 3 by decide)
  have h2 : -3 < t.tmod 3 := by
    rcases Int.lt_or_le t 0 with h | h
    · have := Int.tmod_lt_of_pos (-t) (show (0 : Int) < 3 by decide)
      rw [Int.neg_tmod] at this
      omega
    · have := Int.tmod_nonneg 3 h
      omega
  rcases (show t.tmod 3 = 0 ∨ t.tmod 3 = 1 ∨ t.tmod 3 = 2 ∨ t.tmod 3 = -1 ∨ t.tmod 3 = -2 by omega) with h | h | h | h | h
  · exact ⟨_, _, t0 xs t i, rfl, by simp [h], trivial⟩
  · exact ⟨_, _, t1 xs t i, rfl, by simp [h], trivial⟩
  · exact ⟨_, _, t2 xs t i, rfl, by simp [h], trivial⟩
  · exact ⟨_, _, t3 xs t i, rfl, by simp [h], trivial⟩
  · exact ⟨_, _, t4 xs t i, rfl, by simp [h], trivial⟩
abbrev S0 (t : Int) : Tr Value := (((((Tr.lf.set 10 (some (.int .i64 0))).set 9 (some (vI 12884901889))).set 6 (some (vP 82 0))).set 1 (some (sy (.int .i64 t)))).set 0 (some (dt 10)))
theorem regs0 (t : Int) (D : Nat → Prop) (ι : Nat → Reg) {a : Act} (h : SRel 117 D ι (S0 t) a) : SRel 117 D ι (regT (rsL t 0)) a := by
  have g : ∀ j v, (S0 t).get j = some v → j < 117 ∧ VR D ι v (a.tmps.getD j undef) := h.2
  refine ⟨h.1, fun j v e => ?_⟩
  rw [regT_get] at e
  simp only [rsL, lk] at e
  by_cases e0 : j = 0
  · subst e0; cases e; exact g 0 _ (by simp [Tr.set_get])
  by_cases e1 : j = 1
  · subst e1; cases e; exact g 1 _ (by simp [Tr.set_get])
  by_cases e6 : j = 6
  · subst e6; cases e; exact g 6 _ (by simp [Tr.set_get])
  by_cases e9 : j = 9
  · subst e9; cases e; exact g 9 _ (by simp [Tr.set_get])
  by_cases e10 : j = 10
  · subst e10; cases e
    obtain ⟨q1, q2⟩ := g 10 (.int .i64 0) (by simp [Tr.set_get])
    refine ⟨q1, ?_⟩
    generalize a.tmps.getD 10 undef = u at q2
    cases q2
    exact .sym _ rfl
  · rw [beq_f e0, beq_f e1, beq_f e6, beq_f e9, beq_f e10] at e
    cases e
theorem fnb4 : Tryz.f4.body = some (bodyOf Tryz.f4) := by kernel_rfl
theorem nd_c : PureC Tryz.prog glC 4 SD := by
  refine pure_here (E := ED) ED_ok gl_ne Tryz.func4 fnb4 (Nat.le_of_ble_eq_true (by kernel_rfl)) ?_
  rintro ⟨xs, t, ⟨⟩⟩ _ w ι0 a hB hs hd
  refine ⟨[.bool true], fun fz => ⟨_, _, rfl, .inr ⟨rfl, rfl⟩, rfl⟩, ?_⟩
  rw [show (bodyOf Tryz.f4) = seqL (cutC 9 (bodyOf Tryz.f4)).1 LC from (cutC_eq 9 _).symm]
  refine Here.seg ED_ok hB (Base.begin hB hs) [] (segA xs t) trivial fun a1 w1 h1 d1 => ?_
  rw [LC_eq]
  refine wp_seq ?_
  refine wp_seq ?_
  refine Here.piece ED_ok hB h1 [] (w5 xs t) trivial fun a2 w2 h2 d2 => ?_
  show (Code.block 0 (.loop loopB)).wp Tryz.prog _ a2 w2
  refine wp_block ?_
  refine wp_loop_of ?_
  refine loop_all ED_ok xs t hB [] 6 0 a2 w2 (by omega) (by omega) (h2.regs fun D ι h => regs0 t D ι h) fun i a3 w3 h3 d3 => ?_
  show RC.wp Tryz.prog _ a3 w3
  obtain ⟨k, pc, e, hp⟩ := tail_all xs t i
  refine Here.piece ED_ok hB h3 [k] e hp fun a4 w4 h4 d4 => ?_
  refine ⟨by rw [d4, d3, d2, d1, hd], .bool true, ?_, rfl, Here.same hB h4⟩
  exact Here.results ED_ok hB (ψ := .nil) h4 (by kernel_rfl) rfl
end
end Go.Proofs.YtdegbhgoldglaaaGreatDoor
