/-
  armariumlaw22.ScriptErrors: the law: a run for each kind of arguments; what is not known is told ahead. No condition.
-/
import Derived.Test.YtikedhemjoljpaaGreatDoorLawSEa
namespace Go.Proofs.YtikedhemjoljpaaGreatDoor
noncomputable section
open Go Go.Eng
set_option maxRecDepth 1000000
theorem se_one {f a n : Int} {l : List Ent} (hl : AllEO l) {F A : Value} (hF : ∀ (D : Nat → Prop) (ι : Nat → Reg), VR D ι F (.int .i64 f)) (hA : ∀ (D : Nat → Prop) (ι : Nat → Reg), VR D ι A (.int .i64 a)) {ora : List Nat} {pc : List Bool}
    (h : kzTrueS Tryz.prog (envQ smS l) 100000 ora 7 [F, A, sy (.int .i64 n)] = some pc) (hp : AllP pc) {w : World} (hgl : GlW glC w) : Calls Tryz.prog 7 #[.int .i64 f, .int .i64 a, .int .i64 n] w fun e w' => e = .returned (.bool true) ∧ Same w w' :=
  kz_true_s (envQ_ok (l := l) smS_ok hl) gl_ne h hp (fun D ι => ar_cons (hF D ι) (ar_cons (hA D ι) (ar_cons (vr_sy _) (ar_nil _ _)))) w hgl
theorem se1_0 (n : Int) : kzTrueS Tryz.prog (envQ smS [Te8, Te10, Te9]) 100000 [] 7 [vI 1, vI 0, sy (.int .i64 n)] = some [] := by kernel_rfl
theorem se1_1 (n : Int) : kzTrueS Tryz.prog (envQ smS [Te8, Te11, Te9]) 100000 [] 7 [vI 1, vI 1, sy (.int .i64 n)] = some [] := by kernel_rfl
theorem se1_2 (n : Int) : kzTrueS Tryz.prog (envQ smS [Te8, Te12, Te9]) 100000 [] 7 [vI 1, vI 2, sy (.int .i64 n)] = some [] := by kernel_rfl
theorem se1_3 (a n : Int) : kzTrueS Tryz.prog (envQ smS [Te8, Te10, Te9]) 100000 [0, 0] 7 [vI 1, sy (.int .i64 a), sy (.int .i64 n)] = some [(((a : Int) == 2) == false), (((a : Int) == 1) == false), (!decide (a = (1 : Int))), (!decide (a = (2 : Int)))] := by kernel_rfl
theorem se2_0 (n : Int) : kzTrueS Tryz.prog (envQ smS [Te8, Te18, Te9, Me101, Me57]) 100000 [] 7 [vI 2, vI 0, sy (.int .i64 n)] = some [] := by kernel_rfl
theorem se2_1 (n : Int) : kzTrueS Tryz.prog (envQ smS [Te8, Te18, Te9, Me101, Me57]) 100000 [] 7 [vI 2, vI 1, sy (.int .i64 n)] = some [] := by kernel_rfl
theorem se2_2 (n : Int) : kzTrueS Tryz.prog (envQ smS [Te8, Te18, Te9, Me101, Me57]) 100000 [] 7 [vI 2, vI 2, sy (.int .i64 n)] = some [] := by kernel_rfl
theorem se2_3 (a n : Int) : kzTrueS Tryz.prog (envQ smS [Te8, Te18, Te9, Me101, Me57]) 100000 [0, 0] 7 [vI 2, sy (.int .i64 a), sy (.int .i64 n)] = some [(((a : Int) == 2) == false), (((a : Int) == 1) == false)] := by kernel_rfl
theorem se3_0a (n : Int) : kzTrueS Tryz.prog (envQ smS [Te8, Te10, Te9]) 100000 [1] 7 [vI 3, vI 0, sy (.int .i64 n)] = some [(decide ((n : Int) < 0) == true)] := by kernel_rfl
theorem se3_0b (n : Int) : kzTrueS Tryz.prog (envQ smS [Te8, Te10, Te9]) 100000 [0, 1] 7 [vI 3, vI 0, sy (.int .i64 n)] = some [(decide ((n : Int) ≥ 0) == true), (decide ((n : Int) < 0) == false)] := by kernel_rfl
theorem se3_1a (n : Int) : kzTrueS Tryz.prog (envQ smS [Te8, Te10, Te9]) 100000 [1] 7 [vI 3, vI 1, sy (.int .i64 n)] = some [(decide ((n : Int) < 0) == true)] := by kernel_rfl
theorem se3_1b (n : Int) : kzTrueS Tryz.prog (envQ smS [Te8, Te10, Te9]) 100000 [0, 1] 7 [vI 3, vI 1, sy (.int .i64 n)] = some [(decide ((n : Int) ≥ 0) == true), (decide ((n : Int) < 0) == false)] := by kernel_rfl
theorem se3_2a (n : Int) : kzTrueS Tryz.prog (envQ smS [Te8, Te10, Te9]) 100000 [1] 7 [vI 3, vI 2, sy (.int .i64 n)] = some [(decide ((n : Int) < 0) == true)] := by kernel_rfl
theorem se3_2b (n : Int) : kzTrueS Tryz.prog (envQ smS [Te8, Te10, Te9]) 100000 [0, 1] 7 [vI 3, vI 2, sy (.int .i64 n)] = some [(decide ((n : Int) ≥ 0) == true), (decide ((n : Int) < 0) == false)] := by kernel_rfl
theorem se3_3a (a n : Int) : kzTrueS Tryz.prog (envQ smS [Te8, Te10, Te9]) 100000 [1, 0, 0] 7 [vI 3, sy (.int .i64 a), sy (.int .i64 n)] = some [(((a : Int) == 2) == false), (((a : Int) == 1) == false), (decide ((n : Int) < 0) == true)] := by kernel_rfl
theorem se3_3b (a n : Int) : kzTrueS Tryz.prog (envQ smS [Te8, Te10, Te9]) 100000 [0, 1, 0, 0] 7 [vI 3, sy (.int .i64 a), sy (.int .i64 n)] = some [(((a : Int) == 2) == false), (((a : Int) == 1) == false), (decide ((n : Int) ≥ 0) == true), (decide ((n : Int) < 0) == false)] := by kernel_rfl
theorem se4_0a (n : Int) : kzTrueS Tryz.prog (envQ smS [Te8, Te10, Te9]) 100000 [1] 7 [vI 4, vI 0, sy (.int .i64 n)] = some [(decide ((n : Int) < 0) == true)] := by kernel_rfl
theorem se4_0b (n : Int) : kzTrueS Tryz.prog (envQ smS [Te8, Te10, Te9]) 100000 [0, 1] 7 [vI 4, vI 0, sy (.int .i64 n)] = some [(decide ((n : Int) ≥ 0) == true), (decide ((n : Int) < 0) == false)] := by kernel_rfl
theorem se4_1a (n : Int) : kzTrueS Tryz.prog (envQ smS [Te8, Te10, Te9]) 100000 [1] 7 [vI 4, vI 1, sy (.int .i64 n)] = some [(decide ((n : Int) < 0) == true)] := by kernel_rfl
theorem se4_1b (n : Int) : kzTrueS Tryz.prog (envQ smS [Te8, Te10, Te9]) 100000 [0, 1] 7 [vI 4, vI 1, sy (.int .i64 n)] = some [(decide ((n : Int) ≥ 0) == true), (decide ((n : Int) < 0) == false)] := by kernel_rfl
theorem se4_2a (n : Int) : kzTrueS Tryz.prog (envQ smS [Te8, Te10, Te9]) 100000 [1] 7 [vI 4, vI 2, sy (.int .i64 n)] = some [(decide ((n : Int) < 0) == true)] := by kernel_rfl
theorem se4_2b (n : Int) : kzTrueS Tryz.prog (envQ smS [Te8, Te10, Te9]) 100000 [0, 1] 7 [vI 4, vI 2, sy (.int .i64 n)] = some [(decide ((n : Int) ≥ 0) == true), (decide ((n : Int) < 0) == false)] := by kernel_rfl
theorem se4_3a (a n : Int) : kzTrueS Tryz.prog (envQ smS [Te8, Te10, Te9]) 100000 [1, 0, 0] 7 [vI 4, sy (.int .i64 a), sy (.int .i64 n)] = some [(((a : Int) == 2) == false), (((a : Int) == 1) == false), (decide ((n : Int) < 0) == true)] := by kernel_rfl
theorem se4_3b (a n : Int) : kzTrueS Tryz.prog (envQ smS [Te8, Te10, Te9]) 100000 [0, 1, 0, 0] 7 [vI 4, sy (.int .i64 a), sy (.int .i64 n)] = some [(((a : Int) == 2) == false), (((a : Int) == 1) == false), (decide ((n : Int) ≥ 0) == true), (decide ((n : Int) < 0) == false)] := by kernel_rfl
theorem se5_0a (n : Int) : kzTrueS Tryz.prog (envQ smS [Te8, Te10, Te9]) 100000 [1] 7 [vI 5, vI 0, sy (.int .i64 n)] = some [(decide ((n : Int) < 0) == true)] := by kernel_rfl
theorem se5_0b (n : Int) : kzTrueS Tryz.prog (envQ smS [Te8, Te10, Te9]) 100000 [0, 1] 7 [vI 5, vI 0, sy (.int .i64 n)] = some [(decide ((n : Int) ≥ 0) == true), (decide ((n : Int) < 0) == false)] := by kernel_rfl
theorem se5_1a (n : Int) : kzTrueS Tryz.prog (envQ smS [Te8, Te10, Te9]) 100000 [1] 7 [vI 5, vI 1, sy (.int .i64 n)] = some [(decide ((n : Int) < 0) == true)] := by kernel_rfl
theorem se5_1b (n : Int) : kzTrueS Tryz.prog (envQ smS [Te8, Te10, Te9]) 100000 [0, 1] 7 [vI 5, vI 1, sy (.int .i64 n)] = some [(decide ((n : Int) ≥ 0) == true), (decide ((n : Int) < 0) == false)] := by kernel_rfl
theorem se5_2a (n : Int) : kzTrueS Tryz.prog (envQ smS [Te8, Te10, Te9]) 100000 [1] 7 [vI 5, vI 2, sy (.int .i64 n)] = some [(decide ((n : Int) < 0) == true)] := by kernel_rfl
theorem se5_2b (n : Int) : kzTrueS Tryz.prog (envQ smS [Te8, Te10, Te9]) 100000 [0, 1] 7 [vI 5, vI 2, sy (.int .i64 n)] = some [(decide ((n : Int) ≥ 0) == true), (decide ((n : Int) < 0) == false)] := by kernel_rfl
theorem se5_3a (a n : Int) : kzTrueS Tryz.prog (envQ smS [Te8, Te10, Te9]) 100000 [1, 0, 0] 7 [vI 5, sy (.int .i64 a), sy (.int .i64 n)] = some [(((a : Int) == 2) == false), (((a : Int) == 1) == false), (decide ((n : Int) < 0) == true)] := by kernel_rfl
theorem se5_3b (a n : Int) : kzTrueS Tryz.prog (envQ smS [Te8, Te10, Te9]) 100000 [0, 1, 0, 0] 7 [vI 5, sy (.int .i64 a), sy (.int .i64 n)] = some [(((a : Int) == 2) == false), (((a : Int) == 1) == false), (decide ((n : Int) ≥ 0) == true), (decide ((n : Int) < 0) == false)] := by kernel_rfl
theorem se6_0 (n : Int) : kzTrueS Tryz.prog (envQ smS [Te8, Te19, Te9]) 100000 [] 7 [vI 6, vI 0, sy (.int .i64 n)] = some [] := by kernel_rfl
theorem se6_1 (n : Int) : kzTrueS Tryz.prog (envQ smS [Te8, Te20, Te9]) 100000 [] 7 [vI 6, vI 1, sy (.int .i64 n)] = some [] := by kernel_rfl
theorem se6_2 (n : Int) : kzTrueS Tryz.prog (envQ smS [Te8, Te21, Te9]) 100000 [] 7 [vI 6, vI 2, sy (.int .i64 n)] = some [] := by kernel_rfl
theorem se6_3 (a n : Int) : kzTrueS Tryz.prog (envQ smS [Te8, Te10, Te9]) 100000 [0, 0, 0, 0] 7 [vI 6, sy (.int .i64 a), sy (.int .i64 n)] = some [(((a : Int) == 0) == false), (((a : Int) == 2) == false), (((a : Int) == 1) == false), (!decide (a = (1 : Int))), (!decide (a = (2 : Int))), (((a : Int) == 0) == false)] := by kernel_rfl
theorem se7_0 (n : Int) : kzTrueS Tryz.prog (envQ smS [Te8, Te10, Te9]) 100000 [] 7 [vI 7, vI 0, sy (.int .i64 n)] = some [] := by kernel_rfl
theorem se7_1 (n : Int) : kzTrueS Tryz.prog (envQ smS [Te8, Te10, Te9]) 100000 [] 7 [vI 7, vI 1, sy (.int .i64 n)] = some [] := by kernel_rfl
theorem se7_2 (n : Int) : kzTrueS Tryz.prog (envQ smS [Te8, Te10, Te9]) 100000 [] 7 [vI 7, vI 2, sy (.int .i64 n)] = some [] := by kernel_rfl
theorem se7_3a (a n : Int) : kzTrueS Tryz.prog (envQ smS [Te8, Te10, Te9]) 100000 [1, 0, 0, 0] 7 [vI 7, sy (.int .i64 a), sy (.int .i64 n)] = some [(((a : Int) == 0) == false), (((a : Int) == 2) == false), (((a : Int) == 1) == false), (decide ((a : Int) < 0) == true)] := by kernel_rfl
theorem se7_3b (a n : Int) : kzTrueS Tryz.prog (envQ smS [Te8, Te10, Te9]) 100000 [0, 1, 0, 0, 0] 7 [vI 7, sy (.int .i64 a), sy (.int .i64 n)] = some [(((a : Int) == 0) == false), (((a : Int) == 2) == false), (((a : Int) == 1) == false), (decide ((a : Int) ≥ 3) == true), (decide ((a : Int) < 0) == false)] := by kernel_rfl
theorem se8_0 (n : Int) : kzTrueS Tryz.prog (envQ smS [Te8, Te10, Te9]) 100000 [] 7 [vI 8, vI 0, sy (.int .i64 n)] = some [] := by kernel_rfl
theorem se8_1 (n : Int) : kzTrueS Tryz.prog (envQ smS [Te8, Te10, Te9, Nse22, Nse23, Me24]) 100000 [] 7 [vI 8, vI 1, sy (.int .i64 n)] = some [] := by kernel_rfl
theorem se8_2 (n : Int) : kzTrueS Tryz.prog (envQ smS [Te8, Te10, Te9, Nse22, Nse23, Me24]) 100000 [] 7 [vI 8, vI 2, sy (.int .i64 n)] = some [] := by kernel_rfl
theorem se8_3 (a n : Int) : kzTrueS Tryz.prog (envQ smS [Te8, Te10, Te9]) 100000 [0, 0] 7 [vI 8, sy (.int .i64 a), sy (.int .i64 n)] = some [(((a : Int) == 2) == false), (((a : Int) == 1) == false), (!decide (a = (1 : Int))), (!decide (a = (2 : Int)))] := by kernel_rfl
theorem se9_1 (f a n : Int) : kzTrueS Tryz.prog (envQ smS [Te8, Te10, Te9]) 100000 [0, 0, 0, 0, 0, 0, 0, 0, 1, 0, 0, 0, 0, 0, 0, 0, 0] 7 [sy (.int .i64 f), sy (.int .i64 a), sy (.int .i64 n)] = some [(((f : Int) == 7) == false), (((f : Int) == 5) == false), (((f : Int) == 4) == false), (((f : Int) == 3) == false), (((f : Int) == 2) == false), (((f : Int) == 8) == false), (((f : Int) == 1) == false), (((f : Int) == 6) == false), (((a : Int) == 1) == true), (((f : Int) == 8) == false), (((f : Int) == 7) == false), (((f : Int) == 6) == false), (((f : Int) == 5) == false), (((f : Int) == 4) == false), (((f : Int) == 3) == false), (((f : Int) == 2) == false), (((f : Int) == 1) == false)] := by kernel_rfl
theorem se9_2 (f a n : Int) : kzTrueS Tryz.prog (envQ smS [Te8, Te10, Te9]) 100000 [0, 0, 0, 0, 0, 0, 0, 0, 0, 1, 0, 0, 0, 0, 0, 0, 0, 0] 7 [sy (.int .i64 f), sy (.int .i64 a), sy (.int .i64 n)] = some [(((f : Int) == 7) == false), (((f : Int) == 5) == false), (((f : Int) == 4) == false), (((f : Int) == 3) == false), (((f : Int) == 2) == false), (((f : Int) == 8) == false), (((f : Int) == 1) == false), (((f : Int) == 6) == false), (((a : Int) == 2) == true), (((a : Int) == 1) == false), (((f : Int) == 8) == false), (((f : Int) == 7) == false), (((f : Int) == 6) == false), (((f : Int) == 5) == false), (((f : Int) == 4) == false), (((f : Int) == 3) == false), (((f : Int) == 2) == false), (((f : Int) == 1) == false)] := by kernel_rfl
theorem se9_3 (f a n : Int) : kzTrueS Tryz.prog (envQ smS [Te8, Te10, Te9]) 100000 [0, 0, 0, 0, 0, 0, 0, 0, 0, 0, 0, 0, 0, 0, 0, 0, 0, 0] 7 [sy (.int .i64 f), sy (.int .i64 a), sy (.int .i64 n)] = some [(((f : Int) == 7) == false), (((f : Int) == 5) == false), (((f : Int) == 4) == false), (((f : Int) == 3) == false), (((f : Int) == 2) == false), (((f : Int) == 8) == false), (((f : Int) == 1) == false), (((f : Int) == 6) == false), (((a : Int) == 2) == false), (((a : Int) == 1) == false), (((f : Int) == 8) == false), (((f : Int) == 7) == false), (((f : Int) == 6) == false), (((f : Int) == 5) == false), (((f : Int) == 4) == false), (((f : Int) == 3) == false), (((f : Int) == 2) == false), (((f : Int) == 1) == false)] := by kernel_rfl
theorem se_all (f a n : Int) {w : World} (hgl : GlW glC w) : Calls Tryz.prog 7 #[.int .i64 f, .int .i64 a, .int .i64 n] w fun e w' => e = .returned (.bool true) ∧ Same w w' := by
  rcases (by omega : f = 1 ∨ f = 2 ∨ f = 3 ∨ f = 4 ∨ f = 5 ∨ f = 6 ∨ f = 7 ∨ f = 8 ∨ (f ≠ 1 ∧ f ≠ 2 ∧ f ≠ 3 ∧ f ≠ 4 ∧ f ≠ 5 ∧ f ≠ 6 ∧ f ≠ 7 ∧ f ≠ 8)) with hf | hf | hf | hf | hf | hf | hf | hf | hf
  · subst hf
    rcases (by omega : a = 0 ∨ a = 1 ∨ a = 2 ∨ (a ≠ 0 ∧ a ≠ 1 ∧ a ≠ 2)) with ha | ha | ha | ⟨h0, h1, h2⟩
    · subst ha
      exact se_one (l := [Te8, Te10, Te9]) ⟨Te8_c, Te10_c, Te9_c, trivial⟩ (fun _ _ => vr_int _) (fun _ _ => vr_int _) (se1_0 n) (by first | trivial | (simp [AllP, *]; done) | (simp [AllP]; omega)) hgl
    · subst ha
      exact se_one (l := [Te8, Te11, Te9]) ⟨Te8_c, Te11_c, Te9_c, trivial⟩ (fun _ _ => vr_int _) (fun _ _ => vr_int _) (se1_1 n) (by first | trivial | (simp [AllP, *]; done) | (simp [AllP]; omega)) hgl
    · subst ha
      exact se_one (l := [Te8, Te12, Te9]) ⟨Te8_c, Te12_c, Te9_c, trivial⟩ (fun _ _ => vr_int _) (fun _ _ => vr_int _) (se1_2 n) (by first | trivial | (simp [AllP, *]; done) | (simp [AllP]; omega)) hgl
    · skip
      exact se_one (l := [Te8, Te10, Te9]) ⟨Te8_c, Te10_c, Te9_c, trivial⟩ (fun _ _ => vr_int _) (fun _ _ => vr_sy _) (se1_3 a n) (by first | trivial | (simp [AllP, *]; done) | (simp [AllP]; omega)) hgl
  · subst hf
    rcases (by omega : a = 0 ∨ a = 1 ∨ a = 2 ∨ (a ≠ 0 ∧ a ≠ 1 ∧ a ≠ 2)) with ha | ha | ha | ⟨h0, h1, h2⟩
    · subst ha
      exact se_one (l := [Te8, Te18, Te9, Me101, Me57]) ⟨Te8_c, Te18_c, Te9_c, Me101_c, Me57_c, trivial⟩ (fun _ _ => vr_int _) (fun _ _ => vr_int _) (se2_0 n) (by first | trivial | (simp [AllP, *]; done) | (simp [AllP]; omega)) hgl
    · subst ha
      exact se_one (l := [Te8, Te18, Te9, Me101, Me57]) ⟨Te8_c, Te18_c, Te9_c, Me101_c, Me57_c, trivial⟩ (fun _ _ => vr_int _) (fun _ _ => vr_int _) (se2_1 n) (by first | trivial | (simp [AllP, *]; done) | (simp [AllP]; omega)) hgl
    · subst ha
      exact se_one (l := [Te8, Te18, Te9, Me101, Me57]) ⟨Te8_c, Te18_c, Te9_c, Me101_c, Me57_c, trivial⟩ (fun _ _ => vr_int _) (fun _ _ => vr_int _) (se2_2 n) (by first | trivial | (simp [AllP, *]; done) | (simp [AllP]; omega)) hgl
    · skip
      exact se_one (l := [Te8, Te18, Te9, Me101, Me57]) ⟨Te8_c, Te18_c, Te9_c, Me101_c, Me57_c, trivial⟩ (fun _ _ => vr_int _) (fun _ _ => vr_sy _) (se2_3 a n) (by first | trivial | (simp [AllP, *]; done) | (simp [AllP]; omega)) hgl
  · subst hf
    rcases (by omega : a = 0 ∨ a = 1 ∨ a = 2 ∨ (a ≠ 0 ∧ a ≠ 1 ∧ a ≠ 2)) with ha | ha | ha | ⟨h0, h1, h2⟩
    · subst ha
      by_cases hn : n < 0
      · exact se_one (l := [Te8, Te10, Te9]) ⟨Te8_c, Te10_c, Te9_c, trivial⟩ (fun _ _ => vr_int _) (fun _ _ => vr_int _) (se3_0a n) (by first | trivial | (simp [AllP, *]; done) | (simp [AllP]; omega)) hgl
      · exact se_one (l := [Te8, Te10, Te9]) ⟨Te8_c, Te10_c, Te9_c, trivial⟩ (fun _ _ => vr_int _) (fun _ _ => vr_int _) (se3_0b n) (by first | trivial | (simp [AllP, *]; done) | (simp [AllP]; omega)) hgl
    · subst ha
      by_cases hn : n < 0
      · exact se_one (l := [Te8, Te10, Te9]) ⟨Te8_c, Te10_c, Te9_c, trivial⟩ (fun _ _ => vr_int _) (fun _ _ => vr_int _) (se3_1a n) (by first | trivial | (simp [AllP, *]; done) | (simp [AllP]; omega)) hgl
      · exact se_one (l := [Te8, Te10, Te9]) ⟨Te8_c, Te10_c, Te9_c, trivial⟩ (fun _ _ => vr_int _) (fun _ _ => vr_int _) (se3_1b n) (by first | trivial | (simp [AllP, *]; done) | (simp [AllP]; omega)) hgl
    · subst ha
      by_cases hn : n < 0
      · exact se_one (l := [Te8, Te10, Te9]) ⟨Te8_c, Te10_c, Te9_c, trivial⟩ (fun _ _ => vr_int _) (fun _ _ => vr_int _) (se3_2a n) (by first | trivial | (simp [AllP, *]; done) | (simp [AllP]; omega)) hgl
      · exact se_one (l := [Te8, Te10, Te9]) ⟨Te8_c, Te10_c, Te9_c, trivial⟩ (fun _ _ => vr_int _) (fun _ _ => vr_int _) (se3_2b n) (by first | trivial | (simp [AllP, *]; done) | (simp [AllP]; omega)) hgl
    · skip
      by_cases hn : n < 0
      · exact se_one (l := [Te8, Te10, Te9]) ⟨Te8_c, Te10_c, Te9_c, trivial⟩ (fun _ _ => vr_int _) (fun _ _ => vr_sy _) (se3_3a a n) (by first | trivial | (simp [AllP, *]; done) | (simp [AllP]; omega)) hgl
      · exact se_one (l := [Te8, Te10, Te9]) ⟨Te8_c, Te10_c, Te9_c, trivial⟩ (fun _ _ => vr_int _) (fun _ _ => vr_sy _) (se3_3b a n) (by first | trivial | (simp [AllP, *]; done) | (simp [AllP]; omega)) hgl
  · subst hf
    rcases (by omega : a = 0 ∨ a = 1 ∨ a = 2 ∨ (a ≠ 0 ∧ a ≠ 1 ∧ a ≠ 2)) with ha | ha | ha | ⟨h0, h1, h2⟩
    · subst ha
      by_cases hn : n < 0
      · exact se_one (l := [Te8, Te10, Te9]) ⟨Te8_c, Te10_c, Te9_c, trivial⟩ (fun _ _ => vr_int _) (fun _ _ => vr_int _) (se4_0a n) (by first | trivial | (simp [AllP, *]; done) | (simp [AllP]; omega)) hgl
      · exact se_one (l := [Te8, Te10, Te9]) ⟨Te8_c, Te10_c, Te9_c, trivial⟩ (fun _ _ => vr_int _) (fun _ _ => vr_int _) (se4_0b n) (by first | trivial | (simp [AllP, *]; done) | (simp [AllP]; omega)) hgl
    · subst ha
      by_cases hn : n < 0
      · exact se_one (l := [Te8, Te10, Te9]) ⟨Te8_c, Te10_c, Te9_c, trivial⟩ (fun _ _ => vr_int _) (fun _ _ => vr_int _) (se4_1a n) (by first | trivial | (simp [AllP, *]; done) | (simp [AllP]; omega)) hgl
      · exact se_one (l := [Te8, Te10, Te9]) ⟨Te8_c, Te10_c, Te9_c, trivial⟩ (fun _ _ => vr_int _) (fun _ _ => vr_int _) (se4_1b n) (by first | trivial | (simp [AllP, *]; done) | (simp [AllP]; omega)) hgl
    · subst ha
      by_cases hn : n < 0
      · exact se_one (l := [Te8, Te10, Te9]) ⟨Te8_c, Te10_c, Te9_c, trivial⟩ (fun _ _ => vr_int _) (fun _ _ => vr_int _) (se4_2a n) (by first | trivial | (simp [AllP, *]; done) | (simp [AllP]; omega)) hgl
      · exact se_one (l := [Te8, Te10, Te9]) ⟨Te8_c, Te10_c, Te9_c, trivial⟩ (fun _ _ => vr_int _) (fun _ _ => vr_int _) (se4_2b n) (by first | trivial | (simp [AllP, *]; done) | (simp [AllP]; omega)) hgl
    · skip
      by_cases hn : n < 0
      · exact se_one (l := [Te8, Te10, Te9]) ⟨Te8_c, Te10_c, Te9_c, trivial⟩ (fun _ _ => vr_int _) (fun _ _ => vr_sy _) (se4_3a a n) (by first | trivial | (simp [AllP, *]; done) | (simp [AllP]; omega)) hgl
      · exact se_one (l := [Te8, Te10, Te9]) ⟨Te8_c, Te10_c, Te9_c, trivial⟩ (fun _ _ => vr_int _) (fun _ _ => vr_sy _) (se4_3b a n) (by first | trivial | (simp [AllP, *]; done) | (simp [AllP]; omega)) hgl
  · subst hf
    rcases (by omega : a = 0 ∨ a = 1 ∨ a = 2 ∨ (a ≠ 0 ∧ a ≠ 1 ∧ a ≠ 2)) with ha | ha | ha | ⟨h0, h1, h2⟩
    · subst ha
      by_cases hn : n < 0
      · exact se_one (l := [Te8, Te10, Te9]) ⟨Te8_c, Te10_c, Te9_c, trivial⟩ (fun _ _ => vr_int _) (fun _ _ => vr_int _) (se5_0a n) (by first | trivial | (simp [AllP, *]; done) | (simp [AllP]; omega)) hgl
      · exact se_one (l := [Te8, Te10, Te9]) ⟨Te8_c, Te10_c, Te9_c, trivial⟩ (fun _ _ => vr_int _) (fun _ _ => vr_int _) (se5_0b n) (by first | trivial | (simp [AllP, *]; done) | (simp [AllP]; omega)) hgl
    · subst ha
      by_cases hn : n < 0
      · exact se_one (l := [Te8, Te10, Te9]) ⟨Te8_c, Te10_c, Te9_c, trivial⟩ (fun _ _ => vr_int _) (fun _ _ => vr_int _) (se5_1a n) (by first | trivial | (simp [AllP, *]; done) | (simp [AllP]; omega)) hgl
      · exact se_one (l := [Te8, Te10, Te9]) ⟨Te8_c, Te10_c, Te9_c, trivial⟩ (fun _ _ => vr_int _) (fun _ _ => vr_int _) (se5_1b n) (by first | trivial | (simp [AllP, *]; done) | (simp [AllP]; omega)) hgl
    · subst ha
      by_cases hn : n < 0
      · exact se_one (l := [Te8, Te10, Te9]) ⟨Te8_c, Te10_c, Te9_c, trivial⟩ (fun _ _ => vr_int _) (fun _ _ => vr_int _) (se5_2a n) (by first | trivial | (simp [AllP, *]; done) | (simp [AllP]; omega)) hgl
      · exact se_one (l := [Te8, Te10, Te9]) ⟨Te8_c, Te10_c, Te9_c, trivial⟩ (fun _ _ => vr_int _) (fun _ _ => vr_int _) (se5_2b n) (by first | trivial | (simp [AllP, *]; done) | (simp [AllP]; omega)) hgl
    · skip
      by_cases hn : n < 0
      · exact se_one (l := [Te8, Te10, Te9]) ⟨Te8_c, Te10_c, Te9_c, trivial⟩ (fun _ _ => vr_int _) (fun _ _ => vr_sy _) (se5_3a a n) (by first | trivial | (simp [AllP, *]; done) | (simp [AllP]; omega)) hgl
      · exact se_one (l := [Te8, Te10, Te9]) ⟨Te8_c, Te10_c, Te9_c, trivial⟩ (fun _ _ => vr_int _) (fun _ _ => vr_sy _) (se5_3b a n) (by first | trivial | (simp [AllP, *]; done) | (simp [AllP]; omega)) hgl
  · subst hf
    rcases (by omega : a = 0 ∨ a = 1 ∨ a = 2 ∨ (a ≠ 0 ∧ a ≠ 1 ∧ a ≠ 2)) with ha | ha | ha | ⟨h0, h1, h2⟩
    · subst ha
      exact se_one (l := [Te8, Te19, Te9]) ⟨Te8_c, Te19_c, Te9_c, trivial⟩ (fun _ _ => vr_int _) (fun _ _ => vr_int _) (se6_0 n) (by first | trivial | (simp [AllP, *]; done) | (simp [AllP]; omega)) hgl
    · subst ha
      exact se_one (l := [Te8, Te20, Te9]) ⟨Te8_c, Te20_c, Te9_c, trivial⟩ (fun _ _ => vr_int _) (fun _ _ => vr_int _) (se6_1 n) (by first | trivial | (simp [AllP, *]; done) | (simp [AllP]; omega)) hgl
    · subst ha
      exact se_one (l := [Te8, Te21, Te9]) ⟨Te8_c, Te21_c, Te9_c, trivial⟩ (fun _ _ => vr_int _) (fun _ _ => vr_int _) (se6_2 n) (by first | trivial | (simp [AllP, *]; done) | (simp [AllP]; omega)) hgl
    · skip
      exact se_one (l := [Te8, Te10, Te9]) ⟨Te8_c, Te10_c, Te9_c, trivial⟩ (fun _ _ => vr_int _) (fun _ _ => vr_sy _) (se6_3 a n) (by first | trivial | (simp [AllP, *]; done) | (simp [AllP]; omega)) hgl
  · subst hf
    rcases (by omega : a = 0 ∨ a = 1 ∨ a = 2 ∨ (a ≠ 0 ∧ a ≠ 1 ∧ a ≠ 2)) with ha | ha | ha | ⟨h0, h1, h2⟩
    · subst ha
      exact se_one (l := [Te8, Te10, Te9]) ⟨Te8_c, Te10_c, Te9_c, trivial⟩ (fun _ _ => vr_int _) (fun _ _ => vr_int _) (se7_0 n) (by first | trivial | (simp [AllP, *]; done) | (simp [AllP]; omega)) hgl
    · subst ha
      exact se_one (l := [Te8, Te10, Te9]) ⟨Te8_c, Te10_c, Te9_c, trivial⟩ (fun _ _ => vr_int _) (fun _ _ => vr_int _) (se7_1 n) (by first | trivial | (simp [AllP, *]; done) | (simp [AllP]; omega)) hgl
    · subst ha
      exact se_one (l := [Te8, Te10, Te9]) ⟨Te8_c, Te10_c, Te9_c, trivial⟩ (fun _ _ => vr_int _) (fun _ _ => vr_int _) (se7_2 n) (by first | trivial | (simp [AllP, *]; done) | (simp [AllP]; omega)) hgl
    · skip
      by_cases hn : a < 0
      · exact se_one (l := [Te8, Te10, Te9]) ⟨Te8_c, Te10_c, Te9_c, trivial⟩ (fun _ _ => vr_int _) (fun _ _ => vr_sy _) (se7_3a a n) (by first | trivial | (simp [AllP, *]; done) | (simp [AllP]; omega)) hgl
      · exact se_one (l := [Te8, Te10, Te9]) ⟨Te8_c, Te10_c, Te9_c, trivial⟩ (fun _ _ => vr_int _) (fun _ _ => vr_sy _) (se7_3b a n) (by first | trivial | (simp [AllP, *]; done) | (simp [AllP]; omega)) hgl
  · subst hf
    rcases (by omega : a = 0 ∨ a = 1 ∨ a = 2 ∨ (a ≠ 0 ∧ a ≠ 1 ∧ a ≠ 2)) with ha | ha | ha | ⟨h0, h1, h2⟩
    · subst ha
      exact se_one (l := [Te8, Te10, Te9]) ⟨Te8_c, Te10_c, Te9_c, trivial⟩ (fun _ _ => vr_int _) (fun _ _ => vr_int _) (se8_0 n) (by first | trivial | (simp [AllP, *]; done) | (simp [AllP]; omega)) hgl
    · subst ha
      exact se_one (l := [Te8, Te10, Te9, Nse22, Nse23, Me24]) ⟨Te8_c, Te10_c, Te9_c, Nse22_c, Nse23_c, Me24_c, trivial⟩ (fun _ _ => vr_int _) (fun _ _ => vr_int _) (se8_1 n) (by first | trivial | (simp [AllP, *]; done) | (simp [AllP]; omega)) hgl
    · subst ha
      exact se_one (l := [Te8, Te10, Te9, Nse22, Nse23, Me24]) ⟨Te8_c, Te10_c, Te9_c, Nse22_c, Nse23_c, Me24_c, trivial⟩ (fun _ _ => vr_int _) (fun _ _ => vr_int _) (se8_2 n) (by first | trivial | (simp [AllP, *]; done) | (simp [AllP]; omega)) hgl
    · skip
      exact se_one (l := [Te8, Te10, Te9]) ⟨Te8_c, Te10_c, Te9_c, trivial⟩ (fun _ _ => vr_int _) (fun _ _ => vr_sy _) (se8_3 a n) (by first | trivial | (simp [AllP, *]; done) | (simp [AllP]; omega)) hgl
  · obtain ⟨g1, g2, g3, g4, g5, g6, g7, g8⟩ := hf
    rcases (by omega : a = 1 ∨ a = 2 ∨ (a ≠ 1 ∧ a ≠ 2)) with ha | ha | ⟨h1, h2⟩
    · exact se_one (l := [Te8, Te10, Te9]) ⟨Te8_c, Te10_c, Te9_c, trivial⟩ (fun _ _ => vr_sy _) (fun _ _ => vr_sy _) (se9_1 f a n) (by first | trivial | (simp [AllP, *]; done) | (simp [AllP]; omega)) hgl
    · exact se_one (l := [Te8, Te10, Te9]) ⟨Te8_c, Te10_c, Te9_c, trivial⟩ (fun _ _ => vr_sy _) (fun _ _ => vr_sy _) (se9_2 f a n) (by first | trivial | (simp [AllP, *]; done) | (simp [AllP]; omega)) hgl
    · exact se_one (l := [Te8, Te10, Te9]) ⟨Te8_c, Te10_c, Te9_c, trivial⟩ (fun _ _ => vr_sy _) (fun _ _ => vr_sy _) (se9_3 f a n) (by first | trivial | (simp [AllP, *]; done) | (simp [AllP]; omega)) hgl
theorem lawSE_run {w : World} (hgl : GlW glC w) {args : Array Value} {x : DenL [.int .i64, .int .i64, .int .i64]} (hx : RdAll (fzW w) [.int .i64, .int .i64, .int .i64] x args.toList) (_ : BdL [.int .i64, .int .i64, .int .i64] x) : Calls Tryz.prog 7 args w fun e w' => e = .returned (.bool true) ∧ Same w w' := by
  rw [rd_i3 hx]
  exact se_all x.1 x.2.1 x.2.2.1 hgl
end
end Go.Proofs.YtikedhemjoljpaaGreatDoor
