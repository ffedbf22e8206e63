/-
  armariumlaw22.WorldTime: the law: its two remainders are told ahead. No condition.
-/
import Derived.Test.YtikedhemjoljpaaGreatDoorLawWTa
namespace Go.Proofs.YtikedhemjoljpaaGreatDoor
noncomputable section
open Go Go.Eng
set_option maxRecDepth 1000000
theorem wt_one {n d : Int} {l : List Ent} (hl : AllEO l) {ora : List Nat} {pc : List Bool}
    (h : kzTrueS Tryz.prog (envQ smS l) 100000 ora 5 [sy (.int .i64 n), sy (.int .i64 d)] = some pc) (hp : AllP pc) {w : World} (hgl : GlW glC w) : Calls Tryz.prog 5 #[.int .i64 n, .int .i64 d] w fun e w' => e = .returned (.bool true) ∧ Same w w' :=
  kz_true_s (envQ_ok (l := l) smS_ok hl) gl_ne h hp (fun _ _ => ar_cons (vr_sy _) (ar_cons (vr_sy _) (ar_nil _ _))) w hgl
noncomputable abbrev KW (l : List Ent) (a b : Nat) (n d : Int) : Option (List Bool) := kzTrueS Tryz.prog (envQ smS l) 100000 [a, b] 5 [sy (.int .i64 n), sy (.int .i64 d)]
abbrev RW (m q r n d : Int) : Option (List Bool) := some [decide (m ≠ 0), decide (d.tmod m = q), decide ((5 : Int) ≠ 0), decide (n.tmod 5 = r)]
theorem tm_bd (x m : Int) (hm : 0 < m) : -m < x.tmod m ∧ x.tmod m < m := by
  refine ⟨?_, Int.tmod_lt_of_pos x hm⟩
  have := Int.tmod_lt_of_pos (-x) hm
  rw [Int.neg_tmod] at this
  omega
theorem wt_0_0 (n d : Int) : KW [Re36, Re35, Re31, Me69] 2003 2000 n d = RW 2 (-1) (-4) n d := by kernel_rfl
theorem wt_0_1 (n d : Int) : KW [Re33, Re31, Nte28, Me69] 2003 1000 n d = RW 2 0 (-4) n d := by kernel_rfl
theorem wt_0_2 (n d : Int) : KW [Re36, Re35, Re31, Me69] 2003 1001 n d = RW 2 1 (-4) n d := by kernel_rfl
theorem wt_1_0 (n d : Int) : KW [Re44, Re43, Re39, Me69, Nte42] 2002 2001 n d = RW 3 (-2) (-3) n d := by kernel_rfl
theorem wt_1_1 (n d : Int) : KW [Re46, Re45, Re43, Re39, Nte42] 2002 2000 n d = RW 3 (-1) (-3) n d := by kernel_rfl
theorem wt_1_2 (n d : Int) : KW [Re41, Re39, Nte28, Me69, Nte42] 2002 1000 n d = RW 3 0 (-3) n d := by kernel_rfl
theorem wt_1_3 (n d : Int) : KW [Re44, Re43, Re39, Me69, Nte42] 2002 1001 n d = RW 3 1 (-3) n d := by kernel_rfl
theorem wt_1_4 (n d : Int) : KW [Re46, Re45, Re43, Re39, Nte42] 2002 1002 n d = RW 3 2 (-3) n d := by kernel_rfl
theorem wt_2_0 (n d : Int) : KW [Re54, Re53, Re49, Me69, Nte42, Nte52] 2001 2002 n d = RW 4 (-3) (-2) n d := by kernel_rfl
theorem wt_2_1 (n d : Int) : KW [Re56, Re55, Re53, Re49, Nte42, Nte52] 2001 2001 n d = RW 4 (-2) (-2) n d := by kernel_rfl
theorem wt_2_2 (n d : Int) : KW [Re58, Re57, Re55, Re53, Re49, Nte52] 2001 2000 n d = RW 4 (-1) (-2) n d := by kernel_rfl
theorem wt_2_3 (n d : Int) : KW [Re51, Re49, Nte28, Me69, Nte42, Nte52] 2001 1000 n d = RW 4 0 (-2) n d := by kernel_rfl
theorem wt_2_4 (n d : Int) : KW [Re54, Re53, Re49, Me69, Nte42, Nte52] 2001 1001 n d = RW 4 1 (-2) n d := by kernel_rfl
theorem wt_2_5 (n d : Int) : KW [Re56, Re55, Re53, Re49, Nte42, Nte52] 2001 1002 n d = RW 4 2 (-2) n d := by kernel_rfl
theorem wt_2_6 (n d : Int) : KW [Re58, Re57, Re55, Re53, Re49, Nte52] 2001 1003 n d = RW 4 3 (-2) n d := by kernel_rfl
theorem wt_3_0 (n d : Int) : KW [Re66, Re65, Re61, Me69, Nte42, Nte52, Nte64] 2000 2003 n d = RW 5 (-4) (-1) n d := by kernel_rfl
theorem wt_3_1 (n d : Int) : KW [Re68, Re67, Re65, Re61, Nte42, Nte52, Nte64] 2000 2002 n d = RW 5 (-3) (-1) n d := by kernel_rfl
theorem wt_3_2 (n d : Int) : KW [Re70, Re69, Re67, Re65, Re61, Nte52, Nte64] 2000 2001 n d = RW 5 (-2) (-1) n d := by kernel_rfl
theorem wt_3_3 (n d : Int) : KW [Re72, Re71, Re69, Re67, Re65, Re61, Nte64] 2000 2000 n d = RW 5 (-1) (-1) n d := by kernel_rfl
theorem wt_3_4 (n d : Int) : KW [Re63, Re61, Nte28, Me69, Nte42, Nte52, Nte64] 2000 1000 n d = RW 5 0 (-1) n d := by kernel_rfl
theorem wt_3_5 (n d : Int) : KW [Re66, Re65, Re61, Me69, Nte42, Nte52, Nte64] 2000 1001 n d = RW 5 1 (-1) n d := by kernel_rfl
theorem wt_3_6 (n d : Int) : KW [Re68, Re67, Re65, Re61, Nte42, Nte52, Nte64] 2000 1002 n d = RW 5 2 (-1) n d := by kernel_rfl
theorem wt_3_7 (n d : Int) : KW [Re70, Re69, Re67, Re65, Re61, Nte52, Nte64] 2000 1003 n d = RW 5 3 (-1) n d := by kernel_rfl
theorem wt_3_8 (n d : Int) : KW [Re72, Re71, Re69, Re67, Re65, Re61, Nte64] 2000 1004 n d = RW 5 4 (-1) n d := by kernel_rfl
theorem wt_4_0 (n d : Int) : KW [Re12, Re6, Nte28] 1000 1000 n d = RW 1 0 0 n d := by kernel_rfl
theorem wt_5_0 (n d : Int) : KW [Re36, Re35, Re31, Me69] 1001 2000 n d = RW 2 (-1) 1 n d := by kernel_rfl
theorem wt_5_1 (n d : Int) : KW [Re33, Re31, Nte28, Me69] 1001 1000 n d = RW 2 0 1 n d := by kernel_rfl
theorem wt_5_2 (n d : Int) : KW [Re36, Re35, Re31, Me69] 1001 1001 n d = RW 2 1 1 n d := by kernel_rfl
theorem wt_6_0 (n d : Int) : KW [Re44, Re43, Re39, Me69, Nte42] 1002 2001 n d = RW 3 (-2) 2 n d := by kernel_rfl
theorem wt_6_1 (n d : Int) : KW [Re46, Re45, Re43, Re39, Nte42] 1002 2000 n d = RW 3 (-1) 2 n d := by kernel_rfl
theorem wt_6_2 (n d : Int) : KW [Re41, Re39, Nte28, Me69, Nte42] 1002 1000 n d = RW 3 0 2 n d := by kernel_rfl
theorem wt_6_3 (n d : Int) : KW [Re44, Re43, Re39, Me69, Nte42] 1002 1001 n d = RW 3 1 2 n d := by kernel_rfl
theorem wt_6_4 (n d : Int) : KW [Re46, Re45, Re43, Re39, Nte42] 1002 1002 n d = RW 3 2 2 n d := by kernel_rfl
theorem wt_7_0 (n d : Int) : KW [Re54, Re53, Re49, Me69, Nte42, Nte52] 1003 2002 n d = RW 4 (-3) 3 n d := by kernel_rfl
theorem wt_7_1 (n d : Int) : KW [Re56, Re55, Re53, Re49, Nte42, Nte52] 1003 2001 n d = RW 4 (-2) 3 n d := by kernel_rfl
theorem wt_7_2 (n d : Int) : KW [Re58, Re57, Re55, Re53, Re49, Nte52] 1003 2000 n d = RW 4 (-1) 3 n d := by kernel_rfl
theorem wt_7_3 (n d : Int) : KW [Re51, Re49, Nte28, Me69, Nte42, Nte52] 1003 1000 n d = RW 4 0 3 n d := by kernel_rfl
theorem wt_7_4 (n d : Int) : KW [Re54, Re53, Re49, Me69, Nte42, Nte52] 1003 1001 n d = RW 4 1 3 n d := by kernel_rfl
theorem wt_7_5 (n d : Int) : KW [Re56, Re55, Re53, Re49, Nte42, Nte52] 1003 1002 n d = RW 4 2 3 n d := by kernel_rfl
theorem wt_7_6 (n d : Int) : KW [Re58, Re57, Re55, Re53, Re49, Nte52] 1003 1003 n d = RW 4 3 3 n d := by kernel_rfl
theorem wt_8_0 (n d : Int) : KW [Re66, Re65, Re61, Me69, Nte42, Nte52, Nte64] 1004 2003 n d = RW 5 (-4) 4 n d := by kernel_rfl
theorem wt_8_1 (n d : Int) : KW [Re68, Re67, Re65, Re61, Nte42, Nte52, Nte64] 1004 2002 n d = RW 5 (-3) 4 n d := by kernel_rfl
theorem wt_8_2 (n d : Int) : KW [Re70, Re69, Re67, Re65, Re61, Nte52, Nte64] 1004 2001 n d = RW 5 (-2) 4 n d := by kernel_rfl
theorem wt_8_3 (n d : Int) : KW [Re72, Re71, Re69, Re67, Re65, Re61, Nte64] 1004 2000 n d = RW 5 (-1) 4 n d := by kernel_rfl
theorem wt_8_4 (n d : Int) : KW [Re63, Re61, Nte28, Me69, Nte42, Nte52, Nte64] 1004 1000 n d = RW 5 0 4 n d := by kernel_rfl
theorem wt_8_5 (n d : Int) : KW [Re66, Re65, Re61, Me69, Nte42, Nte52, Nte64] 1004 1001 n d = RW 5 1 4 n d := by kernel_rfl
theorem wt_8_6 (n d : Int) : KW [Re68, Re67, Re65, Re61, Nte42, Nte52, Nte64] 1004 1002 n d = RW 5 2 4 n d := by kernel_rfl
theorem wt_8_7 (n d : Int) : KW [Re70, Re69, Re67, Re65, Re61, Nte52, Nte64] 1004 1003 n d = RW 5 3 4 n d := by kernel_rfl
theorem wt_8_8 (n d : Int) : KW [Re72, Re71, Re69, Re67, Re65, Re61, Nte64] 1004 1004 n d = RW 5 4 4 n d := by kernel_rfl
theorem wt_all (n d : Int) {w : World} (hgl : GlW glC w) : Calls Tryz.prog 5 #[.int .i64 n, .int .i64 d] w fun e w' => e = .returned (.bool true) ∧ Same w w' := by
  obtain ⟨b1, b2⟩ := tm_bd n 5 (by decide)
  rcases (by omega : n.tmod 5 = (-4) ∨ n.tmod 5 = (-3) ∨ n.tmod 5 = (-2) ∨ n.tmod 5 = (-1) ∨ n.tmod 5 = 0 ∨ n.tmod 5 = 1 ∨ n.tmod 5 = 2 ∨ n.tmod 5 = 3 ∨ n.tmod 5 = 4) with hr | hr | hr | hr | hr | hr | hr | hr | hr
  · obtain ⟨c1, c2⟩ := tm_bd d 2 (by decide)
    rcases (by omega : d.tmod 2 = (-1) ∨ d.tmod 2 = 0 ∨ d.tmod 2 = 1) with hq | hq | hq
    · exact wt_one (l := [Re36, Re35, Re31, Me69]) ⟨Re36_c, Re35_c, Re31_c, Me69_c, trivial⟩ (wt_0_0 n d) ⟨rfl, by simp [hq], rfl, by simp [hr], trivial⟩ hgl
    · exact wt_one (l := [Re33, Re31, Nte28, Me69]) ⟨Re33_c, Re31_c, Nte28_c, Me69_c, trivial⟩ (wt_0_1 n d) ⟨rfl, by simp [hq], rfl, by simp [hr], trivial⟩ hgl
    · exact wt_one (l := [Re36, Re35, Re31, Me69]) ⟨Re36_c, Re35_c, Re31_c, Me69_c, trivial⟩ (wt_0_2 n d) ⟨rfl, by simp [hq], rfl, by simp [hr], trivial⟩ hgl
  · obtain ⟨c1, c2⟩ := tm_bd d 3 (by decide)
    rcases (by omega : d.tmod 3 = (-2) ∨ d.tmod 3 = (-1) ∨ d.tmod 3 = 0 ∨ d.tmod 3 = 1 ∨ d.tmod 3 = 2) with hq | hq | hq | hq | hq
    · exact wt_one (l := [Re44, Re43, Re39, Me69, Nte42]) ⟨Re44_c, Re43_c, Re39_c, Me69_c, Nte42_c, trivial⟩ (wt_1_0 n d) ⟨rfl, by simp [hq], rfl, by simp [hr], trivial⟩ hgl
    · exact wt_one (l := [Re46, Re45, Re43, Re39, Nte42]) ⟨Re46_c, Re45_c, Re43_c, Re39_c, Nte42_c, trivial⟩ (wt_1_1 n d) ⟨rfl, by simp [hq], rfl, by simp [hr], trivial⟩ hgl
    · exact wt_one (l := [Re41, Re39, Nte28, Me69, Nte42]) ⟨Re41_c, Re39_c, Nte28_c, Me69_c, Nte42_c, trivial⟩ (wt_1_2 n d) ⟨rfl, by simp [hq], rfl, by simp [hr], trivial⟩ hgl
    · exact wt_one (l := [Re44, Re43, Re39, Me69, Nte42]) ⟨Re44_c, Re43_c, Re39_c, Me69_c, Nte42_c, trivial⟩ (wt_1_3 n d) ⟨rfl, by simp [hq], rfl, by simp [hr], trivial⟩ hgl
    · exact wt_one (l := [Re46, Re45, Re43, Re39, Nte42]) ⟨Re46_c, Re45_c, Re43_c, Re39_c, Nte42_c, trivial⟩ (wt_1_4 n d) ⟨rfl, by simp [hq], rfl, by simp [hr], trivial⟩ hgl
  · obtain ⟨c1, c2⟩ := tm_bd d 4 (by decide)
    rcases (by omega : d.tmod 4 = (-3) ∨ d.tmod 4 = (-2) ∨ d.tmod 4 = (-1) ∨ d.tmod 4 = 0 ∨ d.tmod 4 = 1 ∨ d.tmod 4 = 2 ∨ d.tmod 4 = 3) with hq | hq | hq | hq | hq | hq | hq
    · exact wt_one (l := [Re54, Re53, Re49, Me69, Nte42, Nte52]) ⟨Re54_c, Re53_c, Re49_c, Me69_c, Nte42_c, Nte52_c, trivial⟩ (wt_2_0 n d) ⟨rfl, by simp [hq], rfl, by simp [hr], trivial⟩ hgl
    · exact wt_one (l := [Re56, Re55, Re53, Re49, Nte42, Nte52]) ⟨Re56_c, Re55_c, Re53_c, Re49_c, Nte42_c, Nte52_c, trivial⟩ (wt_2_1 n d) ⟨rfl, by simp [hq], rfl, by simp [hr], trivial⟩ hgl
    · exact wt_one (l := [Re58, Re57, Re55, Re53, Re49, Nte52]) ⟨Re58_c, Re57_c, Re55_c, Re53_c, Re49_c, Nte52_c, trivial⟩ (wt_2_2 n d) ⟨rfl, by simp [hq], rfl, by simp [hr], trivial⟩ hgl
    · exact wt_one (l := [Re51, Re49, Nte28, Me69, Nte42, Nte52]) ⟨Re51_c, Re49_c, Nte28_c, Me69_c, Nte42_c, Nte52_c, trivial⟩ (wt_2_3 n d) ⟨rfl, by simp [hq], rfl, by simp [hr], trivial⟩ hgl
    · exact wt_one (l := [Re54, Re53, Re49, Me69, Nte42, Nte52]) ⟨Re54_c, Re53_c, Re49_c, Me69_c, Nte42_c, Nte52_c, trivial⟩ (wt_2_4 n d) ⟨rfl, by simp [hq], rfl, by simp [hr], trivial⟩ hgl
    · exact wt_one (l := [Re56, Re55, Re53, Re49, Nte42, Nte52]) ⟨Re56_c, Re55_c, Re53_c, Re49_c, Nte42_c, Nte52_c, trivial⟩ (wt_2_5 n d) ⟨rfl, by simp [hq], rfl, by simp [hr], trivial⟩ hgl
    · exact wt_one (l := [Re58, Re57, Re55, Re53, Re49, Nte52]) ⟨Re58_c, Re57_c, Re55_c, Re53_c, Re49_c, Nte52_c, trivial⟩ (wt_2_6 n d) ⟨rfl, by simp [hq], rfl, by simp [hr], trivial⟩ hgl
  · obtain ⟨c1, c2⟩ := tm_bd d 5 (by decide)
    rcases (by omega : d.tmod 5 = (-4) ∨ d.tmod 5 = (-3) ∨ d.tmod 5 = (-2) ∨ d.tmod 5 = (-1) ∨ d.tmod 5 = 0 ∨ d.tmod 5 = 1 ∨ d.tmod 5 = 2 ∨ d.tmod 5 = 3 ∨ d.tmod 5 = 4) with hq | hq | hq | hq | hq | hq | hq | hq | hq
    · exact wt_one (l := [Re66, Re65, Re61, Me69, Nte42, Nte52, Nte64]) ⟨Re66_c, Re65_c, Re61_c, Me69_c, Nte42_c, Nte52_c, Nte64_c, trivial⟩ (wt_3_0 n d) ⟨rfl, by simp [hq], rfl, by simp [hr], trivial⟩ hgl
    · exact wt_one (l := [Re68, Re67, Re65, Re61, Nte42, Nte52, Nte64]) ⟨Re68_c, Re67_c, Re65_c, Re61_c, Nte42_c, Nte52_c, Nte64_c, trivial⟩ (wt_3_1 n d) ⟨rfl, by simp [hq], rfl, by simp [hr], trivial⟩ hgl
    · exact wt_one (l := [Re70, Re69, Re67, Re65, Re61, Nte52, Nte64]) ⟨Re70_c, Re69_c, Re67_c, Re65_c, Re61_c, Nte52_c, Nte64_c, trivial⟩ (wt_3_2 n d) ⟨rfl, by simp [hq], rfl, by simp [hr], trivial⟩ hgl
    · exact wt_one (l := [Re72, Re71, Re69, Re67, Re65, Re61, Nte64]) ⟨Re72_c, Re71_c, Re69_c, Re67_c, Re65_c, Re61_c, Nte64_c, trivial⟩ (wt_3_3 n d) ⟨rfl, by simp [hq], rfl, by simp [hr], trivial⟩ hgl
    · exact wt_one (l := [Re63, Re61, Nte28, Me69, Nte42, Nte52, Nte64]) ⟨Re63_c, Re61_c, Nte28_c, Me69_c, Nte42_c, Nte52_c, Nte64_c, trivial⟩ (wt_3_4 n d) ⟨rfl, by simp [hq], rfl, by simp [hr], trivial⟩ hgl
    · exact wt_one (l := [Re66, Re65, Re61, Me69, Nte42, Nte52, Nte64]) ⟨Re66_c, Re65_c, Re61_c, Me69_c, Nte42_c, Nte52_c, Nte64_c, trivial⟩ (wt_3_5 n d) ⟨rfl, by simp [hq], rfl, by simp [hr], trivial⟩ hgl
    · exact wt_one (l := [Re68, Re67, Re65, Re61, Nte42, Nte52, Nte64]) ⟨Re68_c, Re67_c, Re65_c, Re61_c, Nte42_c, Nte52_c, Nte64_c, trivial⟩ (wt_3_6 n d) ⟨rfl, by simp [hq], rfl, by simp [hr], trivial⟩ hgl
    · exact wt_one (l := [Re70, Re69, Re67, Re65, Re61, Nte52, Nte64]) ⟨Re70_c, Re69_c, Re67_c, Re65_c, Re61_c, Nte52_c, Nte64_c, trivial⟩ (wt_3_7 n d) ⟨rfl, by simp [hq], rfl, by simp [hr], trivial⟩ hgl
    · exact wt_one (l := [Re72, Re71, Re69, Re67, Re65, Re61, Nte64]) ⟨Re72_c, Re71_c, Re69_c, Re67_c, Re65_c, Re61_c, Nte64_c, trivial⟩ (wt_3_8 n d) ⟨rfl, by simp [hq], rfl, by simp [hr], trivial⟩ hgl
  · obtain ⟨c1, c2⟩ := tm_bd d 1 (by decide)
    have hq : d.tmod 1 = 0 := by omega
    exact wt_one (l := [Re12, Re6, Nte28]) ⟨Re12_c, Re6_c, Nte28_c, trivial⟩ (wt_4_0 n d) ⟨rfl, by simp [hq], rfl, by simp [hr], trivial⟩ hgl
  · obtain ⟨c1, c2⟩ := tm_bd d 2 (by decide)
    rcases (by omega : d.tmod 2 = (-1) ∨ d.tmod 2 = 0 ∨ d.tmod 2 = 1) with hq | hq | hq
    · exact wt_one (l := [Re36, Re35, Re31, Me69]) ⟨Re36_c, Re35_c, Re31_c, Me69_c, trivial⟩ (wt_5_0 n d) ⟨rfl, by simp [hq], rfl, by simp [hr], trivial⟩ hgl
    · exact wt_one (l := [Re33, Re31, Nte28, Me69]) ⟨Re33_c, Re31_c, Nte28_c, Me69_c, trivial⟩ (wt_5_1 n d) ⟨rfl, by simp [hq], rfl, by simp [hr], trivial⟩ hgl
    · exact wt_one (l := [Re36, Re35, Re31, Me69]) ⟨Re36_c, Re35_c, Re31_c, Me69_c, trivial⟩ (wt_5_2 n d) ⟨rfl, by simp [hq], rfl, by simp [hr], trivial⟩ hgl
  · obtain ⟨c1, c2⟩ := tm_bd d 3 (by decide)
    rcases (by omega : d.tmod 3 = (-2) ∨ d.tmod 3 = (-1) ∨ d.tmod 3 = 0 ∨ d.tmod 3 = 1 ∨ d.tmod 3 = 2) with hq | hq | hq | hq | hq
    · exact wt_one (l := [Re44, Re43, Re39, Me69, Nte42]) ⟨Re44_c, Re43_c, Re39_c, Me69_c, Nte42_c, trivial⟩ (wt_6_0 n d) ⟨rfl, by simp [hq], rfl, by simp [hr], trivial⟩ hgl
    · exact wt_one (l := [Re46, Re45, Re43, Re39, Nte42]) ⟨Re46_c, Re45_c, Re43_c, Re39_c, Nte42_c, trivial⟩ (wt_6_1 n d) ⟨rfl, by simp [hq], rfl, by simp [hr], trivial⟩ hgl
    · exact wt_one (l := [Re41, Re39, Nte28, Me69, Nte42]) ⟨Re41_c, Re39_c, Nte28_c, Me69_c, Nte42_c, trivial⟩ (wt_6_2 n d) ⟨rfl, by simp [hq], rfl, by simp [hr], trivial⟩ hgl
    · exact wt_one (l := [Re44, Re43, Re39, Me69, Nte42]) ⟨Re44_c, Re43_c, Re39_c, Me69_c, Nte42_c, trivial⟩ (wt_6_3 n d) ⟨rfl, by simp [hq], rfl, by simp [hr], trivial⟩ hgl
    · exact wt_one (l := [Re46, Re45, Re43, Re39, Nte42]) ⟨Re46_c, Re45_c, Re43_c, Re39_c, Nte42_c, trivial⟩ (wt_6_4 n d) ⟨rfl, by simp [hq], rfl, by simp [hr], trivial⟩ hgl
  · obtain ⟨c1, c2⟩ := tm_bd d 4 (by decide)
    rcases (by omega : d.tmod 4 = (-3) ∨ d.tmod 4 = (-2) ∨ d.tmod 4 = (-1) ∨ d.tmod 4 = 0 ∨ d.tmod 4 = 1 ∨ d.tmod 4 = 2 ∨ d.tmod 4 = 3) with hq | hq | hq | hq | hq | hq | hq
    · exact wt_one (l := [Re54, Re53, Re49, Me69, Nte42, Nte52]) ⟨Re54_c, Re53_c, Re49_c, Me69_c, Nte42_c, Nte52_c, trivial⟩ (wt_7_0 n d) ⟨rfl, by simp [hq], rfl, by simp [hr], trivial⟩ hgl
    · exact wt_one (l := [Re56, Re55, Re53, Re49, Nte42, Nte52]) ⟨Re56_c, Re55_c, Re53_c, Re49_c, Nte42_c, Nte52_c, trivial⟩ (wt_7_1 n d) ⟨rfl, by simp [hq], rfl, by simp [hr], trivial⟩ hgl
    · exact wt_one (l := [Re58, Re57, Re55, Re53, Re49, Nte52]) ⟨Re58_c, Re57_c, Re55_c, Re53_c, Re49_c, Nte52_c, trivial⟩ (wt_7_2 n d) ⟨rfl, by simp [hq], rfl, by simp [hr], trivial⟩ hgl
    · exact wt_one (l := [Re51, Re49, Nte28, Me69, Nte42, Nte52]) ⟨Re51_c, Re49_c, Nte28_c, Me69_c, Nte42_c, Nte52_c, trivial⟩ (wt_7_3 n d) ⟨rfl, by simp [hq], rfl, by simp [hr], trivial⟩ hgl
    · exact wt_one (l := [Re54, Re53, Re49, Me69, Nte42, Nte52]) ⟨Re54_c, Re53_c, Re49_c, Me69_c, Nte42_c, Nte52_c, trivial⟩ (wt_7_4 n d) ⟨rfl, by simp [hq], rfl, by simp [hr], trivial⟩ hgl
    · exact wt_one (l := [Re56, Re55, Re53, Re49, Nte42, Nte52]) ⟨Re56_c, Re55_c, Re53_c, Re49_c, Nte42_c, Nte52_c, trivial⟩ (wt_7_5 n d) ⟨rfl, by simp [hq], rfl, by simp [hr], trivial⟩ hgl
    · exact wt_one (l := [Re58, Re57, Re55, Re53, Re49, Nte52]) ⟨Re58_c, Re57_c, Re55_c, Re53_c, Re49_c, Nte52_c, trivial⟩ (wt_7_6 n d) ⟨rfl, by simp [hq], rfl, by simp [hr], trivial⟩ hgl
  · obtain ⟨c1, c2⟩ := tm_bd d 5 (by decide)
    rcases (by omega : d.tmod 5 = (-4) ∨ d.tmod 5 = (-3) ∨ d.tmod 5 = (-2) ∨ d.tmod 5 = (-1) ∨ d.tmod 5 = 0 ∨ d.tmod 5 = 1 ∨ d.tmod 5 = 2 ∨ d.tmod 5 = 3 ∨ d.tmod 5 = 4) with hq | hq | hq | hq | hq | hq | hq | hq | hq
    · exact wt_one (l := [Re66, Re65, Re61, Me69, Nte42, Nte52, Nte64]) ⟨Re66_c, Re65_c, Re61_c, Me69_c, Nte42_c, Nte52_c, Nte64_c, trivial⟩ (wt_8_0 n d) ⟨rfl, by simp [hq], rfl, by simp [hr], trivial⟩ hgl
    · exact wt_one (l := [Re68, Re67, Re65, Re61, Nte42, Nte52, Nte64]) ⟨Re68_c, Re67_c, Re65_c, Re61_c, Nte42_c, Nte52_c, Nte64_c, trivial⟩ (wt_8_1 n d) ⟨rfl, by simp [hq], rfl, by simp [hr], trivial⟩ hgl
    · exact wt_one (l := [Re70, Re69, Re67, Re65, Re61, Nte52, Nte64]) ⟨Re70_c, Re69_c, Re67_c, Re65_c, Re61_c, Nte52_c, Nte64_c, trivial⟩ (wt_8_2 n d) ⟨rfl, by simp [hq], rfl, by simp [hr], trivial⟩ hgl
    · exact wt_one (l := [Re72, Re71, Re69, Re67, Re65, Re61, Nte64]) ⟨Re72_c, Re71_c, Re69_c, Re67_c, Re65_c, Re61_c, Nte64_c, trivial⟩ (wt_8_3 n d) ⟨rfl, by simp [hq], rfl, by simp [hr], trivial⟩ hgl
    · exact wt_one (l := [Re63, Re61, Nte28, Me69, Nte42, Nte52, Nte64]) ⟨Re63_c, Re61_c, Nte28_c, Me69_c, Nte42_c, Nte52_c, Nte64_c, trivial⟩ (wt_8_4 n d) ⟨rfl, by simp [hq], rfl, by simp [hr], trivial⟩ hgl
    · exact wt_one (l := [Re66, Re65, Re61, Me69, Nte42, Nte52, Nte64]) ⟨Re66_c, Re65_c, Re61_c, Me69_c, Nte42_c, Nte52_c, Nte64_c, trivial⟩ (wt_8_5 n d) ⟨rfl, by simp [hq], rfl, by simp [hr], trivial⟩ hgl
    · exact wt_one (l := [Re68, Re67, Re65, Re61, Nte42, Nte52, Nte64]) ⟨Re68_c, Re67_c, Re65_c, Re61_c, Nte42_c, Nte52_c, Nte64_c, trivial⟩ (wt_8_6 n d) ⟨rfl, by simp [hq], rfl, by simp [hr], trivial⟩ hgl
    · exact wt_one (l := [Re70, Re69, Re67, Re65, Re61, Nte52, Nte64]) ⟨Re70_c, Re69_c, Re67_c, Re65_c, Re61_c, Nte52_c, Nte64_c, trivial⟩ (wt_8_7 n d) ⟨rfl, by simp [hq], rfl, by simp [hr], trivial⟩ hgl
    · exact wt_one (l := [Re72, Re71, Re69, Re67, Re65, Re61, Nte64]) ⟨Re72_c, Re71_c, Re69_c, Re67_c, Re65_c, Re61_c, Nte64_c, trivial⟩ (wt_8_8 n d) ⟨rfl, by simp [hq], rfl, by simp [hr], trivial⟩ hgl
theorem lawWT_run {w : World} (hgl : GlW glC w) {args : Array Value} {x : DenL [.int .i64, .int .i64]} (hx : RdAll (fzW w) [.int .i64, .int .i64] x args.toList) (_ : BdL [.int .i64, .int .i64] x) : Calls Tryz.prog 5 args w fun e w' => e = .returned (.bool true) ∧ Same w w' := by
  rw [rd_i2 hx]
  exact wt_all x.1 x.2.1 hgl
end
end Go.Proofs.YtikedhemjoljpaaGreatDoor
