/-
  armariumlaw22.CalmQuiet: the law, out of its pieces. No condition.
-/
import Derived.Test.YtikedhemjoljpaaGreatDoorLawCQa
import Derived.Test.YtikedhemjoljpaaGreatDoorLawCQb
import Derived.Test.YtikedhemjoljpaaGreatDoorLawCQc
import Derived.Test.YtikedhemjoljpaaGreatDoorLawCQd
import Derived.Test.YtikedhemjoljpaaGreatDoorLawCQe
namespace Go.Proofs.YtikedhemjoljpaaGreatDoor
noncomputable section
open Go Go.Eng
set_option maxRecDepth 1000000
theorem send_k : ∀ (n : Nat), n < 30 → allB (fun j => chk smS [getE j, mayE j] (sendE n j)) 0 n = true
  | 0, _ => rfl
  | 1, _ => send_k1
  | 2, _ => send_k2
  | 3, _ => send_k3
  | 4, _ => send_k4
  | 5, _ => send_k5
  | 6, _ => send_k6
  | 7, _ => send_k7
  | 8, _ => send_k8
  | 9, _ => send_k9
  | 10, _ => send_k10
  | 11, _ => send_k11
  | 12, _ => send_k12
  | 13, _ => send_k13
  | 14, _ => send_k14
  | 15, _ => send_k15
  | 16, _ => send_k16
  | 17, _ => send_k17
  | 18, _ => send_k18
  | 19, _ => send_k19
  | 20, _ => send_k20
  | 21, _ => send_k21
  | 22, _ => send_k22
  | 23, _ => send_k23
  | 24, _ => send_k24
  | 25, _ => send_k25
  | 26, _ => send_k26
  | 27, _ => send_k27
  | 28, _ => send_k28
  | 29, _ => send_k29
  | n + 30, h => by omega
theorem send_c (n : Nat) (hn : n < 30) (j : Nat) (hj : j < n) : EO (sendE n j) := eo (l := [getE j, mayE j]) smS_ok ⟨qget_c j (by omega), qmay_c j (by omega), trivial⟩ (allB_ok (send_k n hn) j (by omega) (by omega))
theorem sL_c (n : Nat) (hn : n < 30) : ∀ k, k ≤ n → AllEO (sL n k)
  | 0, _ => trivial
  | k + 1, h => ⟨send_c n hn k h, sL_c n hn k (by omega)⟩
theorem pL_c : ∀ k, k ≤ 29 → AllEO (pL k)
  | 0, _ => trivial
  | k + 1, h => ⟨qput_c k h, pL_c k (by omega)⟩
theorem ap_all (n t : Int) : ∀ r : Nat, r < 30 → ∃ k m, m < 30 ∧ X1 n t k = R1 n t r m
  | 0, _ => ⟨_, _, by decide, ap0 n t⟩
  | 1, _ => ⟨_, _, by decide, ap1 n t⟩
  | 2, _ => ⟨_, _, by decide, ap2 n t⟩
  | 3, _ => ⟨_, _, by decide, ap3 n t⟩
  | 4, _ => ⟨_, _, by decide, ap4 n t⟩
  | 5, _ => ⟨_, _, by decide, ap5 n t⟩
  | 6, _ => ⟨_, _, by decide, ap6 n t⟩
  | 7, _ => ⟨_, _, by decide, ap7 n t⟩
  | 8, _ => ⟨_, _, by decide, ap8 n t⟩
  | 9, _ => ⟨_, _, by decide, ap9 n t⟩
  | 10, _ => ⟨_, _, by decide, ap10 n t⟩
  | 11, _ => ⟨_, _, by decide, ap11 n t⟩
  | 12, _ => ⟨_, _, by decide, ap12 n t⟩
  | 13, _ => ⟨_, _, by decide, ap13 n t⟩
  | 14, _ => ⟨_, _, by decide, ap14 n t⟩
  | 15, _ => ⟨_, _, by decide, ap15 n t⟩
  | 16, _ => ⟨_, _, by decide, ap16 n t⟩
  | 17, _ => ⟨_, _, by decide, ap17 n t⟩
  | 18, _ => ⟨_, _, by decide, ap18 n t⟩
  | 19, _ => ⟨_, _, by decide, ap19 n t⟩
  | 20, _ => ⟨_, _, by decide, ap20 n t⟩
  | 21, _ => ⟨_, _, by decide, ap21 n t⟩
  | 22, _ => ⟨_, _, by decide, ap22 n t⟩
  | 23, _ => ⟨_, _, by decide, ap23 n t⟩
  | 24, _ => ⟨_, _, by decide, ap24 n t⟩
  | 25, _ => ⟨_, _, by decide, ap25 n t⟩
  | 26, _ => ⟨_, _, by decide, ap26 n t⟩
  | 27, _ => ⟨_, _, by decide, ap27 n t⟩
  | 28, _ => ⟨_, _, by decide, ap28 n t⟩
  | 29, _ => ⟨_, _, by decide, ap29 n t⟩
  | r + 30, h => by omega
theorem an_all (n t : Int) : ∀ r : Nat, 0 < r → r < 30 → ∃ k m, m < 30 ∧ X1 n t k = R1 n t (-(r : Int)) m
  | 0, h, _ => by omega
  | 1, _, _ => ⟨_, _, by decide, an1 n t⟩
  | 2, _, _ => ⟨_, _, by decide, an2 n t⟩
  | 3, _, _ => ⟨_, _, by decide, an3 n t⟩
  | 4, _, _ => ⟨_, _, by decide, an4 n t⟩
  | 5, _, _ => ⟨_, _, by decide, an5 n t⟩
  | 6, _, _ => ⟨_, _, by decide, an6 n t⟩
  | 7, _, _ => ⟨_, _, by decide, an7 n t⟩
  | 8, _, _ => ⟨_, _, by decide, an8 n t⟩
  | 9, _, _ => ⟨_, _, by decide, an9 n t⟩
  | 10, _, _ => ⟨_, _, by decide, an10 n t⟩
  | 11, _, _ => ⟨_, _, by decide, an11 n t⟩
  | 12, _, _ => ⟨_, _, by decide, an12 n t⟩
  | 13, _, _ => ⟨_, _, by decide, an13 n t⟩
  | 14, _, _ => ⟨_, _, by decide, an14 n t⟩
  | 15, _, _ => ⟨_, _, by decide, an15 n t⟩
  | 16, _, _ => ⟨_, _, by decide, an16 n t⟩
  | 17, _, _ => ⟨_, _, by decide, an17 n t⟩
  | 18, _, _ => ⟨_, _, by decide, an18 n t⟩
  | 19, _, _ => ⟨_, _, by decide, an19 n t⟩
  | 20, _, _ => ⟨_, _, by decide, an20 n t⟩
  | 21, _, _ => ⟨_, _, by decide, an21 n t⟩
  | 22, _, _ => ⟨_, _, by decide, an22 n t⟩
  | 23, _, _ => ⟨_, _, by decide, an23 n t⟩
  | 24, _, _ => ⟨_, _, by decide, an24 n t⟩
  | 25, _, _ => ⟨_, _, by decide, an25 n t⟩
  | 26, _, _ => ⟨_, _, by decide, an26 n t⟩
  | 27, _, _ => ⟨_, _, by decide, an27 n t⟩
  | 28, _, _ => ⟨_, _, by decide, an28 n t⟩
  | 29, _, _ => ⟨_, _, by decide, an29 n t⟩
  | r + 30, _, h => by omega
theorem bq_all (n t : Int) : ∀ m : Nat, m < 30 → X2 n t m = R2 t m
  | 0, _ => bq0 n t
  | 1, _ => bq1 n t
  | 2, _ => bq2 n t
  | 3, _ => bq3 n t
  | 4, _ => bq4 n t
  | 5, _ => bq5 n t
  | 6, _ => bq6 n t
  | 7, _ => bq7 n t
  | 8, _ => bq8 n t
  | 9, _ => bq9 n t
  | 10, _ => bq10 n t
  | 11, _ => bq11 n t
  | 12, _ => bq12 n t
  | 13, _ => bq13 n t
  | 14, _ => bq14 n t
  | 15, _ => bq15 n t
  | 16, _ => bq16 n t
  | 17, _ => bq17 n t
  | 18, _ => bq18 n t
  | 19, _ => bq19 n t
  | 20, _ => bq20 n t
  | 21, _ => bq21 n t
  | 22, _ => bq22 n t
  | 23, _ => bq23 n t
  | 24, _ => bq24 n t
  | 25, _ => bq25 n t
  | 26, _ => bq26 n t
  | 27, _ => bq27 n t
  | 28, _ => bq28 n t
  | 29, _ => bq29 n t
  | m + 30, h => by omega
theorem cq_all (n t : Int) : ∀ m : Nat, m < 30 → ∀ j, j ≤ m → X3 n t m false j = R3 t m false j
  | 0, _, j, h => tab_eq (cq0_0 n t) j (by omega) (by omega)
  | 1, _, j, h => tab_eq (cq1_0 n t) j (by omega) (by omega)
  | 2, _, j, h => tab_eq (cq2_0 n t) j (by omega) (by omega)
  | 3, _, j, h => tab_eq (cq3_0 n t) j (by omega) (by omega)
  | 4, _, j, h => tab_eq (cq4_0 n t) j (by omega) (by omega)
  | 5, _, j, h => tab_eq (cq5_0 n t) j (by omega) (by omega)
  | 6, _, j, h => tab_eq (cq6_0 n t) j (by omega) (by omega)
  | 7, _, j, h => tab_eq (cq7_0 n t) j (by omega) (by omega)
  | 8, _, j, h => tab_eq (cq8_0 n t) j (by omega) (by omega)
  | 9, _, j, h => tab_eq (cq9_0 n t) j (by omega) (by omega)
  | 10, _, j, h => tab_eq (cq10_0 n t) j (by omega) (by omega)
  | 11, _, j, h => tab_eq (cq11_0 n t) j (by omega) (by omega)
  | 12, _, j, h => tab_eq (cq12_0 n t) j (by omega) (by omega)
  | 13, _, j, h => tab_eq (cq13_0 n t) j (by omega) (by omega)
  | 14, _, j, h => if g0 : j < 12 then tab_eq (cq14_0 n t) j (by omega) (by omega) else tab_eq (cq14_1 n t) j (by omega) (by omega)
  | 15, _, j, h => if g0 : j < 12 then tab_eq (cq15_0 n t) j (by omega) (by omega) else tab_eq (cq15_1 n t) j (by omega) (by omega)
  | 16, _, j, h => if g0 : j < 13 then tab_eq (cq16_0 n t) j (by omega) (by omega) else tab_eq (cq16_1 n t) j (by omega) (by omega)
  | 17, _, j, h => if g0 : j < 13 then tab_eq (cq17_0 n t) j (by omega) (by omega) else tab_eq (cq17_1 n t) j (by omega) (by omega)
  | 18, _, j, h => if g0 : j < 14 then tab_eq (cq18_0 n t) j (by omega) (by omega) else tab_eq (cq18_1 n t) j (by omega) (by omega)
  | 19, _, j, h => if g0 : j < 14 then tab_eq (cq19_0 n t) j (by omega) (by omega) else tab_eq (cq19_1 n t) j (by omega) (by omega)
  | 20, _, j, h => if g0 : j < 15 then tab_eq (cq20_0 n t) j (by omega) (by omega) else tab_eq (cq20_1 n t) j (by omega) (by omega)
  | 21, _, j, h => if g0 : j < 15 then tab_eq (cq21_0 n t) j (by omega) (by omega) else tab_eq (cq21_1 n t) j (by omega) (by omega)
  | 22, _, j, h => if g0 : j < 14 then tab_eq (cq22_0 n t) j (by omega) (by omega) else if g1 : j < 19 then tab_eq (cq22_1 n t) j (by omega) (by omega) else tab_eq (cq22_2 n t) j (by omega) (by omega)
  | 23, _, j, h => if g0 : j < 14 then tab_eq (cq23_0 n t) j (by omega) (by omega) else if g1 : j < 19 then tab_eq (cq23_1 n t) j (by omega) (by omega) else tab_eq (cq23_2 n t) j (by omega) (by omega)
  | 24, _, j, h => if g0 : j < 15 then tab_eq (cq24_0 n t) j (by omega) (by omega) else if g1 : j < 20 then tab_eq (cq24_1 n t) j (by omega) (by omega) else tab_eq (cq24_2 n t) j (by omega) (by omega)
  | 25, _, j, h => if g0 : j < 16 then tab_eq (cq25_0 n t) j (by omega) (by omega) else if g1 : j < 21 then tab_eq (cq25_1 n t) j (by omega) (by omega) else tab_eq (cq25_2 n t) j (by omega) (by omega)
  | 26, _, j, h => if g0 : j < 16 then tab_eq (cq26_0 n t) j (by omega) (by omega) else if g1 : j < 22 then tab_eq (cq26_1 n t) j (by omega) (by omega) else tab_eq (cq26_2 n t) j (by omega) (by omega)
  | 27, _, j, h => if g0 : j < 17 then tab_eq (cq27_0 n t) j (by omega) (by omega) else if g1 : j < 23 then tab_eq (cq27_1 n t) j (by omega) (by omega) else tab_eq (cq27_2 n t) j (by omega) (by omega)
  | 28, _, j, h => if g0 : j < 17 then tab_eq (cq28_0 n t) j (by omega) (by omega) else if g1 : j < 23 then tab_eq (cq28_1 n t) j (by omega) (by omega) else tab_eq (cq28_2 n t) j (by omega) (by omega)
  | 29, _, j, h => if g0 : j < 18 then tab_eq (cq29_0 n t) j (by omega) (by omega) else if g1 : j < 24 then tab_eq (cq29_1 n t) j (by omega) (by omega) else tab_eq (cq29_2 n t) j (by omega) (by omega)
  | m + 30, h, _, _ => by omega
theorem eq_all (n t : Int) : ∀ m : Nat, m < 30 → X3 n t m true m = R3 t m true m
  | 0, _ => eq0 n t
  | 1, _ => eq1 n t
  | 2, _ => eq2 n t
  | 3, _ => eq3 n t
  | 4, _ => eq4 n t
  | 5, _ => eq5 n t
  | 6, _ => eq6 n t
  | 7, _ => eq7 n t
  | 8, _ => eq8 n t
  | 9, _ => eq9 n t
  | 10, _ => eq10 n t
  | 11, _ => eq11 n t
  | 12, _ => eq12 n t
  | 13, _ => eq13 n t
  | 14, _ => eq14 n t
  | 15, _ => eq15 n t
  | 16, _ => eq16 n t
  | 17, _ => eq17 n t
  | 18, _ => eq18 n t
  | 19, _ => eq19 n t
  | 20, _ => eq20 n t
  | 21, _ => eq21 n t
  | 22, _ => eq22 n t
  | 23, _ => eq23 n t
  | 24, _ => eq24 n t
  | 25, _ => eq25 n t
  | 26, _ => eq26 n t
  | 27, _ => eq27 n t
  | 28, _ => eq28 n t
  | 29, _ => eq29 n t
  | m + 30, h => by omega
theorem inK_of {x : Int} (h1 : -4000 ≤ x) (h2 : x ≤ 4000) : decide (inK .i64 x) = true := by
  simp only [decide_eq_true_eq]
  unfold inK
  simp only [IntKind.min, IntKind.max, IntKind.signed, IntKind.bits]
  constructor <;> simp <;> omega
theorem pcR_ok (e : Bool) : ∀ (j : Nat) (c : Int) (acc : List Bool), AllP acc → ((j : Int) ≤ c ∨ j = 0) → c ≤ 3000 → (e = true → (j : Int) < c) → (e = false → c ≤ j) → AllP (pcR e j c acc)
  | 0, c, acc, ha, _, _, h3, h4 => by
    refine ⟨?_, ha⟩
    cases e
    · have := h4 rfl
      simp; omega
    · have := h3 rfl
      simp; omega
  | j + 1, c, acc, ha, h1, h2, h3, h4 => by
    have h1 : ((j : Int) + 1) ≤ c := by rcases h1 with h | h <;> omega
    exact pcR_ok e j (c - 1) _ ⟨inK_of (by omega) (by omega), by simp; omega, ha⟩ (.inl (by omega)) (by omega) (fun he => by have := h3 he; omega) (fun he => by have := h4 he; omega)
theorem c_all (n t : Int) (m : Nat) (hm : m < 30) : ∃ ora pc, segX Tryz.prog (Q3 m) 100000 48 (sB n t) RC (regT (rsA m t)) ⟨(backS (sB n t) (131 + 3 * m) (osB m)).heap, 131 + 3 * m, [], ora⟩ (131 + 3 * m) [] [4] = some (.ret, regT [(4, .bool true)], pc) ∧ AllP pc := by
  by_cases h0 : min t 3000 ≤ 0
  · have hk : max 0 (min t 3000) = 0 := by omega
    refine ⟨_, _, segZ_ok rfl (cq_all n t m hm 0 (by omega)), ?_⟩
    unfold pcQ
    rw [hk]
    refine ⟨?_, inK_of (by omega) (by omega), ?_, pcR_ok false 0 _ [] trivial (.inr rfl) (by omega) (by simp) (fun _ => by simpa using h0)⟩
    · first | (simp; done) | (simp; omega)
    · cases m with
      | zero => simp
      | succ m => first | (simp [Nat.beq]; done) | (simp [Nat.beq]; omega)
  have hk : max 0 (min t 3000) = min t 3000 := by omega
  by_cases h1 : (m : Int) < min t 3000
  · refine ⟨_, _, segZ_ok rfl (eq_all n t m hm), ?_⟩
    unfold pcQ
    rw [hk]
    refine ⟨?_, inK_of (by omega) (by omega), ?_, pcR_ok true m _ [] trivial (.inl (by omega)) (by omega) (fun _ => h1) (by simp)⟩
    · first | (simp; done) | (simp; omega)
    · first | (simp; done) | (simp; omega)
  · obtain ⟨j, hj⟩ : ∃ j : Nat, min t 3000 = j := ⟨(min t 3000).toNat, by omega⟩
    refine ⟨_, _, segZ_ok rfl (cq_all n t m hm j (by omega)), ?_⟩
    unfold pcQ
    rw [hk]
    refine ⟨?_, inK_of (by omega) (by omega), ?_, pcR_ok false j _ [] trivial (.inl (by omega)) (by omega) (by simp) (fun _ => by omega)⟩
    · first | (simp; done) | (simp; omega)
    · rw [hj]
      by_cases e : j = m
      · subst e; simp
      · rw [beq_f e]; first | (simp; done) | (simp; omega)
theorem fnb8 : Tryz.f8.body = some (bodyOf Tryz.f8) := by kernel_rfl
theorem LC_eq : LC = .seq cB RC := by kernel_rfl
theorem Q1_ok : Q1.OK Tryz.prog := envQ_ok (l := [Ue8]) smS_ok ⟨Ue8_c, trivial⟩
theorem Q2_ok : Q2.OK Tryz.prog := envQ_ok (l := pL 29) smS_ok (pL_c 29 (by decide))
theorem Q3_ok (m : Nat) (hm : m < 30) : (Q3 m).OK Tryz.prog := envQ_ok (l := sL m m) smS_ok (sL_c m hm m (by omega))
theorem tm30 (n : Int) : -30 < n.tmod 30 ∧ n.tmod 30 < 30 := by
  refine ⟨?_, Int.tmod_lt_of_pos n (by decide)⟩
  have := Int.tmod_lt_of_pos (-n) (show (0 : Int) < 30 by decide)
  rw [Int.neg_tmod] at this
  omega
theorem a_all (n t : Int) : ∃ k m, m < 30 ∧ X1 n t k = R1 n t (n.tmod 30) m := by
  obtain ⟨h1, h2⟩ := tm30 n
  by_cases h : 0 ≤ n.tmod 30
  · have := ap_all n t (n.tmod 30).toNat (by omega)
    rwa [show (((n.tmod 30).toNat : Nat) : Int) = n.tmod 30 by omega] at this
  · have := an_all n t (-(n.tmod 30)).toNat (by omega) (by omega)
    rwa [show -(((-(n.tmod 30)).toNat : Nat) : Int) = n.tmod 30 by omega] at this
theorem cq_c : PureC Tryz.prog glC 8 SQ := by
  refine pure_here (E := Q1) Q1_ok gl_ne Tryz.func8 fnb8 (Nat.le_of_ble_eq_true (by kernel_rfl)) ?_
  rintro ⟨n, t, ⟨⟩⟩ _ w ι0 a hB hs hd
  refine ⟨[.bool true], fun fz => ⟨_, _, rfl, .inr ⟨rfl, rfl⟩, rfl⟩, ?_⟩
  have hB2 : Base Tryz.prog Q2 w (sB n t) ι0 := ⟨hB.wf, hB.gi, hB.on, hB.nw⟩
  have hB3 : ∀ m, Base Tryz.prog (Q3 m) w (sB n t) ι0 := fun m => ⟨hB.wf, hB.gi, hB.on, hB.nw⟩
  rw [show (bodyOf Tryz.f8) = seqL (cutC 5 (bodyOf Tryz.f8)).1 LC from (cutC_eq 5 _).symm]
  obtain ⟨k, m, hm, e1⟩ := a_all n t
  refine Here.seg Q1_ok hB (Base.begin hB hs) [k] e1 ⟨rfl, by simp, trivial⟩ fun a1 w1 h1 d1 => ?_
  rw [LC_eq]
  refine wp_seq ?_
  refine Here.piece Q2_ok hB2 h1 [] (bq_all n t m hm) trivial fun a2 w2 h2 d2 => ?_
  show RC.wp Tryz.prog _ a2 w2
  obtain ⟨ora, pc, e, hp⟩ := c_all n t m hm
  refine Here.piece (Q3_ok m hm) (hB3 m) h2 ora e hp fun a3 w3 h3 d3 => ?_
  refine ⟨by rw [d3, d2, d1, hd], .bool true, ?_, rfl, Here.same hB h3⟩
  exact Here.results Q1_ok hB (ψ := .nil) h3 (by kernel_rfl) rfl
theorem lawCQ_run {w : World} (hgl : GlW glC w) {args : Array Value} {x : DenL [.int .i64, .int .i64]} (hx : RdAll (fzW w) [.int .i64, .int .i64] x args.toList) (hb : BdL [.int .i64, .int .i64] x) : Calls Tryz.prog 8 args w fun e w' => e = .returned (.bool true) ∧ Same w w' :=
  law_calls cq_c (fun _ _ => ⟨rfl, rfl⟩) hgl hx hb
end
end Go.Proofs.YtikedhemjoljpaaGreatDoor
