/-
  AskTurn: the plain law and the contract of the function. No condition.
-/
import Derived.Test.YtpdbgpkedehpgaaGreatDoorLawAA
import Derived.Test.YtpdbgpkedehpgaaGreatDoorTagZ
import Derived.Test.YtpdbgpkedehpgaaGreatDoorRowB
namespace Nice
open Go Go.Eng
def wkN (x : AskD × Int) : Option (DenL [.bool]) := bif eqB x.1 x.1 then bif x.2 == x.2 then yO else nO else nO
def wkR (g : List Bool) (r : ReqW) : Option (DenL [.bool]) := gd (ofP r :: ofP r :: g) (wkN (ofN r))
def wkH (n : Int) : List Bool := [decide ((0 : Int) ≤ min n (10 : Int)), decide (min n (10 : Int) ≤ n)]
def imL : List UInt8 := [105, 102, 45, 109, 97, 116, 99, 104]
def prW : List UInt8 := [38, 112, 114, 101, 102, 105, 120, 61]
def vsW : List UInt8 := [38, 118, 101, 114, 115, 105, 111, 110, 115, 61, 49]
def wkW (v : Int) (m p q : List UInt8) (hs : HeadL) (b s dg : List UInt8) (l : Int) : Option (DenL [.bool]) :=
  bif v == (0 : Int) then wkR (wkH l) (s, p, q, hs, b, ())
  else bif v == (1 : Int) then wkR (wkH l ++ [decide (3 + s.length ≤ 1099511627776)]) (m, ooW ++ s, q, hs, b, ())
  else bif v == (2 : Int) then wkR (wkH l ++ [decide (2 + s.length ≤ 1099511627776)]) (m, oW ++ s, q, hs, b, ())
  else bif v == (3 : Int) then wkR (wkH l ++ [decide (8 + dg.length ≤ 1099511627776)]) (m, p, vPre ++ dg, hs, b, ())
  else bif v == (4 : Int) then wkR (wkH l ++ [decide ((eMax ++ dg ++ prW).length + s.length ≤ 1099511627776), decide ((eMax ++ dg).length + 8 ≤ 1099511627776), decide (4 + dg.length ≤ 1099511627776)]) (m, oW, eMax ++ dg ++ prW ++ s, hs, b, ())
  else bif v == (5 : Int) then wkR (wkH l ++ [decide ((eAft ++ s).length + 11 ≤ 1099511627776), decide (6 + s.length ≤ 1099511627776)]) (m, ooW, eAft ++ s ++ vsW, hs, b, ())
  else bif v == (6 : Int) then wkR [] (m, p, q, [(imL, s, ())], b, ())
  else bif v == (7 : Int) then wkR [decide (([34] ++ tagN s).length + 1 ≤ 1099511627776), decide (1 + (tagN s).length ≤ 1099511627776), bndS s] (m, p, q, [(imW, [34] ++ tagN s ++ [34], ()), (inmW, [42], ())], b, ())
  else bif v == (8 : Int) then wkR (wkH l) (m, p, s, hs, b, ())
  else wkR (wkH l) (getW, p, q, hs, s, ())
noncomputable def wk0 (m p q : List UInt8) (hs : HeadL) (b : List UInt8) (w : Int) (s : List UInt8) (n : Int) : Option (DenL [.bool]) :=
  gd [decide (inK .i64 (w.tmod 10 + 10)), decide (Int.negSucc 9223372036854775807 ≤ n) && decide (n ≤ (9223372036854775807 : Int))] (wkW ((w.tmod 10 + 10).tmod 10) m p q (cutL hs none (some (min (hs.length : Int) 10))) b (cut s 45) (digits n) (hs.length : Int))
theorem wkN_ok (x : AskD × Int) : wkN x = yO := by
  unfold wkN
  rw [eqB_refl, beq_self_eq_true, yT, yT]
theorem gd_all {α : Type} : ∀ {g : List Bool} {o : Option α}, (∀ x, x ∈ g → x = true) → gd g o = o
  | [], _, _ => rfl
  | x :: r, o, h => by rw [gdB (h x (List.mem_cons_self ..))]; exact gd_all fun y hy => h y (List.mem_cons_of_mem _ hy)
theorem wkR_ok {g : List Bool} {r : ReqW} (h : ofP r = true) (hg : ∀ x, x ∈ g → x = true) : wkR g r = yO := by
  unfold wkR
  rw [gdB h, gdB h, gd_all hg, wkN_ok]
theorem wkH_ok (n : Nat) : ∀ x, x ∈ wkH (n : Int) → x = true := by
  intro x hx
  unfold wkH at hx
  simp only [List.mem_cons, List.not_mem_nil, or_false] at hx
  rcases hx with rfl | rfl
  · exact decide_eq_true (by omega)
  · exact decide_eq_true (by omega)
theorem all_app {a b : List Bool} (h1 : ∀ x, x ∈ a → x = true) (h2 : ∀ x, x ∈ b → x = true) : ∀ x, x ∈ a ++ b → x = true := fun x hx => by
  rcases List.mem_append.1 hx with h | h
  · exact h1 x h
  · exact h2 x h
theorem all_1 {p : Prop} [Decidable p] (h : p) : ∀ x, x ∈ [decide p] → x = true := fun x hx => by
  rw [List.mem_singleton.1 hx]; exact decide_eq_true h
theorem all_cons {p : Prop} [Decidable p] {l : List Bool} (h : p) (hl : ∀ x, x ∈ l → x = true) : ∀ x, x ∈ decide p :: l → x = true := fun x hx => by
  rcases List.mem_cons.1 hx with rfl | hx
  · exact decide_eq_true h
  · exact hl x hx
theorem ofP_mk {m p q : List UInt8} {hs : HeadL} {b : List UInt8} (h1 : condsP hs = true) (h2 : q.length ≤ 2000000) (h3 : p.length ≤ 140737488355328) : ofP (m, p, q, hs, b, ()) = true := by
  unfold ofP
  dsimp only
  rw [h1, show shortS q = true from decide_eq_true (by omega)]
  exact decide_eq_true h3
theorem wkW_ok {v : Int} {m p q : List UInt8} {hs : HeadL} {b s dg : List UInt8} {l : Nat} (hp : p.length ≤ 140737488355328) (hq : q.length ≤ 2000000) (hc : condsP hs = true) (hs45 : s.length ≤ 45) (hd : dg.length ≤ 21) : wkW v m p q hs b s dg (l : Int) = yO := by
  have h0 := wkH_ok l
  have lo : oW.length = 2 := rfl
  have loo : ooW.length = 3 := rfl
  have lv : vPre.length = 8 := rfl
  have lm : eMax.length = 4 := rfl
  have la : eAft.length = 6 := rfl
  have lp : prW.length = 8 := rfl
  have ls : vsW.length = 11 := rfl
  have lt : (tagN s).length = 8 := tagN_len s
  have c6 : condsP [(imL, s, ())] = true := condsP_bd (by show 1 ≤ _; omega) fun x hx => by
    rw [List.mem_singleton.1 hx]; exact ⟨by show 8 ≤ _; omega, by show s.length ≤ _; omega⟩
  have c7 : condsP [(imW, [34] ++ tagN s ++ [34], ()), (inmW, [42], ())] = true := condsP_bd (by show 2 ≤ _; omega) fun x hx => by
    rcases List.mem_cons.1 hx with rfl | hx
    · exact ⟨by show 8 ≤ _; omega, by show ([34] ++ tagN s ++ [34]).length ≤ _; simp only [List.length_append, List.length_cons, List.length_nil]; omega⟩
    · rw [List.mem_singleton.1 hx]; exact ⟨by show 13 ≤ _; omega, by show 1 ≤ _; omega⟩
  unfold wkW
  cases v == 0
  · cases v == 1
    · cases v == 2
      · cases v == 3
        · cases v == 4
          · cases v == 5
            · cases v == 6
              · cases v == 7
                · cases v == 8
                  · exact wkR_ok (ofP_mk hc hq hp) h0
                  · exact wkR_ok (ofP_mk hc (by omega) hp) h0
                · refine wkR_ok (ofP_mk c7 hq hp) (all_cons (by rw [List.length_append, List.length_singleton]; omega) (all_cons (by omega) fun x hx => ?_))
                  rw [List.mem_singleton.1 hx]; exact decide_eq_true (by omega)
              · exact wkR_ok (ofP_mk c6 hq hp) fun x hx => by cases hx
            · exact wkR_ok (ofP_mk hc (by simp only [List.length_append]; omega) (by omega)) (all_app h0 (all_cons (by rw [List.length_append]; omega) (all_1 (by omega))))
          · exact wkR_ok (ofP_mk hc (by simp only [List.length_append]; omega) (by omega)) (all_app h0 (all_cons (by simp only [List.length_append]; omega) (all_cons (by rw [List.length_append]; omega) (all_1 (by omega)))))
        · exact wkR_ok (ofP_mk hc (by rw [List.length_append]; omega) hp) (all_app h0 (all_1 (by omega)))
      · exact wkR_ok (ofP_mk hc hq (by rw [List.length_append]; omega)) (all_app h0 (all_1 (by omega)))
    · exact wkR_ok (ofP_mk hc hq (by rw [List.length_append]; omega)) (all_app h0 (all_1 (by omega)))
  · exact wkR_ok (ofP_mk hc hq hp) h0
theorem tmod10 (w : Int) : -10 < w.tmod 10 ∧ w.tmod 10 < 10 := by
  rcases Int.le_total 0 w with h | h
  · rw [Int.tmod_eq_emod_of_nonneg h]; omega
  · obtain ⟨u, rfl⟩ : ∃ u, w = -u := ⟨-w, by omega⟩
    rw [Int.neg_tmod, Int.tmod_eq_emod_of_nonneg (by omega)]; omega
theorem digits_le {n : Int} : (digits n).length ≤ 21 := by
  have key : ∀ (f k : Nat) (acc : List UInt8), (digsF f k acc).length ≤ f + acc.length := by
    intro f
    induction f with
    | zero => intro k acc; simp [digsF]
    | succ f ih =>
      intro k acc
      simp only [digsF]
      split
      · simp; omega
      · have := ih (k / 10) (UInt8.ofNat (48 + k % 10) :: acc)
        simp only [List.length_cons] at this
        omega
  unfold digits digs
  split
  · have := key 20 (-n).toNat []
    simp only [List.length_cons, List.length_nil] at this ⊢; omega
  · have := key 20 n.toNat []
    simp only [List.length_nil] at this; omega
end Nice
namespace Go.Proofs.YtpdbgpkedehpgaaGreatDoor
open Go Go.Eng Nice
set_option maxRecDepth 1000000
noncomputable def olawATurn (x : DenL [ReqT, .int .i64, .str, .int .i64]) : Option (DenL [.bool]) := fO Tryz.prog (envS [(21, trueS), (24, cutS), (25, digitsS), (37, ofS), (38, ofS), (40, tagS)]) (shOf []) Tryz.f10 [ReqT, .int .i64, .str, .int .i64] [.bool] x
theorem elawATurn (m p q : List UInt8) (hs : List (List UInt8 × List UInt8 × Unit)) (b : List UInt8) (w : Int) (s : List UInt8) (n : Int) : olawATurn ((m, p, q, hs, b, ()), w, s, n, ()) = wk0 m p q hs b w s n := by kernel_rfl
theorem lawATurn_n {m p q : List UInt8} {hs : List (List UInt8 × List UInt8 × Unit)} {b : List UInt8} {w : Int} {s : List UInt8} {n : Int} (hp : p.length ≤ 140737488355328) (hq : q.length ≤ 2000000) (h : ∀ x, x ∈ hs → x.1.length ≤ 140737488355328 ∧ x.2.1.length ≤ 140737488355328) (hn : -9223372036854775808 ≤ n ∧ n ≤ 9223372036854775807) : olawATurn ((m, p, q, hs, b, ()), w, s, n, ()) = some (true, ()) := by
  have ht := tmod10 w
  have e : cutL hs none (some (min (hs.length : Int) 10)) = hs.take (min (hs.length : Int) 10).toNat := rfl
  have hc : condsP (cutL hs none (some (min (hs.length : Int) 10))) = true := by
    rw [e]
    exact condsP_bd (by rw [List.length_take]; omega) fun x hx => h x (List.mem_of_mem_take hx)
  have hd : (decide (Int.negSucc 9223372036854775807 ≤ n) && decide (n ≤ (9223372036854775807 : Int))) = true := by
    rw [Bool.and_eq_true, decide_eq_true_eq, decide_eq_true_eq]; exact hn
  have h45 : (cut s 45).length ≤ 45 := by
    show (s.take 45).length ≤ 45
    rw [List.length_take]; omega
  rw [elawATurn]
  unfold wk0
  rw [gdT (inK_i64.2 ⟨by omega, by omega⟩), gdB hd, yG]
  exact wkW_ok hp hq hc h45 digits_le
theorem lawATurn_c : PC 10 (ofO [ReqT, .int .i64, .str, .int .i64] [.bool] olawATurn) := (pureO (envS_ok (l := [(21, trueS), (24, cutS), (25, digitsS), (37, ofS), (38, ofS), (40, tagS)]) ⟨begun_c, cut_c, digits_c, aOfG_c, rOfG_c, tag_c, trivial⟩) gl_ne Tryz.func10 (by kernel_rfl) (by decide))
theorem lawATurn_run {w : World} (hgl : GlW glC w) {args : Array Value} {x : DenL [ReqT, .int .i64, .str, .int .i64]} (hx : RdAll (fzW w) [ReqT, .int .i64, .str, .int .i64] x args.toList) (hb : BdL [ReqT, .int .i64, .str, .int .i64] x) (hB : wtL [ReqT, .int .i64, .str, .int .i64] x ≤ 1048576) : Calls Tryz.prog 10 args w fun e w' => e = .returned (.bool true) ∧ Same w w' := by
  obtain ⟨⟨m, p, q, hs, b, ⟨⟩⟩, k, s, n, ⟨⟩⟩ := x
  have hn : inK .i64 n := hb.2.2.2.1
  have hq : q.length ≤ 2000000 := by
    have : m.length + (p.length + (q.length + (wt (.slice HeadT) hs + (b.length + 0)))) + (0 + (s.length + (0 + 0))) ≤ 1048576 := hB
    omega
  have := lawATurn_n (m := m) (q := q) (b := b) (w := k) (s := s) hb.1.2.1 hq (fun y hy => ⟨(hb.1.2.2.2.1.2 y hy).1, (hb.1.2.2.2.1.2 y hy).2.1⟩) (inK_i64.1 hn)
  exact law_calls1 lawATurn_c (x := ((m, p, q, hs, b, ()), k, s, n, ())) (by show (olawATurn ((m, p, q, hs, b, ()), k, s, n, ())).isSome = true; rw [this]; rfl) (by show (olawATurn ((m, p, q, hs, b, ()), k, s, n, ())).getD _ = _; rw [this]; rfl) hgl hx
end Go.Proofs.YtpdbgpkedehpgaaGreatDoor
