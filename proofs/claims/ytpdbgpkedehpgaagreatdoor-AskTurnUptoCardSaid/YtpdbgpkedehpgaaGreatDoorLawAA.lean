/-
  AskAll: the plain law and the contract of the function. No condition.
-/
import Derived.Test.YtpdbgpkedehpgaaGreatDoorA9
import Derived.Test.YtpdbgpkedehpgaaGreatDoorA5
namespace Nice
open Go Go.Eng
def wa1 (x : AskD × Int) : Option (DenL [.bool]) := bif eqB x.1 x.1 then bif x.2 == x.2 then bif x.2 != (0 : Int) then yO else bif (requestN x.1).2 then gd [askP x.1] yO else gd [askP x.1] nO else nO else nO
def wa0 (n : Int) (r : ReqW) : Option (DenL [.bool]) := gd [ofP r, ofP r, decide ((0 : Int) ≤ min n (10 : Int)), decide (min n (10 : Int) ≤ n)] (wa1 (ofN r))
/-- what is given is of what may be asked -/
theorem ofN_body (r : ReqW) (h : (ofN r).2 = 0) : (ofN r).1.2.2.2.1 = [] ∨ (ofN r).1.2.2.2.1 = r.2.2.2.2.1 := by
  obtain ⟨m, p, q, hs, b, ⟨⟩⟩ := r
  unfold ofN at h ⊢
  dsimp only at h ⊢
  cases e1 : p == oW || p == ooW
  · rw [e1, yF] at h
    rw [yF]
    cases e2 : hasPre p ooW
    · rw [e2] at h; cases h
    · rw [e2, yT] at h
      rw [yT]
      cases e3 : (m == getW || m == headW) || (m == putW || m == delW)
      · rw [e3] at h; cases h
      · rw [yT]
        unfold keyOut
        cases (keyedG (kAsk (p.drop 3) (m == headW)) m q hs b).2 && (m == putW || b == [])
        · exact .inl rfl
        · rw [yT]
          unfold keyedG
          cases isKey (kAsk (p.drop 3) (m == headW)).2.1
          · exact .inl rfl
          · rw [yT]
            cases m == putW
            · rw [yF]
              cases q == []
              · exact .inl rfl
              · exact .inl rfl
            · exact .inr rfl
  · rw [e1, yT] at h
    rw [yT]
    cases e2 : m == getW || m == headW
    · rw [e2] at h; cases h
    · rw [yT]
      unfold listOut
      cases e3 : (listedN (bAsk (m == headW)) q).2 && b == []
      · exact .inl rfl
      · rw [yT]
        rw [Bool.and_eq_true] at e3
        obtain ⟨-, l2⟩ := listed_inv (m == headW) q e3.1
        unfold mayL at l2
        simp only [Bool.and_eq_true, beq_iff_eq] at l2
        exact .inl l2.2.2.1
theorem read_len {t : List UInt8} (h : (rRead t).2 = true) : t.length = 8 := by
  rw [← read_eq] at h; exact gRead_len h
theorem isKey_len {k : List UInt8} (h : isKey k = true) : k.length ≤ 40 := by
  unfold isKey at h
  rw [Bool.and_eq_true, Bool.and_eq_true, decide_eq_true_eq, decide_eq_true_eq] at h
  have := h.2.2
  omega
theorem keyB_len0 {k : List UInt8} (h : keyB k = true) : k.length ≤ 40 := by
  unfold keyB at h
  rw [Bool.or_eq_true, beq_iff_eq] at h
  rcases h with rfl | h
  · exact Nat.zero_le _
  · exact isKey_len h
theorem may_askP {a : AskD} (h : mayN a = true) : askP a = true := by
  obtain ⟨kd, k, v, b, c, t, p, f, m, br, ⟨⟩⟩ := a
  unfold mayN at h
  dsimp only at h
  have fin : k.length ≤ 1000 → b.length ≤ 1000 → t.length ≤ 1000 → p.length ≤ 1000 → f.length ≤ 1000 → -9223372036854775808 ≤ v ∧ v ≤ 9223372036854775807 → -9223372036854775808 ≤ m ∧ m ≤ 9223372036854775807 → askP (kd, k, v, b, c, t, p, f, m, br, ()) = true := by
    intro h1 h2 h3 h4 h5 h6 h7
    unfold askP qryP sh1
    dsimp only
    rw [decide_eq_true h1, decide_eq_true h2, decide_eq_true h3, decide_eq_true h4, decide_eq_true h5, i64P_iff0.2 h6, i64P_iff0.2 h7]; rfl
  cases hL : isL kd
  · rw [hL, yF] at h
    unfold mayC at h
    simp only [Bool.and_eq_true, beq_iff_eq, decide_eq_true_eq] at h
    obtain ⟨⟨rfl, rfl, rfl, hk, hv0, hv1⟩, h⟩ := h
    have hbt : b.length ≤ 1000 ∧ t.length ≤ 1000 := by
      cases h1 : kd == 1
      · rw [h1, yF] at h
        cases h3 : kd == 3
        · rw [h3, yF] at h
          cases h2 : kd == 2
          · rw [h2] at h; cases h
          · rw [h2, yT] at h
            unfold mayP at h
            simp only [Bool.and_eq_true, beq_iff_eq, decide_eq_true_eq] at h
            obtain ⟨hb, _, _, _, _, ht⟩ := h
            refine ⟨by omega, ?_⟩
            cases hc : c == 2
            · rw [hc, yF, beq_iff_eq] at ht
              rw [ht]; exact Nat.zero_le _
            · rw [hc, yT] at ht
              have := read_len ht; omega
        · rw [h3, yT] at h
          unfold mayG at h
          simp only [Bool.and_eq_true, beq_iff_eq] at h
          rw [h.1.1, h.1.2.2]; exact ⟨Nat.zero_le _, Nat.zero_le _⟩
      · rw [h1, yT] at h
        unfold mayG at h
        simp only [Bool.and_eq_true, beq_iff_eq] at h
        rw [h.1, h.2.2]; exact ⟨Nat.zero_le _, Nat.zero_le _⟩
    have := isKey_len hk
    exact fin (by omega) hbt.1 hbt.2 (Nat.zero_le _) (Nat.zero_le _) (by omega) (by omega)
  · rw [hL, yT] at h
    unfold mayL at h
    simp only [Bool.and_eq_true, beq_iff_eq, decide_eq_true_eq] at h
    obtain ⟨rfl, rfl, rfl, rfl, rfl, hp, hf, hm1, hm2⟩ := h
    have h1 := keyB_len0 hp
    have h2 := keyB_len0 hf
    exact fin (Nat.zero_le _) (Nat.zero_le _) (Nat.zero_le _) (by omega) (by omega) (by omega) (by omega)
theorem eqB_refl (a : AskD) : eqB a a = true := by rw [eqB_eq]; exact eqA_iff.2 rfl
theorem wa1_n {r : ReqW} (hb : r.2.2.2.2.1.length ≤ 300) : wa1 (ofN r) = yO := by
  have h0 := ofN_body r
  have h1 := @ofN_may r
  unfold wa1 bne
  rw [eqB_refl, beq_self_eq_true, yT, yT]
  cases hz : (ofN r).2 == 0
  · rfl
  · rw [beq_iff_eq] at hz
    have hl : ((ofN r).1.2.2.2.1.length : Int) ≤ 300 := by
      rcases h0 hz with e | e
      · rw [e]; decide
      · rw [e]; omega
    have hm := h1 hz hl
    have e : (requestN (ofN r).1).2 = true := by rw [request_ok, hm]; rfl
    rw [Bool.not_true, yF, e, yT, gdB (may_askP hm), yG]
theorem condsP_bd {hs : HeadL} (hl : hs.length ≤ 140737488355328) (h : ∀ x, x ∈ hs → x.1.length ≤ 140737488355328 ∧ x.2.1.length ≤ 140737488355328) : condsP hs = true := by
  have hv : ∀ n, (valueN hs n).1.length ≤ 140737488355328 := by
    intro n
    clear hl
    induction hs with
    | nil => exact Nat.zero_le _
    | cons x r ih =>
      unfold valueN
      cases lower x.1 == lower n
      · exact ih fun y hy => h y (List.mem_cons_of_mem _ hy)
      · exact (h x (List.mem_cons_self ..)).2
  have hp : ∀ n, lowerP n = true → valueP hs n = true := by
    intro n hn
    unfold valueP
    have e : (hs.all fun h => lowerP h.1) = true := List.all_eq_true.2 fun x hx => decide_eq_true (h x hx).1
    rw [hn, decide_eq_true hl, e]; rfl
  unfold condsP
  rw [hp inmW rfl, hp imW rfl]
  exact decide_eq_true (hv imW)
end Nice
namespace Go.Proofs.YtpdbgpkedehpgaaGreatDoor
open Go Go.Eng Nice
set_option maxRecDepth 1000000
noncomputable def olawAAll (x : DenL [ReqT]) : Option (DenL [.bool]) := fO Tryz.prog (envS [(21, trueS), (24, cutS), (37, ofS), (38, ofS), (39, amayS)]) (shOf []) Tryz.f9 [ReqT] [.bool] x
theorem elawAAll (m p q : List UInt8) (hs : List (List UInt8 × List UInt8 × Unit)) (b : List UInt8) : olawAAll ((m, p, q, hs, b, ()), ()) = wa0 (hs.length : Int) (cut m 12, cut p 60, cut q 120, cutL hs none (some (min (hs.length : Int) 10)), cut b 300, ()) := by kernel_rfl
theorem lawAAll_n {m p q : List UInt8} {hs : List (List UInt8 × List UInt8 × Unit)} {b : List UInt8} (h : ∀ x, x ∈ hs → x.1.length ≤ 140737488355328 ∧ x.2.1.length ≤ 140737488355328) : olawAAll ((m, p, q, hs, b, ()), ()) = some (true, ()) := by
  rw [elawAAll]
  have c : ∀ (s : List UInt8) (n : Nat), (cut s (n : Int)).length ≤ n := fun s n => by unfold cut; rw [List.length_take]; omega
  have c1 := c p 60
  have c2 := c q 120
  have c3 := c b 300
  have e : cutL hs none (some (min (hs.length : Int) 10)) = hs.take (min (hs.length : Int) 10).toNat := rfl
  have hc : condsP (cutL hs none (some (min (hs.length : Int) 10))) = true := by
    rw [e]
    exact condsP_bd (by rw [List.length_take]; omega) fun x hx => h x (List.mem_of_mem_take hx)
  have hP : ofP (cut m 12, cut p 60, cut q 120, cutL hs none (some (min (hs.length : Int) 10)), cut b 300, ()) = true := by
    unfold ofP
    dsimp only
    rw [hc, show shortS (cut q 120) = true from decide_eq_true (by have : (cut q 120).length ≤ 120 := c2; omega)]
    exact decide_eq_true (by have : (cut p 60).length ≤ 60 := c1; omega)
  unfold wa0
  rw [gdB hP, gdB hP, gdT (by omega), gdT (by omega), yG]
  exact wa1_n c3
theorem lawAAll_c : PC 9 (ofO [ReqT] [.bool] olawAAll) := (pureO (envS_ok (l := [(21, trueS), (24, cutS), (37, ofS), (38, ofS), (39, amayS)]) ⟨begun_c, cut_c, aOfG_c, rOfG_c, amay_c, trivial⟩) gl_ne Tryz.func9 (by kernel_rfl) (by decide))
theorem lawAAll_run {w : World} (hgl : GlW glC w) {args : Array Value} {x : DenL [ReqT]} (hx : RdAll (fzW w) [ReqT] x args.toList) (hb : BdL [ReqT] x) : Calls Tryz.prog 9 args w fun e w' => e = .returned (.bool true) ∧ Same w w' :=
  law_calls lawAAll_c (fun x hb => by
    obtain ⟨⟨m, p, q, hs, b, ⟨⟩⟩, ⟨⟩⟩ := x
    have := lawAAll_n (m := m) (p := p) (q := q) (hs := hs) (b := b) fun y hy => ⟨(hb.1.2.2.2.1.2 y hy).1, (hb.1.2.2.2.1.2 y hy).2.1⟩
    exact ⟨by show (olawAAll ((m, p, q, hs, b, ()), ())).isSome = true; rw [this]; rfl, by show (olawAAll ((m, p, q, hs, b, ()), ())).getD _ = _; rw [this]; rfl⟩) hgl hx hb
end Go.Proofs.YtpdbgpkedehpgaaGreatDoor
