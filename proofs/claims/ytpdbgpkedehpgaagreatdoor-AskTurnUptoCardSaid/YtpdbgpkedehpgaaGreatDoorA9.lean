/-
  Part of the proof: LRq LRr. No condition.
-/
import Derived.Test.YtpdbgpkedehpgaaGreatDoorA5
import Derived.Test.YtpdbgpkedehpgaaGreatDoorA8
import Derived.Test.YtpdbgpkedehpgaaGreatDoorA7
namespace Nice
open Go Go.Eng
/-! ### a list's query -/
def wq3 (k : Int) (l : List (List UInt8)) : Option (DenL [.str]) := bif k == (5 : Int) then gd [joinP (l ++ [verW1]) [38]] (some (joinN (l ++ [verW1]) [38], ())) else gd [joinP l [38]] (some (joinN l [38], ()))
def wq2 (m k : Int) (l : List (List UInt8)) : Option (DenL [.str]) := bif m != (20 : Int) then gd [decide (4 + (fmtN m).length ≤ 1099511627776), i64P m] (wq3 k (l ++ [eMax ++ fmtN m])) else wq3 k l
def wq1 (f : List UInt8) (m k : Int) (l : List (List UInt8)) : Option (DenL [.str]) := bif !f == [] then gd [decide (6 + f.length ≤ 1099511627776)] (wq2 m k (l ++ [eAft ++ f])) else wq2 m k l
def wq0 (p f : List UInt8) (m k : Int) : Option (DenL [.str]) := bif !p == [] then gd [decide (7 + p.length ≤ 1099511627776)] (wq1 f m k ([] ++ [ePre ++ p])) else wq1 f m k []
/-! ### a request -/
def zOut : Option (DenL [ReqT, .bool]) := some (zReq, false, ())
def eqB (x a : AskD) : Bool := x.1 == a.1 && (x.2.1 == a.2.1 && (x.2.2.1 == a.2.2.1 && (x.2.2.2.1 == a.2.2.2.1 && (x.2.2.2.2.1 == a.2.2.2.2.1 && (x.2.2.2.2.2.1 == a.2.2.2.2.2.1 && (x.2.2.2.2.2.2.1 == a.2.2.2.2.2.2.1 && (x.2.2.2.2.2.2.2.1 == a.2.2.2.2.2.2.2.1 && (x.2.2.2.2.2.2.2.2.1 == a.2.2.2.2.2.2.2.2.1 && (x.2.2.2.2.2.2.2.2.2.1 == a.2.2.2.2.2.2.2.2.2.1 && true)))))))))
def wr5 (a : AskD) (g : List Bool) (r : ReqW) : Option (DenL [ReqT, .bool]) :=
  gd (ofP r :: g) (bif (ofN r).2 != (0 : Int) then zOut else bif !eqB (ofN r).1 a then zOut else bif decide ((a.2.2.2.1.length : Int) > (300 : Int)) then zOut else some (r, true, ()))
def wr4 (a : AskD) (b : List UInt8) (mk : HeadL → ReqW) (hs : HeadL) : Option (DenL [ReqT, .bool]) :=
  bif !b == [] then wr5 a [i64P (b.length : Int)] (mk (hs ++ [(clW, fmtN (b.length : Int), ())])) else wr5 a [] (mk hs)
def wr3 (a : AskD) (c : Int) (t b : List UInt8) (mk : HeadL → ReqW) : Option (DenL [ReqT, .bool]) :=
  bif c == (1 : Int) then wr4 a b mk [(inmW, [42], ())]
  else bif c == (2 : Int) then gd [decide (([34] ++ t).length + 1 ≤ 1099511627776), decide (1 + t.length ≤ 1099511627776)] (wr4 a b mk [(imW, [34] ++ t ++ [34], ())])
  else wr4 a b mk []
def wr2 (a : AskD) (k : Int) (key : List UInt8) (c : Int) (t b : List UInt8) (me q : List UInt8) : Option (DenL [ReqT, .bool]) :=
  bif k == (2 : Int) then wr3 a c t b fun hs => (putW, ooW ++ key, q, hs, b, ())
  else bif k == (3 : Int) then wr3 a c t b fun hs => (delW, ooW ++ key, q, hs, b, ())
  else bif k == (4 : Int) then gd [qryP a] (wr3 a c t b fun hs => (me, oW, queryN a, hs, b, ()))
  else bif k == (5 : Int) then gd [qryP a] (wr3 a c t b fun hs => (me, oW, queryN a, hs, b, ()))
  else wr3 a c t b fun hs => (me, ooW ++ key, q, hs, b, ())
def wr1 (a : AskD) (k : Int) (key : List UInt8) (v : Int) (c : Int) (t b : List UInt8) (me : List UInt8) : Option (DenL [ReqT, .bool]) :=
  bif v != (0 : Int) then gd [decide (8 + (fmtN v).length ≤ 1099511627776), i64P v && (10 : Int) == (10 : Int)] (wr2 a k key c t b me (vPre ++ fmtN v)) else wr2 a k key c t b me []
def wr0 (k : Int) (key : List UInt8) (v : Int) (b : List UInt8) (c : Int) (t p f : List UInt8) (m : Int) (br : Bool) : Option (DenL [ReqT, .bool]) :=
  gd [decide (3 + key.length ≤ 1099511627776)] (bif br then wr1 (k, key, v, b, c, t, p, f, m, br, ()) k key v c t b headW else wr1 (k, key, v, b, c, t, p, f, m, br, ()) k key v c t b getW)
/-! ### what may be asked, as the document says -/
def nO : Option (DenL [.bool]) := some (false, ())
def yO : Option (DenL [.bool]) := some (true, ())
end Nice
namespace Go.Proofs.YtpdbgpkedehpgaaGreatDoor
open Go Go.Eng Nice
set_option maxRecDepth 1000000
noncomputable def oquery (x : DenL [AskT]) : Option (DenL [.str]) := fO Tryz.prog (envS [(61, itoaS), (87, joinS)]) (shOf []) Tryz.f60 [AskT] [.str] x
theorem equery (k : Int) (key : List UInt8) (v : Int) (b : List UInt8) (c : Int) (t p f : List UInt8) (m : Int) (br : Bool) : oquery ((k, key, v, b, c, t, p, f, m, br, ()), ()) = wq0 p f m k := by kernel_rfl
noncomputable def orequest (x : DenL [AskT]) : Option (DenL [ReqT, .bool]) := fO Tryz.prog (envS [(37, ofS), (59, fmtS), (60, queryS), (61, itoaS)]) (shOf []) Tryz.f41 [AskT] [ReqT, .bool] x
theorem erequest (k : Int) (key : List UInt8) (v : Int) (b : List UInt8) (c : Int) (t p f : List UInt8) (m : Int) (br : Bool) : orequest ((k, key, v, b, c, t, p, f, m, br, ()), ()) = wr0 k key v b c t p f m br := by kernel_rfl
noncomputable def oamay (x : DenL [AskT]) : Option (DenL [.bool]) := fO Tryz.prog (envS [(41, requestS)]) (shOf []) Tryz.f39 [AskT] [.bool] x
theorem eamay (k : Int) (key : List UInt8) (v : Int) (b : List UInt8) (c : Int) (t p f : List UInt8) (m : Int) (br : Bool) : oamay ((k, key, v, b, c, t, p, f, m, br, ()), ()) =
  (bif (requestN (k, key, v, b, c, t, p, f, m, br, ())).2 then gd [askP (k, key, v, b, c, t, p, f, m, br, ())] (some (true, ())) else gd [askP (k, key, v, b, c, t, p, f, m, br, ())] (some (false, ()))) := by kernel_rfl
end Go.Proofs.YtpdbgpkedehpgaaGreatDoor
namespace Nice
open Go Go.Eng
theorem yT {α : Type} (a b : α) : (bif true then a else b) = a := Eq.trans (cond_true a b) rfl
theorem yF {α : Type} (a b : α) : (bif false then a else b) = b := Eq.trans (cond_false a b) rfl
theorem yG {α : Type} (r : Option α) : gd [] r = r := Eq.trans gd_nil rfl
/-! ### a list's query -/
theorem itoa_le {n : Int} (h : i64P n = true) : (Lib.itoa n).length ≤ 21 := by
  unfold i64P at h
  rw [Bool.and_eq_true, decide_eq_true_eq, decide_eq_true_eq] at h
  have key : ∀ u : Nat, u < 10 ^ 20 → (Lib.decDigits u).length ≤ 20 := by
    intro u hu
    have := itoa_len (k := 19) (u := u) (by simpa using hu)
    rw [itoa_nat] at this
    exact this
  unfold Lib.itoa
  split
  · have := key n.natAbs (by omega)
    simp only [List.length_cons]; omega
  · have := key n.toNat (by omega)
    omega
theorem sh1_le {s : List UInt8} (h : sh1 s = true) : s.length ≤ 1000 := of_decide_eq_true h
theorem joinT_len (s : List UInt8) : ∀ (l : List (List UInt8)) (n : Nat), (∀ x, x ∈ l → x.length ≤ n) → (Lib.joinTail s l).length ≤ l.length * (s.length + n)
  | [], _, _ => by simp [Lib.joinTail]
  | x :: r, n, h => by
    have := joinT_len s r n fun y hy => h y (List.mem_cons_of_mem _ hy)
    have h0 := h x (List.mem_cons_self ..)
    have e : (Lib.joinTail s (x :: r)).length = s.length + x.length + (Lib.joinTail s r).length := by
      show ((s ++ x) ++ Lib.joinTail s r).length = _
      rw [List.length_append, List.length_append]
    rw [e, List.length_cons, Nat.add_mul]
    omega
theorem join_len (s : List UInt8) (l : List (List UInt8)) (n : Nat) (h : ∀ x, x ∈ l → x.length ≤ n) : (Lib.join l s).length ≤ l.length * (s.length + n) := by
  cases l with
  | nil => simp [Lib.join]
  | cons x r =>
    have h0 := h x (List.mem_cons_self ..)
    have := joinT_len s r n fun y hy => h y (List.mem_cons_of_mem _ hy)
    rw [Lib.join_cons, List.length_append, List.length_cons, Nat.add_mul]
    omega
theorem i64P_iff0 {n : Int} : i64P n = true ↔ -9223372036854775808 ≤ n ∧ n ≤ 9223372036854775807 := by
  unfold i64P; rw [Bool.and_eq_true, decide_eq_true_eq, decide_eq_true_eq]
theorem qParts_len {p f : List UInt8} {m k : Int} (hp : p.length ≤ 1000) (hf : f.length ≤ 1000) (hm : i64P m = true) : (qParts p f m k).length ≤ 4 ∧ ∀ x, x ∈ qParts p f m k → x.length ≤ 1010 := by
  have hi := itoa_le hm
  refine ⟨?_, fun x hx => ?_⟩
  · unfold qParts qPre qAft qMax qKind
    cases p == [] <;> cases f == [] <;> cases m == 20 <;> cases k == 5 <;> simp
  · rcases qParts_mem hx with rfl | rfl | rfl | rfl
    · rw [List.length_append]; show 7 + _ ≤ _; omega
    · rw [List.length_append]; show 6 + _ ≤ _; omega
    · rw [List.length_append]; show 4 + _ ≤ _; omega
    · show 10 ≤ 1010; omega
theorem joinP_q {p f : List UInt8} {m k : Int} (hp : p.length ≤ 1000) (hf : f.length ≤ 1000) (hm : i64P m = true) : joinP (qParts p f m k) [38] = true ∧ (Lib.join (qParts p f m k) [38]).length ≤ 4044 := by
  obtain ⟨h1, h2⟩ := qParts_len (k := k) hp hf hm
  have h3 := join_len [38] _ 1010 h2
  have h4 : (qParts p f m k).length * ([38].length + 1010) ≤ 4 * 1011 := Nat.mul_le_mul_right 1011 h1
  refine ⟨?_, by omega⟩
  unfold joinP
  rw [Bool.and_eq_true, decide_eq_true_eq, decide_eq_true_eq]
  omega
theorem query_w {p f : List UInt8} {m k : Int} (hp : p.length ≤ 1000) (hf : f.length ≤ 1000) (hm : i64P m = true) : wq0 p f m k = some (Lib.join (qParts p f m k) [38], ()) := by
  obtain ⟨hj, -⟩ := joinP_q (k := k) hp hf hm
  have hi := itoa_le hm
  have w3 : ∀ l : List (List UInt8), joinP (l ++ qKind k) [38] = true → wq3 k l = some (Lib.join (l ++ qKind k) [38], ()) := by
    intro l h
    unfold wq3
    unfold qKind at h ⊢
    cases hk : k == 5
    · rw [hk, yF, List.append_nil] at h
      rw [yF, gdB h, yG, yF, List.append_nil]; rfl
    · rw [hk, yT] at h
      rw [yT, gdB h, yG, yT]; rfl
  have w2 : ∀ l : List (List UInt8), joinP (l ++ (qMax m ++ qKind k)) [38] = true → wq2 m k l = some (Lib.join (l ++ (qMax m ++ qKind k)) [38], ()) := by
    intro l h
    unfold wq2 bne
    unfold qMax at h ⊢
    cases hk : m == 20
    · rw [hk, yF, ← List.append_assoc] at h
      have := w3 _ h
      rw [Bool.not_false, yT, yF, gdT (show 4 + (fmtN m).length ≤ 1099511627776 by show 4 + (Lib.itoa m).length ≤ _; omega), gdB hm, yG, ← List.append_assoc]; exact this
    · rw [hk, yT, List.nil_append] at h
      rw [Bool.not_true, yF, yT, List.nil_append]; exact w3 _ h
  have w1 : ∀ l : List (List UInt8), joinP (l ++ (qAft f ++ (qMax m ++ qKind k))) [38] = true → wq1 f m k l = some (Lib.join (l ++ (qAft f ++ (qMax m ++ qKind k))) [38], ()) := by
    intro l h
    unfold wq1
    unfold qAft at h ⊢
    cases hk : f == []
    · rw [hk, yF, ← List.append_assoc] at h
      rw [Bool.not_false, yT, yF, gdT (by omega), yG, ← List.append_assoc]; exact w2 _ h
    · rw [hk, yT, List.nil_append] at h
      rw [Bool.not_true, yF, yT, List.nil_append]; exact w2 _ h
  unfold wq0
  unfold qParts at hj ⊢
  unfold qPre at hj ⊢
  cases hk : p == []
  · rw [hk, yF] at hj
    rw [Bool.not_false, yT, yF, gdT (by omega), yG]; exact w1 _ hj
  · rw [hk, yT, List.nil_append] at hj
    rw [Bool.not_true, yF, yT, List.nil_append]; exact w1 [] hj
/-! ### a request -/
def outW (a : AskD) (r : ReqW) : Option (DenL [ReqT, .bool]) := some ((outR a r).1, (outR a r).2, ())
theorem eqB_eq (x a : AskD) : eqB x a = eqA x a := by
  unfold eqB eqA; rw [Bool.and_true]
theorem wr5_n {a : AskD} {g : List Bool} {r : ReqW} (h : ofP r = true) (hg : g = [] ∨ ∃ b, g = [b] ∧ b = true) : wr5 a g r = outW a r := by
  have e : wr5 a g r = (bif (ofN r).2 != (0 : Int) then zOut else bif !eqB (ofN r).1 a then zOut else bif decide ((a.2.2.2.1.length : Int) > (300 : Int)) then zOut else some (r, true, ())) := by
    unfold wr5
    rcases hg with rfl | ⟨b, rfl, rfl⟩
    · rw [gdB h, yG]
    · rw [gdB h, gdB rfl, yG]
  rw [e, eqB_eq]
  unfold outW outR zOut bne
  cases (ofN r).2 == 0
  · rfl
  · cases eqA (ofN r).1 a
    · rfl
    · by_cases h3 : (a.2.2.2.1.length : Int) ≤ 300
      · rw [decide_eq_true h3, decide_eq_false (by omega)]; rfl
      · rw [decide_eq_false h3, decide_eq_true (by omega)]; rfl
theorem i64_len {b : List UInt8} (h : b.length ≤ 1000) : i64P (b.length : Int) = true := by
  unfold i64P; rw [Bool.and_eq_true, decide_eq_true_eq, decide_eq_true_eq]; omega
theorem wr4_n {a : AskD} {b : List UInt8} {mk : HeadL → ReqW} {hs : HeadL} (hb : b.length ≤ 1000) (h : ofP (mk (hs ++ hdB b)) = true) : wr4 a b mk hs = outW a (mk (hs ++ hdB b)) := by
  unfold wr4
  unfold hdB at h ⊢
  cases hk : b == []
  · rw [hk, yF] at h
    rw [Bool.not_false, yT, yF]
    exact wr5_n h (.inr ⟨_, rfl, i64_len hb⟩)
  · rw [hk, yT, List.append_nil] at h
    rw [Bool.not_true, yF, yT, List.append_nil]
    exact wr5_n h (.inl rfl)
theorem wr3_n {a : AskD} {c : Int} {t b : List UInt8} {mk : HeadL → ReqW} (ht : t.length ≤ 1000) (hb : b.length ≤ 1000) (h : ofP (mk (hdC c t ++ hdB b)) = true) : wr3 a c t b mk = outW a (mk (hdC c t ++ hdB b)) := by
  unfold wr3
  unfold hdC at h ⊢
  cases h1 : c == 1
  · rw [h1, yF] at h
    rw [yF, yF]
    cases h2 : c == 2
    · rw [h2, yF] at h
      rw [yF, yF]; exact wr4_n hb h
    · rw [h2, yT] at h
      rw [yT, yT, gdT (by rw [List.length_append]; show 1 + _ + 1 ≤ _; omega), gdT (by omega), yG]; exact wr4_n hb h
  · rw [h1, yT] at h
    rw [yT, yT]; exact wr4_n hb h
/-- heads of such a request are within bounds -/
theorem condsP_req {c : Int} {t b : List UInt8} (ht : t.length ≤ 1000) : condsP (hdC c t ++ hdB b) = true := by
  have hv : (valueN (hdC c t ++ hdB b) imW).1.length ≤ 1002 := by
    unfold hdC
    cases c == 1
    · cases c == 2
      · rw [yF, yF, List.nil_append, val_B2]; exact Nat.zero_le _
      · rw [yF, yT, List.cons_append, List.nil_append]
        have e : valueN ((imW, [34] ++ t ++ [34], ()) :: hdB b) imW = ([34] ++ t ++ [34], true) := by
          show (bif lower imW == lower imW then _ else _) = _
          rw [low4, yT]
        rw [e]
        show ([34] ++ t ++ [34]).length ≤ 1002
        simp only [List.length_append, List.length_cons, List.length_nil]; omega
    · rw [yT, List.cons_append, List.nil_append]
      have e : valueN ((inmW, [42], ()) :: hdB b) imW = valueN (hdB b) imW := by
        show (bif lower inmW == lower imW then _ else _) = _
        rw [low2, yF]
      rw [e, val_B2]; exact Nat.zero_le _
  have hm : ∀ h, h ∈ hdC c t ++ hdB b → lowerP h.1 = true := by
    intro h hh
    rcases List.mem_append.1 hh with hh | hh
    · unfold hdC at hh
      revert hh
      cases c == 1
      · cases c == 2
        · intro hh; cases hh
        · intro hh; rw [List.mem_singleton.1 hh]; rfl
      · intro hh; rw [List.mem_singleton.1 hh]; rfl
    · unfold hdB at hh
      revert hh
      cases b == []
      · intro hh; rw [List.mem_singleton.1 hh]; rfl
      · intro hh; cases hh
  have hl : (hdC c t ++ hdB b).length ≤ 2 := by
    unfold hdC hdB
    cases c == 1 <;> cases c == 2 <;> cases b == [] <;> first | exact Nat.zero_le _ | exact Nat.le_succ 1 | exact Nat.le_refl 2
  have hp : ∀ n, lowerP n = true → valueP (hdC c t ++ hdB b) n = true := by
    intro n hn
    unfold valueP
    rw [hn, decide_eq_true (by omega), List.all_eq_true.2 hm]; rfl
  unfold condsP
  rw [hp inmW rfl, hp imW rfl]
  exact decide_eq_true (by omega)
theorem ofP_req {m p q : List UInt8} {c : Int} {t b b2 : List UInt8} (ht : t.length ≤ 1000) (hp : p.length ≤ 5000) (hq : q.length ≤ 5000) : ofP (m, p, q, hdC c t ++ hdB b, b2, ()) = true := by
  unfold ofP
  dsimp only
  rw [condsP_req ht, show shortS q = true from decide_eq_true (by omega)]
  exact decide_eq_true (by omega)
theorem askP_all {k : Int} {key : List UInt8} {v : Int} {b : List UInt8} {c : Int} {t p f : List UInt8} {m : Int} {br : Bool} (h : askP (k, key, v, b, c, t, p, f, m, br, ()) = true) :
    key.length ≤ 1000 ∧ b.length ≤ 1000 ∧ t.length ≤ 1000 ∧ i64P v = true ∧ p.length ≤ 1000 ∧ f.length ≤ 1000 ∧ i64P m = true ∧ qryP (k, key, v, b, c, t, p, f, m, br, ()) = true := by
  unfold askP at h
  simp only [Bool.and_eq_true] at h
  obtain ⟨⟨h1, h2, h3, h4⟩, h5⟩ := h
  have h6 := h5
  unfold qryP at h5
  simp only [Bool.and_eq_true] at h5
  exact ⟨sh1_le h1, sh1_le h2, sh1_le h3, h4, sh1_le h5.1, sh1_le h5.2.1, h5.2.2, h6⟩
theorem request_w {k : Int} {key : List UInt8} {v : Int} {b : List UInt8} {c : Int} {t p f : List UInt8} {m : Int} {br : Bool} (h : askP (k, key, v, b, c, t, p, f, m, br, ()) = true) :
    wr0 k key v b c t p f m br = outW (k, key, v, b, c, t, p, f, m, br, ()) (reqR (k, key, v, b, c, t, p, f, m, br, ())) := by
  obtain ⟨hk, hb, ht, hv, hp, hf, hm, hq⟩ := askP_all h
  have hi := itoa_le hv
  have hqn : (queryN (k, key, v, b, c, t, p, f, m, br, ())).length ≤ 4044 := (joinP_q hp hf hm).2
  have w2 : ∀ (me q : List UInt8), q.length ≤ 100 → wr2 (k, key, v, b, c, t, p, f, m, br, ()) k key c t b me q = outW (k, key, v, b, c, t, p, f, m, br, ()) (bif k == 2 then putW else bif k == 3 then delW else me, pathR k key, bif isL k then queryN (k, key, v, b, c, t, p, f, m, br, ()) else q, hdC c t ++ hdB b, b, ()) := by
    intro me q hql
    have hpk : (ooW ++ key).length ≤ 5000 := by rw [List.length_append]; show 3 + _ ≤ _; omega
    unfold wr2 pathR isL
    cases h2 : k == 2
    · cases h3 : k == 3
      · cases h4 : k == 4
        · cases h5 : k == 5
          · simp only [yF, Bool.or_self]
            exact wr3_n ht hb (ofP_req ht hpk (by omega))
          · simp only [yF, yT, Bool.or_true, Bool.or_self]
            rw [gdB hq, yG]
            exact wr3_n ht hb (ofP_req ht (by decide) (by omega))
        · simp only [yF, yT, Bool.true_or]
          rw [gdB hq, yG]
          exact wr3_n ht hb (ofP_req ht (by decide) (by omega))
      · have : k = 3 := beq_iff_eq.1 h3
        subst this
        exact wr3_n ht hb (ofP_req ht hpk (by omega))
    · have : k = 2 := beq_iff_eq.1 h2
      subst this
      exact wr3_n ht hb (ofP_req ht hpk (by omega))
  have w1 : ∀ me : List UInt8, wr1 (k, key, v, b, c, t, p, f, m, br, ()) k key v c t b me = outW (k, key, v, b, c, t, p, f, m, br, ()) (bif k == 2 then putW else bif k == 3 then delW else me, pathR k key, qryR (k, key, v, b, c, t, p, f, m, br, ()), hdC c t ++ hdB b, b, ()) := by
    intro me
    unfold wr1 qryR bne
    dsimp only
    cases hz : v == 0
    · rw [Bool.not_false, yT, yF, gdT (show 8 + (fmtN v).length ≤ 1099511627776 by show 8 + (Lib.itoa v).length ≤ _; omega), gdB (by rw [hv]; rfl), yG]
      exact w2 me _ (by rw [List.length_append]; show 8 + (Lib.itoa v).length ≤ _; omega)
    · rw [Bool.not_true, yF, yT]
      exact w2 me [] (Nat.zero_le _)
  unfold wr0
  rw [gdT (by omega), yG, w1, w1]
  unfold reqR methR
  dsimp only
  cases br <;> rfl
/-! ### what may be asked, as the document says -/
end Nice
namespace Go.Proofs.YtpdbgpkedehpgaaGreatDoor
open Go Go.Eng Nice
set_option maxRecDepth 1000000
theorem query_c : PC 60 queryS := (pureO (envS_ok (l := [(61, itoaS), (87, joinS)]) ⟨itoa_c, join_c, trivial⟩) gl_ne Tryz.func60 (by kernel_rfl) (by decide)).nice fun ⟨⟨k, key, v, b, c, t, p, f, m, br, ()⟩, ()⟩ h => by
  have h5 : qryP (k, key, v, b, c, t, p, f, m, br, ()) = true := h
  unfold qryP at h5
  simp only [Bool.and_eq_true] at h5
  show oquery _ = _
  rw [equery, query_w (sh1_le h5.1) (sh1_le h5.2.1) h5.2.2]; rfl
theorem request_c : PC 41 requestS := (pureO (envS_ok (l := [(37, ofS), (59, fmtS), (60, queryS), (61, itoaS)]) ⟨aOfG_c, fmt_c, query_c, itoa_c, trivial⟩) gl_ne Tryz.func41 (by kernel_rfl) (by decide)).nice fun ⟨⟨k, key, v, b, c, t, p, f, m, br, ()⟩, ()⟩ h => by
  show orequest _ = _
  rw [erequest, request_w h]; rfl
theorem amay_c : PC 39 amayS := (pureO (envS_ok (l := [(41, requestS)]) ⟨request_c, trivial⟩) gl_ne Tryz.func39 (by kernel_rfl) (by decide)).nice fun ⟨⟨k, key, v, b, c, t, p, f, m, br, ()⟩, ()⟩ h => by
  have h : askP (k, key, v, b, c, t, p, f, m, br, ()) = true := h
  show oamay _ = _
  rw [eamay, gdB h, gdB h, yG, yG]
  show _ = some ((requestN _).2, ())
  cases (requestN (k, key, v, b, c, t, p, f, m, br, ())).2 <;> rfl
end Go.Proofs.YtpdbgpkedehpgaaGreatDoor
