/-
  The small functions of scan: the plain words, and the contracts. No condition.
-/
import Derived.Test.YtpdbgpkedehpgaaGreatDoorQR
import Derived.Test.YtpdbgpkedehpgaaGreatDoorCScan
namespace Go.Proofs.YtpdbgpkedehpgaaGreatDoor
open Go Go.Eng Nice
set_option maxRecDepth 1000000
theorem u8_all {p : UInt8 → Bool} (h : (List.range 256).all (fun n => p (UInt8.ofNat n)) = true) (c : UInt8) : p c = true := by
  have := List.all_eq_true.1 h c.toNat (List.mem_range.2 c.toNat_lt)
  simpa using this
def is1 (r : Option (DenL [.bool])) (b : Bool) : Bool := match r with
  | some (x, _) => x == b
  | none => false
theorem is1_eq {r : Option (DenL [.bool])} {b : Bool} (h : is1 r b = true) : r = some (b, ()) := by
  unfold is1 at h
  split at h
  · rename_i x u
    rw [beq_iff_eq] at h
    subst h; rfl
  · cases h
theorem vis_n (c : UInt8) : ovis (c, ()) = some (isVis c, ()) := is1_eq (u8_all (p := fun c => is1 (ovis (c, ())) (isVis c)) (by kernel_rfl) c)
theorem tok_n (c : UInt8) : otok (c, ()) = some (isTok c, ()) := is1_eq (u8_all (p := fun c => is1 (otok (c, ())) (isTok c)) (by kernel_rfl) c)
theorem let_n (c : UInt8) : olet (c, ()) = some (isLet c, ()) := is1_eq (u8_all (p := fun c => is1 (olet (c, ())) (isLet c)) (by kernel_rfl) c)
theorem vis_c : PC 73 visS := (pureO (envS_ok (l := []) trivial) gl_ne Tryz.func73 (by kernel_rfl) (by decide)).nice fun ⟨c, ()⟩ _ => vis_n c
theorem tok_c : PC 107 tokS := (pureO (envS_ok (l := [(65, capS)]) ⟨cap_c, trivial⟩) gl_ne Tryz.func107 (by kernel_rfl) (by decide)).nice fun ⟨c, ()⟩ _ => tok_n c
theorem let_c : PC 106 letS := (pureO (envS_ok (l := []) trivial) gl_ne Tryz.func106 (by kernel_rfl) (by decide)).nice fun ⟨c, ()⟩ _ => let_n c
/-! ### a set of bytes -/
noncomputable def oasc (x : Unit) (y : UInt8 × Unit) : Option (Unit × Bool × Unit) := fOO Tryz.prog (envO [] []) (shOf []) Tryz.f223 sigAs x y
def is2 (r : Option (Unit × Bool × Unit)) (b : Bool) : Bool := match r with
  | some (_, x, _) => x == b
  | none => false
theorem is2_eq {r : Option (Unit × Bool × Unit)} {b : Bool} (h : is2 r b = true) : r = some ((), b, ()) := by
  unfold is2 at h
  split at h
  · rename_i x u
    rw [beq_iff_eq] at h
    subst h; rfl
  · cases h
theorem asc_n (c : UInt8) : oasc () (c, ()) = some ((), isSp c, ()) := is2_eq (u8_all (p := fun c => is2 (oasc () (c, ())) (isSp c)) (by kernel_rfl) c)
theorem asc_c : OC 223 isSpS := (objO (S := sigAs) (sh := shOf []) (envO_ok (l := []) (o := []) trivial trivial) gl_ne Tryz.func223 (by kernel_rfl) (by decide)).nice fun x ⟨c, ()⟩ _ => asc_n c
/-! ### blanks cut off -/
theorem getD0 (c : UInt8) (r : List UInt8) : (c :: r).getD 0 0 = c := by simp
theorem trL_l (t4 : List UInt8) : ∀ (s : List UInt8) (n : Nat), s.length ≤ 140737488355328 → s.length < n → htrL_0 n s t4 = some ((), trimL s, ())
  | [], n, hl, hn => by
    obtain ⟨m, rfl⟩ : ∃ m, n = m + 1 := ⟨n - 1, by omega⟩
    rw [etrL_0, cdF (by simp)]; rfl
  | c :: r, n, hl, hn => by
    obtain ⟨m, rfl⟩ : ∃ m, n = m + 1 := ⟨n - 1, by omega⟩
    simp only [List.length_cons] at hl hn
    have hc := c.toNat_lt
    rw [etrL_0]
    simp only [List.length_cons, getD0, List.drop_succ_cons, List.drop_zero, UInt8.ofNat_toNat, Int.toNat_natCast]
    rw [cdT (by omega), trL_l t4 r m (by omega) (by omega)]
    cases hs : isSp c
    · rw [cond_false, gdT (inK_u8.2 ⟨by omega, by omega⟩), gdT (by omega), gd_nil]
      simp only [trimL, List.dropWhile_cons, hs, Bool.false_eq_true, if_false]
    · rw [cond_true, gdT (by omega), gdT (inK_u8.2 ⟨by omega, by omega⟩), gdT (by omega), gd_nil]
      simp only [trimL, List.dropWhile_cons, hs, if_true]
theorem trimR_snoc (r : List UInt8) (c : UInt8) : trimR (r ++ [c]) = if isSp c then trimR r else r ++ [c] := by
  simp only [trimR, List.reverse_append, List.reverse_cons, List.reverse_nil, List.nil_append, List.singleton_append, List.dropWhile_cons]
  cases isSp c <;> simp
theorem trR_l (t4 : List UInt8) : ∀ (k : Nat) (s : List UInt8) (n : Nat), s.length = k → k ≤ 140737488355328 → k < n → htrR_0 n s t4 = some ((), trimR s, ())
  | 0, s, n, hk, hl, hn => by
    obtain ⟨m, rfl⟩ : ∃ m, n = m + 1 := ⟨n - 1, by omega⟩
    obtain rfl := List.length_eq_zero_iff.1 hk
    rw [etrR_0, cdF (by simp)]; rfl
  | k + 1, s, n, hk, hl, hn => by
    obtain ⟨m, rfl⟩ : ∃ m, n = m + 1 := ⟨n - 1, by omega⟩
    obtain ⟨r, c, rfl⟩ : ∃ r c, s = r ++ [c] := by
      rcases List.eq_nil_or_concat s with h | ⟨r, c, h⟩
      · rw [h] at hk; simp at hk
      · exact ⟨r, c, by rw [h, List.concat_eq_append]⟩
    simp only [List.length_append, List.length_singleton] at hk
    have hr : r.length = k := by omega
    have hc := c.toNat_lt
    have e1 : (((r ++ [c]).length : Int) - 1).toNat = r.length := by simp
    have e2 : (r ++ [c]).getD r.length 0 = c := getD_mid r [] c 0
    have e3 : (r ++ [c]).take r.length = r := by simp
    rw [etrR_0, e1, e2, e3]
    simp only [List.length_append, List.length_singleton, Int.toNat_natCast, UInt8.ofNat_toNat, Int.natCast_add, Int.natCast_one]
    rw [cdT (by omega), trR_l t4 k r m hr (by omega) (by omega)]
    cases hs : isSp c
    · rw [cond_false, gdT (inK_u8.2 ⟨by omega, by omega⟩), gdT (by omega), gdT (by omega), gdT (inK_i64.2 ⟨by omega, by omega⟩), gd_nil]
      rw [trimR_snoc, hs]; rfl
    · rw [cond_true, gdT (by omega), gdT (by omega), gdT (inK_i64.2 ⟨by omega, by omega⟩), gdT (inK_u8.2 ⟨by omega, by omega⟩), gdT (by omega), gdT (by omega), gdT (inK_i64.2 ⟨by omega, by omega⟩), gd_nil]
      rw [trimR_snoc, hs]; rfl
theorem trL_c : OC 177 trimLS := (objO (S := sigTr) (sh := shOf shtrL) (envO_ok (l := []) (o := [(223, isSpS)]) trivial ⟨asc_c, trivial⟩) gl_ne Tryz.func177 (by kernel_rfl) (by decide)).nice fun x ⟨s, ()⟩ h => by
  have h : s.length ≤ 140737488355328 := of_decide_eq_true h
  show otrL () (s, ()) = _
  rw [otrL_g, etrL_g, trL_l [] s heads0 h (by unfold heads0; omega)]
theorem trR_c : OC 178 trimRS := (objO (S := sigTr) (sh := shOf shtrR) (envO_ok (l := []) (o := [(223, isSpS)]) trivial ⟨asc_c, trivial⟩) gl_ne Tryz.func178 (by kernel_rfl) (by decide)).nice fun x ⟨s, ()⟩ h => by
  have h : s.length ≤ 140737488355328 := of_decide_eq_true h
  show otrR () (s, ()) = _
  rw [otrR_g, etrR_g, trR_l [] s.length s heads0 rfl h (by unfold heads0; omega)]
theorem trimR_len (s : List UInt8) : (trimR s).length ≤ s.length := by
  unfold trimR
  rw [List.length_reverse]
  have := (List.dropWhile_sublist isSp (l := s.reverse)).length_le
  rwa [List.length_reverse] at this
theorem trim_c : PC 108 trimS := (pureO (envO_ok (l := []) (o := [(177, trimLS), (178, trimRS)]) trivial ⟨trL_c, trR_c, trivial⟩) gl_ne Tryz.func108 (by kernel_rfl) (by decide)).nice (g := otrim) fun ⟨s, c, ()⟩ h => by
  simp only [trimS, Bool.and_eq_true, beq_iff_eq] at h
  obtain ⟨rfl, h⟩ := h
  have h : s.length ≤ 140737488355328 := of_decide_eq_true h
  have hr := trimR_len s
  rw [otrim_g, etrim_g]
  cases hs : s == []
  · rw [cond_false, gdT (by omega), gdT h, gd_nil]
  · have : s = [] := by simpa using hs
    subst this; rfl
/-! ### is a line too long? -/
theorem long_n (x : ScanD) (c : UInt8) : olong x (c, ()) = some (x, longN x c, ()) := by
  obtain ⟨st, su, li, at', tx, ⟨m, p, q, hs, b, ⟨⟩⟩, le, ou, ⟨⟩⟩ := x
  rw [olong_g, elong_g]
  simp only [longN]
  by_cases h1 : c.toNat = 13
  · rw [if_pos (.inl h1), show ((↑c.toNat : Int) == 13) = true by rw [h1]; rfl]; rfl
  rw [show ((↑c.toNat : Int) == 13) = false from beq_eq_false_iff_ne.2 (by omega), cond_false]
  by_cases h2 : st ≥ 7
  · rw [if_pos (.inr (.inl h2)), cdT h2]
  rw [cdF h2]
  by_cases h3 : st = 4
  · rw [if_pos (.inr (.inr h3)), show (st == 4) = true from beq_iff_eq.2 h3]; rfl
  rw [show (st == 4) = false from beq_eq_false_iff_ne.2 h3, cond_false, if_neg (by omega)]
  by_cases h4 : st < 5
  · rw [cdT h4]
    by_cases h5 : li ≥ 200
    · rw [cdT h5, if_pos ⟨h4, h5⟩]
    · rw [cdF h5, cdF (by omega), show (st == 5) = false from beq_eq_false_iff_ne.2 (by omega), cond_false, if_neg (by omega), if_neg (by omega), if_neg (by omega)]
  · rw [cdF h4, cdT (by omega), if_neg (by omega)]
    by_cases h6 : li ≥ 120
    · rw [cdT h6, if_pos ⟨by omega, h6⟩]
    · rw [cdF h6, if_neg (by omega)]
      by_cases h7 : st = 5
      · rw [show (st == 5) = true from beq_iff_eq.2 h7, cond_true]
        by_cases h8 : li = 0
        · rw [show (li == 0) = true from beq_iff_eq.2 h8, cond_true]
          by_cases h9 : (hs.length : Int) ≥ 10
          · rw [cdT h9, if_pos ⟨h7, h8, h9⟩]
          · rw [cdF h9, if_neg fun h => h9 h.2.2]
        · rw [show (li == 0) = false from beq_eq_false_iff_ne.2 h8, cond_false, if_neg fun h => h8 h.2.1]
      · rw [show (st == 5) = false from beq_eq_false_iff_ne.2 h7, cond_false, if_neg fun h => h7 h.1]
theorem long_c : OC 70 longS := (objO (S := sigB) (sh := shOf shlong) (envO_ok (l := []) (o := []) trivial trivial) gl_ne Tryz.func70 (by kernel_rfl) (by decide)).nice fun x ⟨c, ()⟩ _ => long_n x c
theorem idle_c : OC 36 idleS := (objO (S := sig0b) (sh := shOf shidle) (envO_ok (l := []) (o := []) trivial trivial) gl_ne Tryz.func36 (by kernel_rfl) (by decide)).nice fun x ⟨⟩ _ => by
  obtain ⟨st, su, li, at', tx, ⟨m, p, q, hs, b, ⟨⟩⟩, le, ou, ⟨⟩⟩ := x
  show oidle _ () = _
  rw [oidle_g, eidle_g]
  simp only [idleN]
  cases h1 : su != 0
  · rw [cond_false, Bool.false_or]
    cases h2 : st == 0
    · rfl
    · rw [cond_true, Bool.true_and]
      cases h3 : li == 0 <;> rfl
  · rfl
end Go.Proofs.YtpdbgpkedehpgaaGreatDoor
