/-
  An answer as bytes, as the document says: what its Put computes, and the contract. No condition.
-/
import Derived.Test.YtnblkjapeiaedaaGreatDoorSayP
import Derived.Test.YtnblkjapeiaedaaGreatDoorSayDig
namespace Nice
open Go Go.Eng
theorem digsF_dec : ∀ (f n : Nat) (acc : List UInt8), n < 10 ^ f → 0 < f → digsF f n acc = Lib.decDigits n ++ acc
  | 0, n, acc, _, h => absurd h (Nat.lt_irrefl 0)
  | f + 1, n, acc, h, _ => by
    rw [Lib.decDigits]
    unfold digsF
    by_cases e : n < 10
    · rw [if_pos (by omega), dif_pos e, show n % 10 = n by omega]; rfl
    · have h1 : n / 10 < 10 ^ f := by rw [Nat.pow_succ] at h; omega
      have h2 : 0 < f := by
        rcases Nat.eq_zero_or_pos f with h' | h'
        · subst h'; simp at h; omega
        · exact h'
      rw [if_neg (by omega), dif_neg e, digsF_dec f (n / 10) _ h1 h2, List.append_assoc]; rfl
theorem digits_fmt {n : Int} (h : i64P n = true) : digits n = fmtN n := by
  unfold i64P at h
  rw [Bool.and_eq_true, decide_eq_true_eq, decide_eq_true_eq] at h
  unfold digits digs
  show _ = Lib.itoa n
  unfold Lib.itoa
  by_cases e : n < 0
  · rw [if_pos e, if_pos e, digsF_dec 20 _ _ (by omega) (by omega), List.append_nil, show (-n).toNat = n.natAbs by omega]
  · rw [if_neg e, if_neg e, digsF_dec 20 _ _ (by omega) (by omega), List.append_nil]
def lenD (k : Int) : List UInt8 := lenW0 ++ digits k ++ [13, 10]
def statD (n : Int) : List UInt8 := lineB ++ digits n ++ [32] ++ wordsN n ++ [13, 10]
def finQ (c : Bool) (n : Int) (b t : List UInt8) : Option (DenL [.str]) :=
  bif n != 204 then gd [decide ((t ++ lenD (b.length : Int)).length + 2 ≤ 1099511627776), decide (t.length + (lenD (b.length : Int)).length ≤ 1099511627776), decide ((lenW0 ++ digits (b.length : Int)).length + 2 ≤ 1099511627776), decide (16 + (digits (b.length : Int)).length ≤ 1099511627776), i64P (b.length : Int)]
    (bif c then some (t ++ lenD (b.length : Int) ++ [13, 10], ()) else gd [decide ((t ++ lenD (b.length : Int) ++ [13, 10]).length + b.length ≤ 1099511627776)] (some (t ++ lenD (b.length : Int) ++ [13, 10] ++ b, ())))
  else gd [decide (t.length + 2 ≤ 1099511627776)] (bif c then some (t ++ [13, 10], ()) else gd [decide ((t ++ [13, 10]).length + b.length ≤ 1099511627776)] (some (t ++ [13, 10] ++ b, ())))
noncomputable def stepQ (c : Bool) (n : Int) (b t : List UInt8) (l : List HeadD) (i : Int) (next : Option (DenL [.str])) : Option (DenL [.str]) :=
  bif decide (i < (l.length : Int)) then gd [decide (inK .i64 (i + 1)), decide (t.length + (hdT (l.getD i.toNat (HeadT).dflt)).length ≤ 1099511627776), decide (((l.getD i.toNat (HeadT).dflt).1 ++ [58, 32] ++ (l.getD i.toNat (HeadT).dflt).2.1).length + 2 ≤ 1099511627776), decide (((l.getD i.toNat (HeadT).dflt).1 ++ [58, 32]).length + (l.getD i.toNat (HeadT).dflt).2.1.length ≤ 1099511627776), decide (i.toNat < l.length), decide (0 ≤ i), decide (i < (l.length : Int)), decide ((l.getD i.toNat (HeadT).dflt).1.length + 2 ≤ 1099511627776), decide (i.toNat < l.length), decide (0 ≤ i), decide (i < (l.length : Int))] next
  else finQ c n b t
theorem finQ_n {c : Bool} {n : Int} {b t : List UInt8} (hb : b.length ≤ 20000) (ht : t.length ≤ 100000) : finQ c n b t = some (t ++ endT n b c, ()) := by
  have h0 := i64_nat hb
  have h1 := itoa_20 hb
  have h2 : lenW0.length = 16 := rfl
  have h4 : lenD (b.length : Int) = lenT (b.length : Int) := by unfold lenD lenT; rw [digits_fmt h0]
  have h3 : (lenT (b.length : Int)).length ≤ 40 := by
    unfold lenT
    simp only [List.length_append, List.length_cons, List.length_nil]; omega
  unfold finQ endT
  rw [h4, digits_fmt h0]
  cases n != 204
  · rw [xF, xF, gdT (by omega), xG]
    cases c
    · rw [xF, xF, gdT (by simp only [List.length_append, List.length_cons, List.length_nil]; omega), xG, List.append_assoc]
    · rw [xT, xT, List.append_nil]
  · rw [xT, xT, gdT (by rw [List.length_append]; omega), gdT (by omega), gdT (by rw [List.length_append]; omega), gdT (by omega), gdB h0, xG]
    cases c
    · rw [xF, xF, gdT (by simp only [List.length_append, List.length_cons, List.length_nil]; omega), xG]; simp only [List.append_assoc]
    · rw [xT, xT, List.append_nil]; simp only [List.append_assoc]
end Nice
namespace Go.Proofs.YtnblkjapeiaedaaGreatDoor
open Go Go.Eng Nice Go.RowKit
set_option maxRecDepth 1000000
abbrev shrput : List (Nat × List (Nat × Sh)) := [(5, [(1, (.one .sym)), (2, (.obj [.sym, (.dat (.pair .str (.pair .str .unit))), .sym])), (4, (.one .sym)), (5, (.one .sym)), (6, (.one .sym))])]
noncomputable def hrput (k : Nat) (c : Bool) (n : Int) (hs : List HeadD) (b l t : List UInt8) (i : Int) : Option (DenL [.str]) := rH Tryz.prog (envS [(18, amayAS), (21, wordsS), (34, digitsS)]) (shOf shrput) Tryz.f19 [.str] k 0 [(1, .bool c), (2, .pointer (some ⟨11, 0, none⟩)), (4, sy (.string (bs l))), (5, sy (.string (bs t))), (6, sy (.int .i64 i))] [.dat (.pair .str (.pair .str .unit)) hs, .row [sy (.int .i64 n), dt 10, sy (.string (bs b))] 24 false]
noncomputable def orput (x : DenL [AnsT, .bool]) : Option (DenL [.str]) := fO Tryz.prog (envS [(18, amayAS), (21, wordsS), (34, digitsS)]) (shOf shrput) Tryz.f19 [AnsT, .bool] [.str] x
theorem orput_g (x : DenL [AnsT, .bool]) : orput x = fON Tryz.prog (envS [(18, amayAS), (21, wordsS), (34, digitsS)]) (shOf shrput) Tryz.f19 [AnsT, .bool] [.str] heads0 x := rfl
theorem erput_g (N : Nat) (n : Int) (hs : List HeadD) (b : List UInt8) (c : Bool) : fON Tryz.prog (envS [(18, amayAS), (21, wordsS), (34, digitsS)]) (shOf shrput) Tryz.f19 [AnsT, .bool] [.str] N ((n, hs, b, ()), c, ()) =
  (bif amayB (n, hs, b, ()) then gd [decide ((lineB ++ digits n ++ [32] ++ wordsN n).length + 2 ≤ 1099511627776), decide ((lineB ++ digits n ++ [32]).length + (wordsN n).length ≤ 1099511627776), decide ((lineB ++ digits n).length + 1 ≤ 1099511627776), decide (9 + (digits n).length ≤ 1099511627776), i64P n, aputP (n, hs, b, ())] (hrput N c n hs b [] (statD n) 0)
   else gd [aputP (n, hs, b, ())] (some ([], ()))) := by kernel_rfl
theorem erput_0 (k : Nat) (c : Bool) (n : Int) (hs : List HeadD) (b l t : List UInt8) (i : Int) : hrput (k + 1) c n hs b l t i = stepQ c n b t hs i (hrput k c n hs b l (t ++ hdT (hs.getD i.toNat (HeadT).dflt)) (i + 1)) := by kernel_rfl
theorem rput_l (c : Bool) (n : Int) (ls : List HeadD) (b l : List UInt8) (hb : b.length ≤ 20000) (hl : ls.length ≤ 10) (hh : ∀ x, x ∈ ls → headB x = true) : ∀ (r i k : Nat) (t : List UInt8), ls.length = i + r → r < k → t.length ≤ 1000 + 200 * i → hrput k c n ls b l t (i : Int) = some (t ++ hdsT (ls.drop i) ++ endT n b c, ()) := by
  intro r
  induction r with
  | zero =>
    intro i k t hi hk ht
    obtain ⟨k, rfl⟩ : ∃ m, k = m + 1 := ⟨k - 1, by omega⟩
    rw [erput_0]
    unfold stepQ
    rw [cdF (by omega), finQ_n hb (by omega), List.drop_eq_nil_of_le (by omega)]
    show _ = some (t ++ [] ++ _, ())
    rw [List.append_nil]
  | succ r ih =>
    intro i k t hi hk ht
    obtain ⟨k, rfl⟩ : ∃ m, k = m + 1 := ⟨k - 1, by omega⟩
    have hlt : i < ls.length := by omega
    have hd : ls.drop i = ls.getD i (HeadT).dflt :: ls.drop (i + 1) := by
      rw [List.drop_eq_getElem_cons hlt, List.getD_eq_getElem?_getD, List.getElem?_eq_getElem hlt]; rfl
    have hx : headB (ls.getD i (HeadT).dflt) = true := hh _ (by
      rw [List.getD_eq_getElem?_getD, List.getElem?_eq_getElem hlt]; exact List.getElem_mem hlt)
    obtain ⟨l1, l2⟩ := headB_len hx
    have l3 : (hdT (ls.getD i (HeadT).dflt)).length ≤ 200 := by
      unfold hdT
      simp only [List.length_append, List.length_cons, List.length_nil]; omega
    have := ih (i + 1) k (t ++ hdT (ls.getD i (HeadT).dflt)) (by omega) (by omega) (by rw [List.length_append]; omega)
    simp only [Int.natCast_add, Int.natCast_one] at this
    rw [erput_0]
    unfold stepQ
    rw [cdT (by omega), show (i : Int).toNat = i from rfl, gdT (inK_i64.2 ⟨by omega, by omega⟩), gdT (by omega), gdT (by simp only [List.length_append, List.length_cons, List.length_nil]; omega), gdT (by simp only [List.length_append, List.length_cons, List.length_nil]; omega), gdT (by omega), gdT (by omega), gdT (by omega), gdT (by omega), gdT (by omega), gdT (by omega), gdT (by omega), xG, this, hd]
    show some (_ ++ _ ++ _, ()) = some (t ++ (hdT (ls.getD i (HeadT).dflt) ++ hdsT (ls.drop (i + 1))) ++ _, ())
    rw [List.append_assoc t]
theorem rput_c : PC 19 aputS := (pureO (sh := shOf shrput) (envS_ok (l := [(18, amayAS), (21, wordsS), (34, digitsS)]) ⟨rmay_c, rwords_c, digits_c, trivial⟩) gl_ne Tryz.func19 (by kernel_rfl) (by decide)).nice fun ⟨⟨n, hs, b, ()⟩, c, ()⟩ h => by
  have h : aputP (n, hs, b, ()) = true := h
  show orput _ = some (aputN (n, hs, b, ()) c, ())
  rw [orput_g, erput_g]
  unfold aputN
  cases hm : amayB (n, hs, b, ())
  · rw [xF, xF, gdB h, xG]
  · obtain ⟨m1, m2, m3, m4⟩ := amay_len hm
    obtain ⟨a1, a2, a3⟩ := st_len m1
    have ll : lineB.length = 9 := rfl
    have he : statD n = statT n := by unfold statD statT; rw [digits_fmt a3]
    have hw : (statT n).length ≤ 80 := by
      unfold statT
      simp only [List.length_append, List.length_cons, List.length_nil]; omega
    rw [xT, xT, he, digits_fmt a3, gdT (by simp only [List.length_append, List.length_cons, List.length_nil]; omega), gdT (by simp only [List.length_append, List.length_cons, List.length_nil]; omega), gdT (by simp only [List.length_append]; omega), gdT (by omega), gdB a3, gdB h, xG]
    exact rput_l c n hs b [] m4 m2 m3 hs.length 0 heads0 _ (by omega) (by unfold heads0; omega) (by omega)
end Go.Proofs.YtnblkjapeiaedaaGreatDoor
