/-
  An answer as bytes (say.Put): what it computes, and the contract. No condition.
-/
import Derived.Test.YtnblkjapeiaedaaGreatDoorSayC
namespace Nice
open Go Go.Eng
def lineB : List UInt8 := [72, 84, 84, 80, 47, 49, 46, 49, 32]
def hdT (h : HeadD) : List UInt8 := h.1 ++ [58, 32] ++ h.2.1 ++ [13, 10]
def hdsT : List HeadD → List UInt8
  | [] => []
  | h :: r => hdT h ++ hdsT r
def lenW0 : List UInt8 := [67, 111, 110, 116, 101, 110, 116, 45, 76, 101, 110, 103, 116, 104, 58, 32]
def lenT (k : Int) : List UInt8 := lenW0 ++ fmtN k ++ [13, 10]
def statT (n : Int) : List UInt8 := lineB ++ fmtN n ++ [32] ++ wordsN n ++ [13, 10]
def endT (n : Int) (b : List UInt8) (c : Bool) : List UInt8 := (bif n != 204 then lenT (b.length : Int) ++ [13, 10] else [13, 10]) ++ (bif c then [] else b)
def aputN (a : AnsD) (c : Bool) : List UInt8 := bif amayB a then statT a.1 ++ hdsT a.2.1 ++ endT a.1 a.2.2.1 c else []
noncomputable def aputS : PSpec := ⟨[AnsT, .bool], [.str], fun x => aputP x.1, fun x => (aputN x.1 x.2.1, ())⟩
def finP (c : Bool) (n : Int) (b t : List UInt8) : Option (DenL [.str]) :=
  bif n != 204 then gd [decide ((t ++ lenT (b.length : Int)).length + 2 ≤ 1099511627776), decide (t.length + (lenT (b.length : Int)).length ≤ 1099511627776), decide ((lenW0 ++ fmtN (b.length : Int)).length + 2 ≤ 1099511627776), decide (16 + (fmtN (b.length : Int)).length ≤ 1099511627776), i64P (b.length : Int)]
    (bif !c then gd [decide ((t ++ lenT (b.length : Int) ++ [13, 10]).length + b.length ≤ 1099511627776)] (some (t ++ lenT (b.length : Int) ++ [13, 10] ++ b, ())) else some (t ++ lenT (b.length : Int) ++ [13, 10], ()))
  else gd [decide (t.length + 2 ≤ 1099511627776)] (bif !c then gd [decide ((t ++ [13, 10]).length + b.length ≤ 1099511627776)] (some (t ++ [13, 10] ++ b, ())) else some (t ++ [13, 10], ()))
noncomputable def stepP (c : Bool) (n : Int) (b t : List UInt8) (l : List HeadD) (k i : Int) (next : Option (DenL [.str])) : Option (DenL [.str]) :=
  bif decide (i < k) then gd [decide (inK .i64 (i + 1)), decide (t.length + (hdT (l.getD i.toNat (HeadT).dflt)).length ≤ 1099511627776), decide (((l.getD i.toNat (HeadT).dflt).1 ++ [58, 32] ++ (l.getD i.toNat (HeadT).dflt).2.1).length + 2 ≤ 1099511627776), decide (((l.getD i.toNat (HeadT).dflt).1 ++ [58, 32]).length + (l.getD i.toNat (HeadT).dflt).2.1.length ≤ 1099511627776), decide ((l.getD i.toNat (HeadT).dflt).1.length + 2 ≤ 1099511627776), decide (i.toNat < l.length), decide (0 ≤ i), decide (i < (l.length : Int))] next
  else finP c n b t
theorem st_ok : ([200, 204, 400, 404, 405, 412, 413, 414, 431, 503, 507] : List Int).all (fun n => decide ((fmtN n).length ≤ 20) && (decide ((wordsN n).length ≤ 40) && i64P n)) = true := by kernel_rfl
theorem st_mem {n : Int} (h : (!(wordsN n == [])) = true) : n ∈ ([200, 204, 400, 404, 405, 412, 413, 414, 431, 503, 507] : List Int) := by
  apply Classical.byContradiction
  intro hn
  have hne : ∀ k : Int, k ∈ ([200, 204, 400, 404, 405, 412, 413, 414, 431, 503, 507] : List Int) → (n == k) = false := fun k hk => beq_eq_false_iff_ne.2 fun e => hn (e ▸ hk)
  have e : wordsN n = [] := by
    unfold wordsN
    rw [hne 200 (by decide), hne 204 (by decide), hne 400 (by decide), hne 404 (by decide), hne 405 (by decide), hne 412 (by decide), hne 413 (by decide), hne 414 (by decide), hne 431 (by decide), hne 503 (by decide), hne 507 (by decide)]
    rfl
  rw [e] at h
  cases h
theorem st_len {n : Int} (h : (!(wordsN n == [])) = true) : (fmtN n).length ≤ 20 ∧ (wordsN n).length ≤ 40 ∧ i64P n = true := by
  have := List.all_eq_true.1 st_ok n (st_mem h)
  simp only [Bool.and_eq_true, decide_eq_true_eq] at this
  exact this
theorem headB_len {h : HeadD} (hb : headB h = true) : h.1.length ≤ 30 ∧ h.2.1.length ≤ 100 := by
  unfold headB at hb
  simp only [Bool.and_eq_true, decide_eq_true_eq] at hb
  exact ⟨hb.1.1.2, hb.2.1⟩
theorem amay_len {n : Int} {hs : List HeadD} {b : List UInt8} (h : amayB (n, hs, b, ()) = true) : (!(wordsN n == [])) = true ∧ hs.length ≤ 10 ∧ (∀ x, x ∈ hs → headB x = true) ∧ b.length ≤ 20000 := by
  unfold amayB at h
  simp only [Bool.and_eq_true, decide_eq_true_eq] at h
  refine ⟨h.1, h.2.1, fun x hx => ?_, h.2.2.2.1⟩
  have h3 := h.2.2.1
  unfold anyN at h3
  cases hb : headB x
  · have : (hs.any fun h => !headB h) = true := List.any_eq_true.2 ⟨x, hx, by rw [hb]; rfl⟩
    rw [this] at h3; cases h3
  · rfl
theorem itoa_20 {k : Nat} (h : k ≤ 20000) : (fmtN (k : Int)).length ≤ 20 := by
  have e : fmtN (k : Int) = Lib.decDigits k := by
    show Lib.itoa (k : Int) = _
    unfold Lib.itoa; rw [if_neg (by omega)]; rfl
  rw [e, Lib.decDigits_length]
  have key : ∀ (m u : Nat), u < 10 ^ (m + 1) → Lib.nDigits u ≤ m + 1 := by
    intro m
    induction m with
    | zero => intro u hu; rw [Lib.nDigits_small (by simpa using hu)]; exact Nat.le_refl _
    | succ m ih =>
      intro u hu
      by_cases h1 : u < 10
      · rw [Lib.nDigits_small h1]; omega
      · rw [Lib.nDigits_big h1]
        have := ih (u / 10) (by rw [Nat.pow_succ] at hu; omega)
        omega
  have := key 4 k (by omega)
  omega
theorem i64_nat {k : Nat} (h : k ≤ 20000) : i64P (k : Int) = true := by
  unfold i64P; rw [Bool.and_eq_true, decide_eq_true_eq, decide_eq_true_eq]; omega
theorem finP_n {c : Bool} {n : Int} {b t : List UInt8} (hb : b.length ≤ 20000) (ht : t.length ≤ 100000) : finP c n b t = some (t ++ endT n b c, ()) := by
  have h1 := itoa_20 hb
  have h2 : lenW0.length = 16 := rfl
  have h3 : (lenT (b.length : Int)).length ≤ 40 := by
    unfold lenT
    simp only [List.length_append, List.length_cons, List.length_nil]; omega
  unfold finP endT
  cases n != 204
  · rw [xF, xF, gdT (by omega), xG]
    cases c
    · rw [Bool.not_false, xT, xF, gdT (by simp only [List.length_append, List.length_cons, List.length_nil]; omega), xG, List.append_assoc]
    · rw [Bool.not_true, xF, xT, List.append_nil]
  · rw [xT, xT, gdT (by rw [List.length_append]; omega), gdT (by omega), gdT (by rw [List.length_append]; omega), gdT (by omega), gdB (i64_nat hb), xG]
    cases c
    · rw [Bool.not_false, xT, xF, gdT (by simp only [List.length_append, List.length_cons, List.length_nil]; omega), xG]; simp only [List.append_assoc]
    · rw [Bool.not_true, xF, xT, List.append_nil]; simp only [List.append_assoc]
end Nice
namespace Go.Proofs.YtnblkjapeiaedaaGreatDoor
open Go Go.Eng Nice Go.RowKit
set_option maxRecDepth 1000000
abbrev shaput : List (Nat × List (Nat × Sh)) := [(5, [(1, (.one .sym)), (2, (.obj [.sym, (.dat (.pair .str (.pair .str .unit))), .sym])), (4, (.one .sym)), (5, (.one .sym)), (22, (.one (.dat (.pair .str (.pair .str .unit))))), (23, (.one .sym)), (24, (.one .sym))])]
noncomputable def haput (k : Nat) (c : Bool) (n : Int) (hs : List HeadD) (b t l : List UInt8) (ls : List HeadD) (m i : Int) : Option (DenL [.str]) := rH Tryz.prog (envS [(17, amayAS), (20, wordsS), (37, itoaS)]) (shOf shaput) Tryz.f16 [.str] k 0 [(1, .bool c), (2, .pointer (some ⟨11, 0, none⟩)), (4, sy (.string (bs l))), (5, sy (.string (bs t))), (22, dt 12), (23, sy (.int .i64 m)), (24, sy (.int .i64 i))] [.dat (.pair .str (.pair .str .unit)) hs, .row [sy (.int .i64 n), dt 10, sy (.string (bs b))] 24 false, .dat (.pair .str (.pair .str .unit)) ls]
noncomputable def oaput (x : DenL [AnsT, .bool]) : Option (DenL [.str]) := fO Tryz.prog (envS [(17, amayAS), (20, wordsS), (37, itoaS)]) (shOf shaput) Tryz.f16 [AnsT, .bool] [.str] x
theorem oaput_g (x : DenL [AnsT, .bool]) : oaput x = fON Tryz.prog (envS [(17, amayAS), (20, wordsS), (37, itoaS)]) (shOf shaput) Tryz.f16 [AnsT, .bool] [.str] heads0 x := rfl
theorem eaput_g (N : Nat) (n : Int) (hs : List HeadD) (b : List UInt8) (c : Bool) : fON Tryz.prog (envS [(17, amayAS), (20, wordsS), (37, itoaS)]) (shOf shaput) Tryz.f16 [AnsT, .bool] [.str] N ((n, hs, b, ()), c, ()) =
  (bif amayB (n, hs, b, ()) then gd [decide ((lineB ++ fmtN n ++ [32] ++ wordsN n).length + 2 ≤ 1099511627776), decide ((lineB ++ fmtN n ++ [32]).length + (wordsN n).length ≤ 1099511627776), decide ((lineB ++ fmtN n).length + 1 ≤ 1099511627776), decide (9 + (fmtN n).length ≤ 1099511627776), i64P n, aputP (n, hs, b, ())] (haput N c n hs b (statT n) [] hs (hs.length : Int) 0)
   else gd [aputP (n, hs, b, ())] (some ([], ()))) := by kernel_rfl
theorem eaput_0 (k : Nat) (c : Bool) (n : Int) (hs : List HeadD) (b t l : List UInt8) (ls : List HeadD) (m i : Int) : haput (k + 1) c n hs b t l ls m i = stepP c n b t ls m i (haput k c n hs b (t ++ hdT (ls.getD i.toNat (HeadT).dflt)) l ls m (i + 1)) := by kernel_rfl
theorem aput_l (c : Bool) (n : Int) (hs : List HeadD) (b l : List UInt8) (ls : List HeadD) (hb : b.length ≤ 20000) (hl : ls.length ≤ 10) (hh : ∀ x, x ∈ ls → headB x = true) : ∀ (r i k : Nat) (t : List UInt8), ls.length = i + r → r < k → t.length ≤ 1000 + 200 * i → haput k c n hs b t l ls (ls.length : Int) (i : Int) = some (t ++ hdsT (ls.drop i) ++ endT n b c, ()) := by
  intro r
  induction r with
  | zero =>
    intro i k t hi hk ht
    obtain ⟨k, rfl⟩ : ∃ m, k = m + 1 := ⟨k - 1, by omega⟩
    rw [eaput_0]
    unfold stepP
    rw [cdF (by omega), finP_n hb (by omega), List.drop_eq_nil_of_le (by omega)]
    show _ = some (t ++ [] ++ _, ())
    rw [List.append_nil]
  | succ r ih =>
    intro i k t hi hk ht
    obtain ⟨k, rfl⟩ : ∃ m, k = m + 1 := ⟨k - 1, by omega⟩
    have hlt : i < ls.length := by omega
    have hd : ls.drop i = ls.getD i (HeadT).dflt :: ls.drop (i + 1) := by
      rw [List.drop_eq_getElem_cons hlt, List.getD_eq_getElem?_getD, List.getElem?_eq_getElem hlt]; rfl
    have hx : headB (ls.getD i (HeadT).dflt) = true := hh _ (by
      rw [List.getD_eq_getElem?_getD, List.getElem?_eq_getElem hlt]; exact List.getElem_mem hlt)
    obtain ⟨l1, l2⟩ := headB_len hx
    have l3 : (hdT (ls.getD i (HeadT).dflt)).length ≤ 200 := by
      unfold hdT
      simp only [List.length_append, List.length_cons, List.length_nil]; omega
    have := ih (i + 1) k (t ++ hdT (ls.getD i (HeadT).dflt)) (by omega) (by omega) (by rw [List.length_append]; omega)
    simp only [Int.natCast_add, Int.natCast_one] at this
    rw [eaput_0]
    unfold stepP
    rw [cdT (by omega), show (i : Int).toNat = i from rfl, gdT (inK_i64.2 ⟨by omega, by omega⟩), gdT (by omega), gdT (by simp only [List.length_append, List.length_cons, List.length_nil]; omega), gdT (by simp only [List.length_append, List.length_cons, List.length_nil]; omega), gdT (by omega), gdT (by omega), gdT (by omega), gdT (by omega), xG, this, hd]
    show some (_ ++ _ ++ _, ()) = some (t ++ (hdT (ls.getD i (HeadT).dflt) ++ hdsT (ls.drop (i + 1))) ++ _, ())
    rw [List.append_assoc t]
theorem aput_c : PC 16 aputS := (pureO (sh := shOf shaput) (envS_ok (l := [(17, amayAS), (20, wordsS), (37, itoaS)]) ⟨amay_c, words_c, itoa_c, trivial⟩) gl_ne Tryz.func16 (by kernel_rfl) (by decide)).nice fun ⟨⟨n, hs, b, ()⟩, c, ()⟩ h => by
  have h : aputP (n, hs, b, ()) = true := h
  show oaput _ = some (aputN (n, hs, b, ()) c, ())
  rw [oaput_g, eaput_g]
  unfold aputN
  cases hm : amayB (n, hs, b, ())
  · rw [xF, xF, gdB h, xG]
  · obtain ⟨m1, m2, m3, m4⟩ := amay_len hm
    obtain ⟨a1, a2, a3⟩ := st_len m1
    have ll : lineB.length = 9 := rfl
    have hw : (statT n).length ≤ 80 := by
      unfold statT
      simp only [List.length_append, List.length_cons, List.length_nil]; omega
    rw [xT, xT, gdT (by simp only [List.length_append, List.length_cons, List.length_nil]; omega), gdT (by simp only [List.length_append, List.length_cons, List.length_nil]; omega), gdT (by simp only [List.length_append]; omega), gdT (by omega), gdB a3, gdB h, xG]
    exact aput_l c n hs b [] hs m4 m2 m3 hs.length 0 heads0 _ (by omega) (by unfold heads0; omega) (by omega)
end Go.Proofs.YtnblkjapeiaedaaGreatDoor
