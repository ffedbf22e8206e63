/-
  SayWords: the plain law and the contracts. No condition.
-/
import Derived.Test.YtnblkjapeiaedaaGreatDoorSym
import Derived.Test.YtnblkjapeiaedaaGreatDoorNiceW
import Derived.Test.YtnblkjapeiaedaaGreatDoorItoaW
import Derived.Test.YtnblkjapeiaedaaGreatDoorEng11
import Derived.Test.YtnblkjapeiaedaaGreatDoorBegD
namespace Nice
open Go Go.Eng
def lineW : List UInt8 := [72, 84, 84, 80, 47, 49, 46, 49, 32]
def lenL (n : Nat) : List UInt8 := [67, 111, 110, 116, 101, 110, 116, 45, 76, 101, 110, 103, 116, 104, 58, 32] ++ fmtN (n : Int) ++ [13, 10]
/-- an answer of a status alone -/
def put0 (n : Int) : List UInt8 := bif !wordsN n == [] then (bif n != 204 then lineW ++ fmtN n ++ [32] ++ wordsN n ++ [13, 10] ++ lenL 0 ++ [13, 10] ++ [] else lineW ++ fmtN n ++ [32] ++ wordsN n ++ [13, 10] ++ [13, 10] ++ []) else []
noncomputable def idx0S : PSpec := ⟨[.slice HeadT, .fn 39], [.int .i64], fun x => x.1.isEmpty, fun _ => ((-1 : Int), ())⟩
noncomputable def any0S : PSpec := ⟨[.slice HeadT, .fn 39], [.bool], fun x => x.1.isEmpty, fun _ => (false, ())⟩
noncomputable def may0S : PSpec := ⟨[AnsT], [.bool], fun x => x.1.2.1.isEmpty && x.1.2.2.1.isEmpty, fun x => (!(wordsN x.1.1 == []), ())⟩
noncomputable def put0S : PSpec := ⟨[AnsT, .bool], [.str], fun x => (x.1.2.1.isEmpty && x.1.2.2.1.isEmpty) && (i64P x.1.1 && !x.2.1), fun x => (put0 x.1.1, ())⟩
theorem yT {α : Type} (a b : α) : (bif true then a else b) = a := Eq.trans (cond_true a b) rfl
theorem yF {α : Type} (a b : α) : (bif false then a else b) = b := Eq.trans (cond_false a b) rfl
theorem yG {α : Type} (r : Option α) : gd [] r = r := Eq.trans gd_nil rfl
def wordsO (n : Int) : Option (DenL [.str]) := (bif n == 200 then some ([79, 75], ()) else bif n == 204 then some ([78, 111, 32, 67, 111, 110, 116, 101, 110, 116], ()) else bif n == 400 then some ([66, 97, 100, 32, 82, 101, 113, 117, 101, 115, 116], ()) else bif n == 404 then some ([78, 111, 116, 32, 70, 111, 117, 110, 100], ()) else bif n == 405 then some ([77, 101, 116, 104, 111, 100, 32, 78, 111, 116, 32, 65, 108, 108, 111, 119, 101, 100], ()) else bif n == 412 then some ([80, 114, 101, 99, 111, 110, 100, 105, 116, 105, 111, 110, 32, 70, 97, 105, 108, 101, 100], ()) else bif n == 413 then some ([67, 111, 110, 116, 101, 110, 116, 32, 84, 111, 111, 32, 76, 97, 114, 103, 101], ()) else bif n == 414 then some ([85, 82, 73, 32, 84, 111, 111, 32, 76, 111, 110, 103], ()) else bif n == 431 then some ([82, 101, 113, 117, 101, 115, 116, 32, 72, 101, 97, 100, 101, 114, 32, 70, 105, 101, 108, 100, 115, 32, 84, 111, 111, 32, 76, 97, 114, 103, 101], ()) else bif n == 503 then some ([83, 101, 114, 118, 105, 99, 101, 32, 85, 110, 97, 118, 97, 105, 108, 97, 98, 108, 101], ()) else bif n == 507 then some ([73, 110, 115, 117, 102, 102, 105, 99, 105, 101, 110, 116, 32, 83, 116, 111, 114, 97, 103, 101], ()) else some ([], ()))
def wB (b : Bool) : Option (DenL [.bool]) := some (b, ())
def ww (n : Int) (b : Bool) : Option (DenL [.bool]) := bif !wordsN n == [] then (bif !wordsN n == [] then wB b else wB !b) else (bif !wordsN n == [] then wB !b else wB b)
end Nice
namespace Go.Proofs.YtnblkjapeiaedaaGreatDoor
open Go Go.Eng Nice
set_option maxRecDepth 1000000
noncomputable def owords (x : DenL [.int .i64]) : Option (DenL [.str]) := fO Tryz.prog (envS []) (shOf []) Tryz.f20 [.int .i64] [.str] x
theorem ewords (n : Int) : owords (n, ()) = wordsO n := by kernel_rfl
noncomputable def orwords (x : DenL [.int .i64]) : Option (DenL [.str]) := fO Tryz.prog (envS []) (shOf []) Tryz.f21 [.int .i64] [.str] x
theorem erwords (n : Int) : orwords (n, ()) = wordsO n := by kernel_rfl
theorem words_nn (n : Int) : owords (n, ()) = some (wordsN n, ()) := by
  rw [ewords]
  unfold wordsO wordsN
  cases n == 200 <;> cases n == 204 <;> cases n == 400 <;> cases n == 404 <;> cases n == 405 <;> cases n == 412 <;> cases n == 413 <;> cases n == 414 <;> cases n == 431 <;> cases n == 503 <;> cases n == 507 <;> rfl
theorem words_c : PC 20 wordsS := (pureO (envS_ok (l := []) trivial) gl_ne Tryz.func20 (by kernel_rfl) (by decide)).nice fun ⟨n, ()⟩ _ => words_nn n
theorem rwords_c : PC 21 wordsS := (pureO (envS_ok (l := []) trivial) gl_ne Tryz.func21 (by kernel_rfl) (by decide)).nice fun ⟨n, ()⟩ _ => (erwords n).trans ((ewords n).symm.trans (words_nn n))
abbrev shidx0 : List (Nat × List (Nat × Sh)) := [(2, [(0, (.one (.dat (.pair .str (.pair .str .unit))))), (1, (.one .any)), (4, (.one .sym)), (7, (.one .sym)), (8, (.one .sym))])]
noncomputable def hidx0_0 (n : Nat) (t0 : List (Ty.Den (.pair .str (.pair .str .unit)))) (t4 : Int) (t7 : Int) (t8 : Int) : Option (DenL [.int .i64]) := rH Tryz.prog (envS []) (shOf shidx0) Tryz.f62 [.int .i64] n 0 [(0, dt 10), (1, Value.func (Fn.func 39) { toList := [] } { toList := [] }), (4, sy (.int .i64 t4)), (7, sy (.int .i64 t7)), (8, sy (.int .i64 t8))] [.dat (.pair .str (.pair .str .unit)) t0]
noncomputable def oidx0 (x : DenL [.slice HeadT, .fn 39]) : Option (DenL [.int .i64]) := fO Tryz.prog (envS []) (shOf shidx0) Tryz.f62 [.slice HeadT, .fn 39] [.int .i64] x
theorem oidx0_g (x : DenL [.slice HeadT, .fn 39]) : oidx0 x = fON Tryz.prog (envS []) (shOf shidx0) Tryz.f62 [.slice HeadT, .fn 39] [.int .i64] heads0 x := rfl
theorem eidx0_g (N : Nat) : fON Tryz.prog (envS []) (shOf shidx0) Tryz.f62 [.slice HeadT, .fn 39] [.int .i64] N ([], (), ()) = hidx0_0 N [] 0 0 0 := by kernel_rfl
theorem eidx0 : oidx0 ([], (), ()) = hidx0_0 heads0 [] 0 0 0 := (oidx0_g _).trans (eidx0_g heads0)
theorem eidx0_0 (n : Nat) : hidx0_0 (n + 1) [] 0 0 0 = some ((-1 : Int), ()) := by kernel_rfl
theorem nil_of {α : Type} {l : List α} (h : l.isEmpty = true) : l = [] := List.isEmpty_iff.1 h
theorem idx0_c : PC 62 idx0S := (pureO (sh := shOf shidx0) (envS_ok (l := []) trivial) gl_ne Tryz.func62 (by kernel_rfl) (by decide)).nice fun ⟨l, (), ()⟩ h => by
  have h : l.isEmpty = true := h
  obtain rfl := nil_of h
  show oidx0 _ = _
  rw [eidx0, show heads0 = (heads0 - 1) + 1 by unfold heads0; rfl, eidx0_0]
noncomputable def oany0 (x : DenL [.slice HeadT, .fn 39]) : Option (DenL [.bool]) := fO Tryz.prog (envS [(62, idx0S)]) (shOf []) Tryz.f38 [.slice HeadT, .fn 39] [.bool] x
theorem eany0 : oany0 ([], (), ()) = some (false, ()) := by kernel_rfl
theorem any0_c : PC 38 any0S := (pureO (envS_ok (l := [(62, idx0S)]) ⟨idx0_c, trivial⟩) gl_ne Tryz.func38 (by kernel_rfl) (by decide)).nice fun ⟨l, (), ()⟩ h => by
  have h : l.isEmpty = true := h
  obtain rfl := nil_of h
  exact eany0
noncomputable def omay0 (x : DenL [AnsT]) : Option (DenL [.bool]) := fO Tryz.prog (envS [(20, wordsS), (38, any0S)]) (shOf []) Tryz.f17 [AnsT] [.bool] x
theorem emay0 (n : Int) : omay0 ((n, [], [], ()), ()) = (bif !wordsN n == [] then (bif n != 204 then wB true else wB true) else wB false) := by kernel_rfl
theorem may0_c : PC 17 may0S := (pureO (envS_ok (l := [(20, wordsS), (38, any0S)]) ⟨words_c, any0_c, trivial⟩) gl_ne Tryz.func17 (by kernel_rfl) (by decide)).nice fun ⟨⟨n, hs, b, ()⟩, ()⟩ h => by
  have h : (hs.isEmpty && b.isEmpty) = true := h
  rw [Bool.and_eq_true] at h
  obtain rfl := nil_of h.1
  obtain rfl := nil_of h.2
  show omay0 _ = some (!(wordsN n == []), ())
  rw [emay0]
  cases wordsN n == [] <;> cases n != 204 <;> rfl
abbrev shput0 : List (Nat × List (Nat × Sh)) := [(5, [(1, (.one .sym)), (2, (.obj [.sym, (.dat (.pair .str (.pair .str .unit))), .sym])), (4, (.one .sym)), (5, (.one .sym)), (22, (.one (.dat (.pair .str (.pair .str .unit))))), (23, (.one .sym)), (24, (.one .sym))])]
noncomputable def hput0_0 (n : Nat) (t1 : Bool) (t2_0 : Int) (t2_1 : List (Ty.Den (.pair .str (.pair .str .unit)))) (t2_2 : List UInt8) (t4 : List UInt8) (t5 : List UInt8) (t22 : List (Ty.Den (.pair .str (.pair .str .unit)))) (t23 : Int) (t24 : Int) : Option (DenL [.str]) := rH Tryz.prog (envS [(17, may0S), (20, wordsS), (37, itoaS)]) (shOf shput0) Tryz.f16 [.str] n 0 [(1, .bool t1), (2, .pointer (some ⟨11, 0, none⟩)), (4, sy (.string (bs t4))), (5, sy (.string (bs t5))), (22, dt 12), (23, sy (.int .i64 t23)), (24, sy (.int .i64 t24))] [.dat (.pair .str (.pair .str .unit)) t2_1, .row [sy (.int .i64 t2_0), dt 10, sy (.string (bs t2_2))] 24 false, .dat (.pair .str (.pair .str .unit)) t22]
noncomputable def oput0 (x : DenL [AnsT, .bool]) : Option (DenL [.str]) := fO Tryz.prog (envS [(17, may0S), (20, wordsS), (37, itoaS)]) (shOf shput0) Tryz.f16 [AnsT, .bool] [.str] x
def headW0 (n : Int) : List UInt8 := lineW ++ fmtN n ++ [32] ++ wordsN n ++ [13, 10]
theorem oput0_g (x : DenL [AnsT, .bool]) : oput0 x = fON Tryz.prog (envS [(17, may0S), (20, wordsS), (37, itoaS)]) (shOf shput0) Tryz.f16 [AnsT, .bool] [.str] heads0 x := rfl
theorem eput0_g (N : Nat) (n : Int) : fON Tryz.prog (envS [(17, may0S), (20, wordsS), (37, itoaS)]) (shOf shput0) Tryz.f16 [AnsT, .bool] [.str] N ((n, [], [], ()), false, ()) = (bif !wordsN n == [] then gd [decide ((lineW ++ fmtN n ++ [32] ++ wordsN n).length + 2 ≤ 1099511627776), decide ((lineW ++ fmtN n ++ [32]).length + (wordsN n).length ≤ 1099511627776), decide ((lineW ++ fmtN n).length + 1 ≤ 1099511627776), decide (9 + (fmtN n).length ≤ 1099511627776), i64P n] (hput0_0 N false n [] [] [] (headW0 n) [] 0 0) else some ([], ())) := by kernel_rfl
theorem eput0 (n : Int) : oput0 ((n, [], [], ()), false, ()) = (bif !wordsN n == [] then gd [decide ((lineW ++ fmtN n ++ [32] ++ wordsN n).length + 2 ≤ 1099511627776), decide ((lineW ++ fmtN n ++ [32]).length + (wordsN n).length ≤ 1099511627776), decide ((lineW ++ fmtN n).length + 1 ≤ 1099511627776), decide (9 + (fmtN n).length ≤ 1099511627776), i64P n] (hput0_0 heads0 false n [] [] [] (headW0 n) [] 0 0) else some ([], ())) := (oput0_g _).trans (eput0_g heads0 n)
theorem eput0_0 (k : Nat) (n : Int) (t : List UInt8) : hput0_0 (k + 1) false n [] [] [] t [] 0 0 = (bif n != 204 then gd [decide ((t ++ lenL 0).length + 2 ≤ 1099511627776), decide (t.length + (lenL 0).length ≤ 1099511627776), decide (([67, 111, 110, 116, 101, 110, 116, 45, 76, 101, 110, 103, 116, 104, 58, 32] ++ fmtN 0).length + 2 ≤ 1099511627776), decide (16 + (fmtN 0).length ≤ 1099511627776), i64P 0] (gd [decide ((t ++ lenL 0 ++ [13, 10]).length + 0 ≤ 1099511627776)] (some (t ++ lenL 0 ++ [13, 10] ++ [], ()))) else gd [decide (t.length + 2 ≤ 1099511627776)] (gd [decide ((t ++ [13, 10]).length + 0 ≤ 1099511627776)] (some (t ++ [13, 10] ++ [], ())))) := by kernel_rfl
def stL : List Int := [200, 204, 400, 404, 405, 412, 413, 414, 431, 503, 507]
theorem st_ok : stL.all (fun n => decide ((fmtN n).length ≤ 20) && (decide ((wordsN n).length ≤ 40) && i64P n)) = true := by kernel_rfl
theorem st_mem {n : Int} (h : (!wordsN n == []) = true) : n ∈ stL := by
  apply Classical.byContradiction
  intro hn
  have hne : ∀ k, k ∈ stL → (n == k) = false := fun k hk => beq_eq_false_iff_ne.2 fun e => hn (e ▸ hk)
  have e : wordsN n = [] := by
    unfold wordsN
    rw [hne 200 (by decide), hne 204 (by decide), hne 400 (by decide), hne 404 (by decide), hne 405 (by decide), hne 412 (by decide), hne 413 (by decide), hne 414 (by decide), hne 431 (by decide), hne 503 (by decide), hne 507 (by decide)]
    rfl
  rw [e] at h
  cases h
theorem st_len {n : Int} (h : (!wordsN n == []) = true) : (fmtN n).length ≤ 20 ∧ (wordsN n).length ≤ 40 ∧ i64P n = true := by
  have := List.all_eq_true.1 st_ok n (st_mem h)
  simp only [Bool.and_eq_true, decide_eq_true_eq] at this
  exact this
theorem l0_len : (lenL 0).length = 19 := by kernel_rfl
theorem f0_len : (fmtN 0).length = 1 := by kernel_rfl
theorem p0_ok : i64P 0 = true := by kernel_rfl
theorem put0_n (n : Int) : oput0 ((n, [], [], ()), false, ()) = some (put0 n, ()) := by
  have ll : lineW.length = 9 := rfl
  have h0 := l0_len
  have h1 := f0_len
  rw [eput0]
  unfold put0
  cases h : !wordsN n == []
  · rfl
  · obtain ⟨a1, a2, a3⟩ := st_len h
    have hw : (headW0 n).length ≤ 80 := by
      unfold headW0
      simp only [List.length_append, List.length_cons, List.length_nil]; omega
    rw [yT, yT, gdT (by simp only [List.length_append, List.length_cons, List.length_nil]; omega), gdT (by simp only [List.length_append, List.length_cons, List.length_nil]; omega), gdT (by simp only [List.length_append]; omega), gdT (by omega), gdB a3, yG, show heads0 = (heads0 - 1) + 1 by unfold heads0; rfl, eput0_0]
    cases n != 204
    · rw [yF, yF, gdT (by omega), yG, gdT (by rw [List.length_append]; simp only [List.length_cons, List.length_nil]; omega), yG]; rfl
    · rw [yT, yT, gdT (by rw [List.length_append]; omega), gdT (by omega), gdT (by rw [List.length_append, h1]; decide), gdT (by omega), gdB p0_ok, yG, gdT (by simp only [List.length_append, List.length_cons, List.length_nil]; omega), yG]; rfl
theorem put0_c : PC 16 put0S := (pureO (sh := shOf shput0) (envS_ok (l := [(17, may0S), (20, wordsS), (37, itoaS)]) ⟨may0_c, words_c, itoa_c, trivial⟩) gl_ne Tryz.func16 (by kernel_rfl) (by decide)).nice fun ⟨⟨n, hs, b, ()⟩, c, ()⟩ h => by
  have h : ((hs.isEmpty && b.isEmpty) && (i64P n && !c)) = true := h
  simp only [Bool.and_eq_true] at h
  obtain ⟨⟨h1, h2⟩, -, h3⟩ := h
  obtain rfl := nil_of h1
  obtain rfl := nil_of h2
  cases c
  · exact put0_n n
  · cases h3
theorem put0_nil (n : Int) : (put0 n == []) = (wordsN n == []) := by
  unfold put0
  cases h : wordsN n == []
  · rw [Bool.not_false, yT]
    cases n != 204 <;> (rw [beq_eq_false_iff_ne]; intro e; have := congrArg List.length e; simp only [yT, yF, List.length_append, List.length_cons, List.length_nil] at this; omega)
  · rfl
theorem begun_c : PC 13 trueS := pure_true begun17_run
noncomputable def olawWords (x : DenL [.int .i64]) : Option (DenL [.bool]) := fO Tryz.prog (envS [(13, trueS), (16, put0S), (17, may0S), (20, wordsS), (21, wordsS)]) (shOf []) Tryz.f8 [.int .i64] [.bool] x
theorem elawWords (n : Int) : olawWords (n, ()) = gd [true && true && (i64P n && !false)] (bif wordsN n == wordsN n then (bif put0 n == [] then (bif wordsN n == [] then ww n true else wB false) else (bif wordsN n == [] then wB false else ww n true)) else wB false) := by kernel_rfl
theorem lawWords_n {n : Int} (h : i64P n = true) : olawWords (n, ()) = some (true, ()) := by
  rw [elawWords, gdB (by rw [h]; rfl), yG, beq_self_eq_true, yT, put0_nil]
  unfold ww
  cases wordsN n == [] <;> rfl
theorem lawWords_c : PC 8 (ofO [.int .i64] [.bool] olawWords) := (pureO (envS_ok (l := [(13, trueS), (16, put0S), (17, may0S), (20, wordsS), (21, wordsS)]) ⟨begun_c, put0_c, may0_c, words_c, rwords_c, trivial⟩) gl_ne Tryz.func8 (by kernel_rfl) (by decide))
theorem lawWords_run {w : World} (hgl : GlW glC w) {args : Array Value} {x : DenL [.int .i64]} (hx : RdAll (fzW w) [.int .i64] x args.toList) (hb : BdL [.int .i64] x) : Calls Tryz.prog 8 args w fun e w' => e = .returned (.bool true) ∧ Same w w' :=
  law_calls lawWords_c (fun x hb => by
    obtain ⟨n, ⟨⟩⟩ := x
    have hm : inK .i64 n := hb.1
    have := lawWords_n (i64P_iff.2 (inK_i64.1 hm))
    exact ⟨by show (olawWords (n, ())).isSome = true; rw [this]; rfl, by show (olawWords (n, ())).getD _ = _; rw [this]; rfl⟩) hgl hx hb
end Go.Proofs.YtnblkjapeiaedaaGreatDoor
