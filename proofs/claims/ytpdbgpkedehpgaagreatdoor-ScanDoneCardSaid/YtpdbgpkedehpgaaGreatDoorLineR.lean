/-
  armariumlaw15.Line: a request as bytes: some bytes, not many. No condition.
-/
import Derived.Test.YtpdbgpkedehpgaaGreatDoorLawB
namespace Go.Proofs.YtpdbgpkedehpgaaGreatDoor
open Go Go.Eng Nice
set_option maxRecDepth 1000000
abbrev shlineR : List (Nat × List (Nat × Sh)) := [(6, [(1, (.obj [.sym, .sym, .sym, (.dat (.pair .str (.pair .str .unit))), .sym])), (2, (.one .sym)), (3, (.one .sym)), (4, (.one .sym))])]
noncomputable def hlineR_0 (n : Nat) (t1_0 : List UInt8) (t1_1 : List UInt8) (t1_2 : List UInt8) (t1_3 : List (Ty.Den (.pair .str (.pair .str .unit)))) (t1_4 : List UInt8) (t2 : List UInt8) (t3 : List UInt8) (t4 : Int) : Option (DenL [.str]) := rH Tryz.prog (envS [(24, cutS)]) (shOf shlineR) Tryz.f22 [.str] n 0 [(1, .pointer (some ⟨10, 0, none⟩)), (2, sy (.string (bs t2))), (3, sy (.string (bs t3))), (4, sy (.int .i64 t4))] [.dat (.pair .str (.pair .str .unit)) t1_3, .row [sy (.string (bs t1_0)), sy (.string (bs t1_1)), sy (.string (bs t1_2)), dt 9, sy (.string (bs t1_4))] 28 false]
noncomputable def olineR (x : DenL [ReqT]) : Option (DenL [.str]) := fO Tryz.prog (envS [(24, cutS)]) (shOf shlineR) Tryz.f22 [ReqT] [.str] x
theorem elineR_g (N : Nat) (x : Ty.Den ReqT) : fON Tryz.prog (envS [(24, cutS)]) (shOf shlineR) Tryz.f22 [ReqT] [.str] N (x, ()) =
  (gd [decide ((cut x.fst ((12 : Int)) ++ [32]).length + (cut x.snd.fst ((100 : Int))).length ≤ 1099511627776), decide ((cut x.fst ((12 : Int))).length + 1 ≤ 1099511627776)] (bif !x.snd.snd.fst == [] then
 (gd [decide ((cut x.fst ((12 : Int)) ++ [32] ++ cut x.snd.fst ((100 : Int)) ++ ([63] ++ cut x.snd.snd.fst ((120 : Int)))).length + 11 ≤ 1099511627776), decide ((cut x.fst ((12 : Int)) ++ [32] ++ cut x.snd.fst ((100 : Int))).length + ([63] ++ cut x.snd.snd.fst ((120 : Int))).length ≤ 1099511627776), decide (1 + (cut x.snd.snd.fst ((120 : Int))).length ≤ 1099511627776)] (hlineR_0 N (x.fst) (x.snd.fst) (x.snd.snd.fst) (x.snd.snd.snd.fst) (x.snd.snd.snd.snd.fst) ([]) (cut x.fst ((12 : Int)) ++ [32] ++ cut x.snd.fst ((100 : Int)) ++ ([63] ++ cut x.snd.snd.fst ((120 : Int))) ++ [32, 72, 84, 84, 80, 47, 49, 46, 49, 13, 10]) ((0 : Int))))
  else
 (gd [decide ((cut x.fst ((12 : Int)) ++ [32] ++ cut x.snd.fst ((100 : Int))).length + 11 ≤ 1099511627776)] (hlineR_0 N (x.fst) (x.snd.fst) (x.snd.snd.fst) (x.snd.snd.snd.fst) (x.snd.snd.snd.snd.fst) ([]) (cut x.fst ((12 : Int)) ++ [32] ++ cut x.snd.fst ((100 : Int)) ++ [32, 72, 84, 84, 80, 47, 49, 46, 49, 13, 10]) ((0 : Int)))))) := by kernel_rfl
theorem olineR_g (x : DenL [ReqT]) : olineR x = fON Tryz.prog (envS [(24, cutS)]) (shOf shlineR) Tryz.f22 [ReqT] [.str] heads0 x := rfl
theorem elineR (x : Ty.Den ReqT) : olineR (x, ()) =
  (gd [decide ((cut x.fst ((12 : Int)) ++ [32]).length + (cut x.snd.fst ((100 : Int))).length ≤ 1099511627776), decide ((cut x.fst ((12 : Int))).length + 1 ≤ 1099511627776)] (bif !x.snd.snd.fst == [] then
 (gd [decide ((cut x.fst ((12 : Int)) ++ [32] ++ cut x.snd.fst ((100 : Int)) ++ ([63] ++ cut x.snd.snd.fst ((120 : Int)))).length + 11 ≤ 1099511627776), decide ((cut x.fst ((12 : Int)) ++ [32] ++ cut x.snd.fst ((100 : Int))).length + ([63] ++ cut x.snd.snd.fst ((120 : Int))).length ≤ 1099511627776), decide (1 + (cut x.snd.snd.fst ((120 : Int))).length ≤ 1099511627776)] (hlineR_0 heads0 (x.fst) (x.snd.fst) (x.snd.snd.fst) (x.snd.snd.snd.fst) (x.snd.snd.snd.snd.fst) ([]) (cut x.fst ((12 : Int)) ++ [32] ++ cut x.snd.fst ((100 : Int)) ++ ([63] ++ cut x.snd.snd.fst ((120 : Int))) ++ [32, 72, 84, 84, 80, 47, 49, 46, 49, 13, 10]) ((0 : Int))))
  else
 (gd [decide ((cut x.fst ((12 : Int)) ++ [32] ++ cut x.snd.fst ((100 : Int))).length + 11 ≤ 1099511627776)] (hlineR_0 heads0 (x.fst) (x.snd.fst) (x.snd.snd.fst) (x.snd.snd.snd.fst) (x.snd.snd.snd.snd.fst) ([]) (cut x.fst ((12 : Int)) ++ [32] ++ cut x.snd.fst ((100 : Int)) ++ [32, 72, 84, 84, 80, 47, 49, 46, 49, 13, 10]) ((0 : Int)))))) := elineR_g heads0 x
theorem elineR_0 (n : Nat) (t1_0 : List UInt8) (t1_1 : List UInt8) (t1_2 : List UInt8) (t1_3 : List (Ty.Den (.pair .str (.pair .str .unit)))) (t1_4 : List UInt8) (t2 : List UInt8) (t3 : List UInt8) (t4 : Int) : hlineR_0 (n + 1) t1_0 t1_1 t1_2 t1_3 t1_4 t2 t3 t4 =
  (bif decide (t4 < (↑t1_3.length : Int)) then
 (bif decide (t4 < (12 : Int)) then
 (gd [decide (inK IntKind.i64 (t4 + (1 : Int))), decide (t3.length + (cut (t1_3.getD t4.toNat (HeadT).dflt).fst ((40 : Int)) ++ [58] ++ cut (t1_3.getD t4.toNat (HeadT).dflt).snd.fst ((110 : Int)) ++ [13, 10]).length ≤ 1099511627776), decide ((cut (t1_3.getD t4.toNat (HeadT).dflt).fst ((40 : Int)) ++ [58] ++ cut (t1_3.getD t4.toNat (HeadT).dflt).snd.fst ((110 : Int))).length + 2 ≤ 1099511627776), decide ((cut (t1_3.getD t4.toNat (HeadT).dflt).fst ((40 : Int)) ++ [58]).length + (cut (t1_3.getD t4.toNat (HeadT).dflt).snd.fst ((110 : Int))).length ≤ 1099511627776), decide (t4.toNat < t1_3.length), decide ((0 : Int) ≤ t4), decide (t4 < (↑t1_3.length : Int)), decide ((cut (t1_3.getD t4.toNat (HeadT).dflt).fst ((40 : Int))).length + 1 ≤ 1099511627776), decide (t4.toNat < t1_3.length), decide ((0 : Int) ≤ t4), decide (t4 < (↑t1_3.length : Int))] (hlineR_0 n (t1_0) (t1_1) (t1_2) (t1_3) (t1_4) (t2) (t3 ++ (cut (t1_3.getD t4.toNat (HeadT).dflt).fst ((40 : Int)) ++ [58] ++ cut (t1_3.getD t4.toNat (HeadT).dflt).snd.fst ((110 : Int)) ++ [13, 10])) (t4 + (1 : Int))))
 else
 (gd [decide ((t3 ++ [13, 10]).length + (cut t1_4 ((310 : Int))).length ≤ 1099511627776), decide (t3.length + 2 ≤ 1099511627776)] (some (t3 ++ [13, 10] ++ cut t1_4 ((310 : Int)), ()))))
  else
 (gd [decide ((t3 ++ [13, 10]).length + (cut t1_4 ((310 : Int))).length ≤ 1099511627776), decide (t3.length + 2 ≤ 1099511627776)] (some (t3 ++ [13, 10] ++ cut t1_4 ((310 : Int)), ())))) := by kernel_rfl

theorem lineR_l (m p q : List UInt8) (hs : List HeadD) (b t2 : List UInt8) : ∀ (r i n : Nat) (acc : List UInt8), i + r = 12 → r < n → acc.length ≤ 100000 - 153 * r → ∃ z, hlineR_0 n m p q hs b t2 acc (i : Int) = some (z, ()) ∧ z.length ≤ acc.length + 153 * r + 312 := by
  have hb310 := cut_len b 310
  have hb310 : (cut b 310).length ≤ 310 := hb310
  intro r
  induction r with
  | zero =>
    intro i n acc hi hn ha
    obtain ⟨n, rfl⟩ : ∃ k, n = k + 1 := ⟨n - 1, by omega⟩
    rw [elineR_0]
    by_cases h : (i : Int) < (hs.length : Int)
    · rw [cdT h, cdF (by omega), gdT (by simp only [List.length_append, List.length_cons, List.length_nil]; omega), gdT (by omega), gN]
      exact ⟨_, rfl, by simp only [List.length_append, List.length_cons, List.length_nil]; omega⟩
    · rw [cdF h, gdT (by simp only [List.length_append, List.length_cons, List.length_nil]; omega), gdT (by omega), gN]
      exact ⟨_, rfl, by simp only [List.length_append, List.length_cons, List.length_nil]; omega⟩
  | succ r ih =>
    intro i n acc hi hn ha
    obtain ⟨n, rfl⟩ : ∃ k, n = k + 1 := ⟨n - 1, by omega⟩
    rw [elineR_0]
    by_cases h : (i : Int) < (hs.length : Int)
    · rw [cdT h, cdT (by omega), show (i : Int).toNat = i from rfl]
      generalize hx : hs.getD i (HeadT).dflt = x
      have c1 : (cut x.1 40).length ≤ 40 := cut_len x.1 40
      have c2 : (cut x.2.1 110).length ≤ 110 := cut_len x.2.1 110
      rw [gdT (inK_i64.2 ⟨by omega, by omega⟩), gdT (by simp only [List.length_append, List.length_cons, List.length_nil]; omega), gdT (by simp only [List.length_append, List.length_cons, List.length_nil]; omega), gdT (by simp only [List.length_append, List.length_cons, List.length_nil]; omega), gdT (by omega), gdT (by omega), gdT (by omega), gdT (by omega), gdT (by omega), gdT (by omega), gdT (by omega), gN]
      obtain ⟨z, hz, hl⟩ := ih (i + 1) n (acc ++ (cut x.1 40 ++ [58] ++ cut x.2.1 110 ++ [13, 10])) (by omega) (by omega) (by simp only [List.length_append, List.length_cons, List.length_nil]; omega)
      simp only [Int.natCast_add, Int.natCast_one] at hz
      exact ⟨z, hz, by simp only [List.length_append, List.length_cons, List.length_nil] at hl; omega⟩
    · rw [cdF h, gdT (by simp only [List.length_append, List.length_cons, List.length_nil]; omega), gdT (by omega), gN]
      exact ⟨_, rfl, by simp only [List.length_append, List.length_cons, List.length_nil]; omega⟩
theorem lineR_n (m p q : List UInt8) (hs : List HeadD) (b : List UInt8) : ∃ z, olineR ((m, p, q, hs, b, ()), ()) = some (z, ()) ∧ z.length ≤ 3000 := by
  have c1 : (cut m 12).length ≤ 12 := cut_len m 12
  have c2 : (cut p 100).length ≤ 100 := cut_len p 100
  have c3 : (cut q 120).length ≤ 120 := cut_len q 120
  rw [olineR_g, elineR_g]
  dsimp only
  rw [gdT (by simp only [List.length_append, List.length_cons, List.length_nil]; omega), gdT (by omega), gN]
  cases h : !q == []
  · rw [cF, gdT (by simp only [List.length_append, List.length_cons, List.length_nil]; omega), gN]
    obtain ⟨z, hz, hl⟩ := lineR_l m p q hs b [] 12 0 heads0 (cut m 12 ++ [32] ++ cut p 100 ++ [32, 72, 84, 84, 80, 47, 49, 46, 49, 13, 10]) (by omega) (by unfold heads0; omega) (by simp only [List.length_append, List.length_cons, List.length_nil]; omega)
    exact ⟨z, hz, by simp only [List.length_append, List.length_cons, List.length_nil] at hl; omega⟩
  · rw [cT, gdT (by simp only [List.length_append, List.length_cons, List.length_nil]; omega), gdT (by simp only [List.length_append, List.length_cons, List.length_nil]; omega), gdT (by omega), gN]
    obtain ⟨z, hz, hl⟩ := lineR_l m p q hs b [] 12 0 heads0 (cut m 12 ++ [32] ++ cut p 100 ++ ([63] ++ cut q 120) ++ [32, 72, 84, 84, 80, 47, 49, 46, 49, 13, 10]) (by omega) (by unfold heads0; omega) (by simp only [List.length_append, List.length_cons, List.length_nil]; omega)
    exact ⟨z, hz, by simp only [List.length_append, List.length_cons, List.length_nil] at hl; omega⟩
noncomputable def lineRP : ReqD → Bool := hid fun x => (olineR (x, ())).isSome
noncomputable def lineRN : ReqD → List UInt8 := hid fun x => ((olineR (x, ())).getD ([], ())).1
noncomputable def lineRS : PSpec := ⟨[ReqT], [.str], fun x => lineRP x.1, fun x => (lineRN x.1, ())⟩
theorem lineR_ok (x : ReqD) : lineRP x = true ∧ (lineRN x).length ≤ 3000 := by
  obtain ⟨m, p, q, hs, b, ⟨⟩⟩ := x
  obtain ⟨z, hz, hl⟩ := lineR_n m p q hs b
  unfold lineRP lineRN
  rw [hid_eq, hid_eq]
  simp only [hz]
  exact ⟨rfl, hl⟩
theorem line22_c : PC 22 lineRS := (pureO (sh := shOf shlineR) (envS_ok (l := [(24, cutS)]) ⟨cut_c, trivial⟩) gl_ne Tryz.func22 (by kernel_rfl) (by decide)).nice fun ⟨x, ()⟩ _ => by
  obtain ⟨m, p, q, hs, b, ⟨⟩⟩ := x
  obtain ⟨z, hz, hl⟩ := lineR_n m p q hs b
  have e : lineRN (m, p, q, hs, b, ()) = z := by
    unfold lineRN
    rw [hid_eq]
    simp only [hz]
    rfl
  show olineR ((m, p, q, hs, b, ()), ()) = some (lineRN (m, p, q, hs, b, ()), ())
  rw [hz, e]
end Go.Proofs.YtpdbgpkedehpgaaGreatDoor
