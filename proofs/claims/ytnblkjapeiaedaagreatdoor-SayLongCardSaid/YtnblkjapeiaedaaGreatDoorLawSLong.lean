/-
  SayLong: the plain law and the contract. No condition.
-/
import Derived.Test.YtnblkjapeiaedaaGreatDoorLawSMany
namespace Nice
open Go Go.Eng
def hsL : Nat → List HeadD
  | 0 => []
  | i + 1 => hsL i ++ [([72], digits (i : Int), ())]
theorem hsL_ok : (List.range 12).all (fun i => headB ([72], digits (i : Int), ())) = true := by kernel_rfl
theorem hsL_len : ∀ i, (hsL i).length = i
  | 0 => rfl
  | i + 1 => by
    show (hsL i ++ [_]).length = _
    rw [List.length_append, hsL_len i]; rfl
theorem hsL_head : ∀ i, i ≤ 12 → ∀ h, h ∈ hsL i → headB h = true
  | 0, _, h, hm => absurd hm (by simp [hsL])
  | i + 1, hi, h, hm => by
    have hm : h ∈ hsL i ++ [([72], digits (i : Int), ())] := hm
    rcases List.mem_append.1 hm with hm | hm
    · exact hsL_head i (by omega) h hm
    · rw [List.mem_singleton.1 hm]
      exact List.all_eq_true.1 hsL_ok i (List.mem_range.2 (by omega))
def slE (a : AnsD) (t : List UInt8) : BO := bif t == [] then (bif amayB a then gd [aputP a] (bO false) else gd [aputP a] (bO true)) else bO false
def slF (n k : Int) (a : AnsD) (t : List UInt8) (g : AnsD × Int × Int) : BO :=
  gd [aputP a] (bif decide (n > 20000) then slE a t else bif decide (k > 10) then slE a t else gd [bndS t] (bif g.2.2 == 0 then (bif g.2.1 == (t.length : Int) then (bif eqAns g.1 a then gd [ansB g.1] (bO true) else gd [ansB g.1] (bO false)) else bO false) else bO false))
noncomputable def sl1 (n k : Int) (st : Int) (hs : List HeadD) (b : List UInt8) (i : Int) (nx : BO) : BO :=
  bif decide (i < k) then gd [decide (inK .i64 (i + 1)), decide ((2 * (hs.length + [(([72], digits i, ()) : HeadD)].length) + 400) * 32 ≤ 281474976710656), decide (-9223372036854775808 ≤ i) && decide (i ≤ 9223372036854775807)] nx
  else slF n k (st, hs, b, ()) (aputN (st, hs, b, ()) false) (getN (aputN (st, hs, b, ()) false) false)
noncomputable def sl0 (y : Int) (l : List UInt8) (m i : Int) (nx fin : BO) : BO :=
  bif decide (i < m) then gd [decide (inK .i64 (i + 1)), decide (i.toNat < l.length), decide (inK .u8 y), decide (0 ≤ i), decide (i < (l.length : Int))] nx else fin
def slW (n k : Int) (nx : BO) : BO :=
  bif decide (n < 0) then bO true else bif decide (n > 20010) then bO true else bif decide (k < 0) then bO true else bif decide (k > 12) then bO true else gd [decide (0 ≤ n), decide (n ≤ 1099511627776), decide (n = n)] nx
theorem slF_n {n k : Nat} (b : List UInt8) (hb : b.length = n) (hn : n ≤ 20010) (hk : k ≤ 12) : slF (n : Int) (k : Int) (200, hsL k, b, ()) (aputN (200, hsL k, b, ()) false) (getN (aputN (200, hsL k, b, ()) false) false) = bO true := by
  have hh := hsL_head k hk
  have hl := hsL_len k
  have hp : aputP (200, hsL k, b, ()) = true := Go.Proofs.YtnblkjapeiaedaaGreatDoor.headsP_iff.2 ⟨show (hsL k).length ≤ 140737488355328 by omega, fun h hm => headB_p (hh h hm)⟩
  unfold slF
  rw [gdB hp, xG]
  have no : (20000 < n ∨ 10 < k) → slE (200, hsL k, b, ()) (aputN (200, hsL k, b, ()) false) = bO true := fun ho => by
    have hm : amayB (200, hsL k, b, ()) = false := by
      cases e : amayB (200, hsL k, b, ())
      · rfl
      · obtain ⟨m1, m2, m3, m4, m5⟩ := may_iff.1 e
        omega
    unfold slE aputN
    rw [hm]
    show (bif (([] : List UInt8) == []) then gd [aputP (200, hsL k, b, ())] (bO true) else bO false) = _
    rw [show (([] : List UInt8) == []) = true from rfl, xT, gdB hp, xG]
  by_cases h1 : 20000 < n
  · rw [cdT (by omega), no (.inl h1)]
  · rw [cdF (by omega)]
    by_cases h2 : 10 < k
    · rw [cdT (by omega), no (.inr h2)]
    · have hm : amayB (200, hsL k, b, ()) = true := may_iff.2 ⟨by decide, by omega, hh, by omega, fun h => absurd h (by decide)⟩
      have g := get_fwd hm false []
      rw [List.append_nil] at g
      have l2 := (aput_len hm false).2
      have hbn : bndS (aputN (200, hsL k, b, ()) false) = true := decide_eq_true (by omega)
      rw [cdF (by omega), g, gdB hbn, xG]
      show (bif ((0 : Int) == 0) then (bif (((aputN (200, hsL k, b, ()) false).length : Int) == ((aputN (200, hsL k, b, ()) false).length : Int)) then (bif eqAns (200, hsL k, b, ()) (200, hsL k, b, ()) then gd [ansB (200, hsL k, b, ())] (bO true) else gd [ansB (200, hsL k, b, ())] (bO false)) else bO false) else bO false) = _
      rw [show ((0 : Int) == 0) = true from rfl, xT, beq_self_eq_true, xT, eqAns_refl, xT, gdB (may_ans hm), xG]
end Nice
namespace Go.Proofs.YtnblkjapeiaedaaGreatDoor
open Go Go.Eng Nice Go.RowKit
set_option maxRecDepth 1000000
noncomputable abbrev envSLong := envS [(13, trueS), (16, aputS), (17, amayAS), (22, getSp), (23, eqAS), (34, digitsS)]
abbrev shsl : List (Nat × List (Nat × Sh)) := [(8, [(0, (.one .sym)), (1, (.one .sym)), (2, (.one .sym)), (6, (.one .sym)), (8, (.one (.vec .byte 5))), (36, (.one .sym)), (37, (.one .sym))]), (14, [(0, (.one .sym)), (1, (.one .sym)), (6, (.one .sym)), (10, (.obj [.sym, (.vec (.pair .str (.pair .str .unit)) 61), .sym])), (11, (.one .sym))])]
noncomputable def hsl0 (N : Nat) (n k y : Int) (c : Bool) (l : List UInt8) (m i : Int) : BO := rH Tryz.prog envSLong (shOf shsl) Tryz.f9 [.bool] N 0 [(0, sy (.int .i64 n)), (1, sy (.int .i64 k)), (2, sy (.int .u8 y)), (6, .bool c), (8, dt 10), (36, sy (.int .i64 m)), (37, sy (.int .i64 i))] [.vec .byte l 5]
noncomputable def hsl1 (N : Nat) (n k : Int) (c : Bool) (st : Int) (hs : List HeadD) (b : List UInt8) (i : Int) : BO := rH Tryz.prog envSLong (shOf shsl) Tryz.f9 [.bool] N 1 [(0, sy (.int .i64 n)), (1, sy (.int .i64 k)), (6, .bool c), (10, .pointer (some ⟨11, 0, none⟩)), (11, sy (.int .i64 i))] [.vec (.pair .str (.pair .str .unit)) hs 61, .row [sy (.int .i64 st), dt 10, sy (.string (bs b))] 24 false]
noncomputable def olawSLong (x : DenL [.int .i64, .int .i64, .byte]) : BO := fO Tryz.prog envSLong (shOf shsl) Tryz.f9 [.int .i64, .int .i64, .byte] [.bool] x
theorem elawSLong_g (N : Nat) (n k : Int) (y : UInt8) : fON Tryz.prog envSLong (shOf shsl) Tryz.f9 [.int .i64, .int .i64, .byte] [.bool] N (n, k, y, ()) = slW n k (hsl0 N n k (y.toNat : Int) false (List.replicate n.toNat 0) ((List.replicate n.toNat (0 : UInt8)).length : Int) 0) := by kernel_rfl
theorem olawSLong_g (x : DenL [.int .i64, .int .i64, .byte]) : olawSLong x = fON Tryz.prog envSLong (shOf shsl) Tryz.f9 [.int .i64, .int .i64, .byte] [.bool] heads0 x := rfl
theorem elawSLong_0 (N : Nat) (n k y : Int) (c : Bool) (l : List UInt8) (m i : Int) : hsl0 (N + 1) n k y c l m i = sl0 y l m i (hsl0 N n k y c (l.set i.toNat (UInt8.ofNat y.toNat)) m (i + 1)) (hsl1 N n k c 200 [] l 0) := by kernel_rfl
theorem elawSLong_1 (N : Nat) (n k : Int) (c : Bool) (st : Int) (hs : List HeadD) (b : List UInt8) (i : Int) : hsl1 (N + 1) n k c st hs b i = sl1 n k st hs b i (hsl1 N n k c st (hs ++ [([72], digits i, ())]) b (i + 1)) := by kernel_rfl
theorem sl1_l {n k : Nat} (c : Bool) (b : List UInt8) (hb : b.length = n) (hn : n ≤ 20010) (hk : k ≤ 12) : ∀ (r i N : Nat), k = i + r → r < N → hsl1 N (n : Int) (k : Int) c 200 (hsL i) b (i : Int) = bO true := by
  intro r
  induction r with
  | zero =>
    intro i N hi hN
    obtain ⟨N, rfl⟩ : ∃ m, N = m + 1 := ⟨N - 1, by omega⟩
    obtain rfl : i = k := by omega
    rw [elawSLong_1]
    unfold sl1
    rw [cdF (by omega)]
    exact slF_n b hb hn hk
  | succ r ih =>
    intro i N hi hN
    obtain ⟨N, rfl⟩ : ∃ m, N = m + 1 := ⟨N - 1, by omega⟩
    have this := ih (i + 1) N (by omega) (by omega)
    have hl := hsL_len i
    simp only [Int.natCast_add, Int.natCast_one] at this
    rw [elawSLong_1]
    unfold sl1
    rw [cdT (by omega), gdT (inK_i64.2 ⟨by omega, by omega⟩), gdT (by rw [List.length_singleton]; omega), gdB (by rw [Bool.and_eq_true, decide_eq_true_eq, decide_eq_true_eq]; omega), xG]
    exact this
theorem sl0_l {n k : Nat} (c : Bool) (y : UInt8) (hn : n ≤ 20010) (hk : k ≤ 12) : ∀ (r i N : Nat), n = i + r → 20 + r < N → hsl0 N (n : Int) (k : Int) (y.toNat : Int) c (List.replicate i y ++ List.replicate r 0) (n : Int) (i : Int) = bO true := by
  intro r
  induction r with
  | zero =>
    intro i N hi hN
    obtain ⟨N, rfl⟩ : ∃ m, N = m + 1 := ⟨N - 1, by omega⟩
    rw [elawSLong_0]
    unfold sl0
    rw [cdF (by omega)]
    exact sl1_l c _ (by rw [List.length_append, List.length_replicate, List.length_replicate]; omega) hn hk k 0 N (by omega) (by omega)
  | succ r ih =>
    intro i N hi hN
    obtain ⟨N, rfl⟩ : ∃ m, N = m + 1 := ⟨N - 1, by omega⟩
    have this := ih (i + 1) N (by omega) (by omega)
    have hy := y.toNat_lt
    have hl : (List.replicate i y ++ List.replicate (r + 1) (0 : UInt8)).length = n := by rw [List.length_append, List.length_replicate, List.length_replicate]; omega
    have es : (List.replicate i y ++ List.replicate (r + 1) (0 : UInt8)).set i y = List.replicate (i + 1) y ++ List.replicate r 0 := by
      have h1 := set_mid (List.replicate i y) (List.replicate r (0 : UInt8)) 0 y
      rw [List.length_replicate] at h1
      rw [List.replicate_succ, h1, List.replicate_succ', List.append_assoc]; rfl
    simp only [Int.natCast_add, Int.natCast_one] at this
    rw [elawSLong_0]
    unfold sl0
    rw [cdT (by omega), show (i : Int).toNat = i from rfl, byte_rt, es, gdT (inK_i64.2 ⟨by omega, by omega⟩), gdT (by omega), gdT (inK_u8.2 ⟨by omega, by omega⟩), gdT (by omega), gdT (by omega), xG]
    exact this
theorem lawSLong_m (n k : Int) (y : UInt8) : olawSLong (n, k, y, ()) = some (true, ()) := by
  rw [olawSLong_g, elawSLong_g]
  unfold slW
  by_cases h1 : n < 0
  · rw [cdT h1]; rfl
  by_cases h2 : n > 20010
  · rw [cdF h1, cdT h2]; rfl
  by_cases h3 : k < 0
  · rw [cdF h1, cdF h2, cdT h3]; rfl
  by_cases h4 : k > 12
  · rw [cdF h1, cdF h2, cdF h3, cdT h4]; rfl
  rw [cdF h1, cdF h2, cdF h3, cdF h4, gdT (by omega), gdT (by omega), gdT rfl, xG]
  obtain ⟨n, rfl⟩ : ∃ m : Nat, n = (m : Int) := ⟨n.toNat, by omega⟩
  obtain ⟨k, rfl⟩ : ∃ m : Nat, k = (m : Int) := ⟨k.toNat, by omega⟩
  rw [Int.toNat_natCast, List.length_replicate]
  exact sl0_l false y (by omega) (by omega) n 0 heads0 (by omega) (by unfold heads0; omega)
theorem lawSLong_n (x : DenL [.int .i64, .int .i64, .byte]) : olawSLong x = some (true, ()) := lawSLong_m x.1 x.2.1 x.2.2.1
theorem lawSLong_c : PC 9 (ofO [.int .i64, .int .i64, .byte] [.bool] olawSLong) := (pureO (sh := shOf shsl) (envS_ok (l := [(13, trueS), (16, aputS), (17, amayAS), (22, getSp), (23, eqAS), (34, digitsS)]) ⟨begun_c, aput_c, amay_c, get_c, eqa_c, digits_c, trivial⟩) gl_ne Tryz.func9 (by kernel_rfl) (by decide))
theorem lawSLong_run {w : World} (hgl : GlW glC w) {args : Array Value} {x : DenL [.int .i64, .int .i64, .byte]} (hx : RdAll (fzW w) [.int .i64, .int .i64, .byte] x args.toList) (hb : BdL [.int .i64, .int .i64, .byte] x) : Calls Tryz.prog 9 args w fun e w' => e = .returned (.bool true) ∧ Same w w' :=
  law_calls lawSLong_c (fun x _ => by
    have := lawSLong_n x
    exact ⟨by show (olawSLong x).isSome = true; rw [this]; rfl, by show (olawSLong x).getD _ = _; rw [this]; rfl⟩) hgl hx hb
end Go.Proofs.YtnblkjapeiaedaaGreatDoor
