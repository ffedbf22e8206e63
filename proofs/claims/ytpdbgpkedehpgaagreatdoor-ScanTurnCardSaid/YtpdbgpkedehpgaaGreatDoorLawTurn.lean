/-
  armariumlaw15.ScanTurn: the plain law and the contract of the function. No condition.
-/
import Derived.Test.YtpdbgpkedehpgaaGreatDoorLineR
namespace Go.Proofs.YtpdbgpkedehpgaaGreatDoor
open Go Go.Eng Nice
set_option maxRecDepth 1000000
abbrev shlawTurn : List (Nat × List (Nat × Sh)) := []
noncomputable def olawTurn (x : DenL [ReqT, .int .i64, .byte, .int .i64]) : Option (DenL [.bool]) := fO Tryz.prog (envS [(21, trueS), (22, lineRS), (23, sameTS)]) (shOf shlawTurn) Tryz.f5 [ReqT, .int .i64, .byte, .int .i64] [.bool] x
theorem elawTurn_g (N : Nat) (r : Ty.Den ReqT) (a : Int) (c : UInt8) (h : Int) : fON Tryz.prog (envS [(21, trueS), (22, lineRS), (23, sameTS)]) (shOf shlawTurn) Tryz.f5 [ReqT, .int .i64, .byte, .int .i64] [.bool] N (r, a, c, h, ()) =
  (gd [lineRP r] (bif decide (a < (0 : Int)) then
 (gd [smP (lineRN r) []] (some (true, ())))
  else
 (bif (↑(lineRN r).length : Int) == (0 : Int) then
 (gd [smP (lineRN r) []] (some (true, ())))
 else
 (gd [decide ((a.tmod (↑(lineRN r).length : Int)).toNat < (lineRN r).length), decide (inK IntKind.u8 (IntKind.u8.wrap (↑(Nat.bitwise bne ((↑(UInt8.toNat ((lineRN r).getD (a.tmod (↑(lineRN r).length : Int)).toNat Ty.byte.dflt)) : Int) % (256 : Int)).toNat ((↑c.toNat : Int) % (256 : Int)).toNat) : Int))), decide ((0 : Int) ≤ a.tmod (↑(lineRN r).length : Int)), decide (a.tmod (↑(lineRN r).length : Int) < (↑(lineRN r).length : Int)), decide ((a.tmod (↑(lineRN r).length : Int)).toNat < (lineRN r).length), decide ((0 : Int) ≤ a.tmod (↑(lineRN r).length : Int)), decide (a.tmod (↑(lineRN r).length : Int) < (↑(lineRN r).length : Int)), decide ((↑(lineRN r).length : Int) ≠ (0 : Int))] (bif IntKind.i64.wrap (↑(Nat.bitwise and (h % (18446744073709551616 : Int)).toNat 3) : Int) == (1 : Int) then
 (gd [smP (List.take (a.tmod (↑(lineRN r).length : Int)).toNat (lineRN r) ++ List.drop (a.tmod (↑(lineRN r).length : Int) + (1 : Int)).toNat (lineRN r)) [], decide ((List.take (a.tmod (↑(lineRN r).length : Int)).toNat (lineRN r)).length + (List.drop (a.tmod (↑(lineRN r).length : Int) + (1 : Int)).toNat (lineRN r)).length ≤ 1099511627776), decide ((0 : Int) ≤ a.tmod (↑(lineRN r).length : Int) + (1 : Int)), decide (a.tmod (↑(lineRN r).length : Int) + (1 : Int) ≤ (↑(lineRN r).length : Int)), decide (inK IntKind.i64 (a.tmod (↑(lineRN r).length : Int) + (1 : Int))), decide ((0 : Int) ≤ a.tmod (↑(lineRN r).length : Int)), decide (a.tmod (↑(lineRN r).length : Int) ≤ (↑(lineRN r).length : Int))] (some (true, ())))
 else
 (bif IntKind.i64.wrap (↑(Nat.bitwise and (h % (18446744073709551616 : Int)).toNat 3) : Int) == (2 : Int) then
 (gd [smP (List.take (a.tmod (↑(lineRN r).length : Int)).toNat (lineRN r) ++ [UInt8.ofNat (↑c.toNat : Int).toNat] ++ List.drop (a.tmod (↑(lineRN r).length : Int)).toNat (lineRN r)) [], decide ((List.take (a.tmod (↑(lineRN r).length : Int)).toNat (lineRN r) ++ [UInt8.ofNat (↑c.toNat : Int).toNat]).length + (List.drop (a.tmod (↑(lineRN r).length : Int)).toNat (lineRN r)).length ≤ 1099511627776), decide ((0 : Int) ≤ a.tmod (↑(lineRN r).length : Int)), decide (a.tmod (↑(lineRN r).length : Int) ≤ (↑(lineRN r).length : Int)), decide ((List.take (a.tmod (↑(lineRN r).length : Int)).toNat (lineRN r)).length + [UInt8.ofNat (↑c.toNat : Int).toNat].length ≤ 1099511627776), decide ((0 : Int) ≤ a.tmod (↑(lineRN r).length : Int)), decide (a.tmod (↑(lineRN r).length : Int) ≤ (↑(lineRN r).length : Int))] (some (true, ())))
 else
 (bif IntKind.i64.wrap (↑(Nat.bitwise and (h % (18446744073709551616 : Int)).toNat 3) : Int) == (3 : Int) then
 (gd [smP (List.take (a.tmod (↑(lineRN r).length : Int)).toNat (lineRN r)) [], decide ((0 : Int) ≤ a.tmod (↑(lineRN r).length : Int)), decide (a.tmod (↑(lineRN r).length : Int) ≤ (↑(lineRN r).length : Int))] (some (true, ())))
 else
 (gd [smP ((lineRN r).set (a.tmod (↑(lineRN r).length : Int)).toNat (UInt8.ofNat (IntKind.u8.wrap (↑(Nat.bitwise bne ((↑(UInt8.toNat ((lineRN r).getD (a.tmod (↑(lineRN r).length : Int)).toNat Ty.byte.dflt)) : Int) % (256 : Int)).toNat ((↑c.toNat : Int) % (256 : Int)).toNat) : Int)).toNat)) []] (some (true, ())))))))))) := by kernel_rfl
theorem olawTurn_g (x : DenL [ReqT, .int .i64, .byte, .int .i64]) : olawTurn x = fON Tryz.prog (envS [(21, trueS), (22, lineRS), (23, sameTS)]) (shOf shlawTurn) Tryz.f5 [ReqT, .int .i64, .byte, .int .i64] [.bool] heads0 x := rfl

theorem lawTurn_m (r : ReqD) (a : Int) (c : UInt8) (h : Int) : olawTurn (r, a, c, h, ()) = some (true, ()) := by
  have hc0 : ([] : List Int).length ≤ 140737488355328 := by decide
  obtain ⟨l1, l2⟩ := lineR_ok r
  rw [olawTurn_g, elawTurn_g, gdB l1, gN]
  generalize lineRN r = L at l2 ⊢
  have s0 : smP L [] = true := smP_ok (by omega) hc0
  by_cases ha : a < 0
  · rw [cdT ha, gdB s0, gN]
  rw [cdF ha]
  by_cases hl : (L.length : Int) = 0
  · rw [ceT hl, gdB s0, gN]
  rw [ceF hl]
  have k1 := Int.tmod_nonneg (a := a) (L.length : Int) (by omega)
  have k2 := Int.tmod_lt_of_pos a (show (0 : Int) < (L.length : Int) by omega)
  generalize a.tmod (L.length : Int) = K at k1 k2 ⊢
  obtain ⟨k, rfl⟩ := Int.eq_ofNat_of_zero_le k1
  have w8 : ∀ v : Int, inK .u8 (IntKind.u8.wrap v) := fun v => inK_u8.2 ⟨by rw [wrap_u8]; omega, by rw [wrap_u8]; omega⟩
  have e1 : (List.take k L).length ≤ 3000 := by rw [List.length_take]; omega
  have e2 : (List.drop k L).length ≤ 3000 := by rw [List.length_drop]; omega
  have e3 : (List.drop (k + 1) L).length ≤ 3000 := by rw [List.length_drop]; omega
  have tk : ((k : Int)).toNat = k := rfl
  have tk1 : ((k : Int) + 1).toNat = k + 1 := rfl
  rw [tk, tk1]
  rw [gdT (by omega), gdT (w8 _), gdT (by omega), gdT (by omega), gdT (by omega), gdT (by omega), gdT (by omega), gdT (by omega), gN]
  generalize IntKind.i64.wrap (↑(Nat.bitwise and (h % (18446744073709551616 : Int)).toNat 3) : Int) = H
  by_cases h1 : H = 1
  · rw [ceT h1, gdB (smP_ok (by simp only [List.length_append]; omega) hc0), gdT (by omega), gdT (by omega), gdT (by omega), gdT (inK_i64.2 ⟨by omega, by omega⟩), gdT (by omega), gdT (by omega), gN]
  rw [ceF h1]
  by_cases h2 : H = 2
  · rw [ceT h2, gdB (smP_ok (by simp only [List.length_append, List.length_singleton]; omega) hc0), gdT (by simp only [List.length_append, List.length_singleton]; omega), gdT (by omega), gdT (by omega), gdT (by simp only [List.length_singleton]; omega), gdT (by omega), gdT (by omega), gN]
  rw [ceF h2]
  by_cases h3 : H = 3
  · rw [ceT h3, gdB (smP_ok (by omega) hc0), gdT (by omega), gdT (by omega), gN]
  rw [ceF h3, gdB (smP_ok (by rw [List.length_set]; omega) hc0), gN]
theorem lawTurn_n (x : DenL [ReqT, .int .i64, .byte, .int .i64]) (hb : BdL [ReqT, .int .i64, .byte, .int .i64] x) : olawTurn x = some (true, ()) := by
  obtain ⟨r, a, c, h, ⟨⟩⟩ := x
  exact lawTurn_m r a c h
theorem lawTurn_c : PC 5 (ofO [ReqT, .int .i64, .byte, .int .i64] [.bool] olawTurn) := (pureO (envS_ok (l := [(21, trueS), (22, lineRS), (23, sameTS)]) ⟨begun_c, line22_c, same_c, trivial⟩) gl_ne Tryz.func5 (by kernel_rfl) (by decide))
theorem lawTurn_run {w : World} (hgl : GlW glC w) {args : Array Value} {x : DenL [ReqT, .int .i64, .byte, .int .i64]} (hx : RdAll (fzW w) [ReqT, .int .i64, .byte, .int .i64] x args.toList) (hb : BdL [ReqT, .int .i64, .byte, .int .i64] x) : Calls Tryz.prog 5 args w fun e w' => e = .returned (.bool true) ∧ Same w w' :=
  law_calls lawTurn_c (fun x hb => by
    have := lawTurn_n x hb
    exact ⟨by show (olawTurn x).isSome = true; rw [this]; rfl, by show (olawTurn x).getD _ = _; rw [this]; rfl⟩) hgl hx hb
end Go.Proofs.YtpdbgpkedehpgaaGreatDoor
