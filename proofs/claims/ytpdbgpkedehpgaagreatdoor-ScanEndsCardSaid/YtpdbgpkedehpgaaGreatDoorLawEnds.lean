/-
  armariumlaw15.ScanEnds: the plain law and the contract of the function. No condition.
-/
import Derived.Test.YtpdbgpkedehpgaaGreatDoorLawB
namespace Go.Proofs.YtpdbgpkedehpgaaGreatDoor
open Go Go.Eng Nice
set_option maxRecDepth 1000000
abbrev shlawEnds : List (Nat × List (Nat × Sh)) := []
noncomputable def olawEnds (x : DenL [.int .i64, .int .i64]) : Option (DenL [.bool]) := fO Tryz.prog (envS [(21, trueS), (23, sameTS)]) (shOf shlawEnds) Tryz.f16 [.int .i64, .int .i64] [.bool] x

def tE : List UInt8 := [71, 69, 84, 32, 47, 112, 32, 72, 84, 84, 80, 47, 49, 46, 49, 13, 10, 65, 58, 32, 98, 13, 10, 13, 10]
def endsF (k j : Int) (b3 : Bool) : Option (Bool × Unit) :=
 (bif j == (0 : Int) then
 (gd [b3] (bif decide (k < (25 : Int)) then
 (bif (↑(tE.getD (k).toNat 0).toNat : Int) == (13 : Int) then
 (gd [smP (List.take (k).toNat tE ++ [13] ++ List.drop (k + (1 : Int)).toNat tE) [], smP (List.take (k).toNat tE ++ [13] ++ List.drop (k).toNat tE) [], decide ((List.take (k).toNat tE ++ [13]).length + (List.drop (k).toNat tE).length ≤ 1099511627776), decide ((0 : Int) ≤ k), decide (k ≤ (25 : Int)), decide ((List.take (k).toNat tE).length + 1 ≤ 1099511627776), decide ((0 : Int) ≤ k), decide (k ≤ (25 : Int)), decide ((List.take (k).toNat tE ++ [13]).length + (List.drop (k + (1 : Int)).toNat tE).length ≤ 1099511627776), decide ((0 : Int) ≤ k + (1 : Int)), decide (k + (1 : Int) ≤ (25 : Int)), decide (inK IntKind.i64 (k + (1 : Int))), decide ((List.take (k).toNat tE).length + 1 ≤ 1099511627776), decide ((0 : Int) ≤ k), decide (k ≤ (25 : Int)), decide ((0 : Int) ≤ k), decide (k < (25 : Int))] (some (true, ())))
 else
 (bif (↑(tE.getD (k).toNat 0).toNat : Int) == (10 : Int) then
 (gd [smP (List.take (k).toNat tE ++ [13] ++ List.drop (k + (1 : Int)).toNat tE) [], smP (List.take (k).toNat tE ++ [13] ++ List.drop (k).toNat tE) [], decide ((List.take (k).toNat tE ++ [13]).length + (List.drop (k).toNat tE).length ≤ 1099511627776), decide ((0 : Int) ≤ k), decide (k ≤ (25 : Int)), decide ((List.take (k).toNat tE).length + 1 ≤ 1099511627776), decide ((0 : Int) ≤ k), decide (k ≤ (25 : Int)), decide ((List.take (k).toNat tE ++ [13]).length + (List.drop (k + (1 : Int)).toNat tE).length ≤ 1099511627776), decide ((0 : Int) ≤ k + (1 : Int)), decide (k + (1 : Int) ≤ (25 : Int)), decide (inK IntKind.i64 (k + (1 : Int))), decide ((List.take (k).toNat tE).length + 1 ≤ 1099511627776), decide ((0 : Int) ≤ k), decide (k ≤ (25 : Int)), decide ((0 : Int) ≤ k), decide (k < (25 : Int)), decide ((0 : Int) ≤ k), decide (k < (25 : Int))] (some (true, ())))
 else
 (gd [smP tE [], smP (List.take (k).toNat tE ++ [13] ++ List.drop (k).toNat tE) [], decide ((List.take (k).toNat tE ++ [13]).length + (List.drop (k).toNat tE).length ≤ 1099511627776), decide ((0 : Int) ≤ k), decide (k ≤ (25 : Int)), decide ((List.take (k).toNat tE).length + 1 ≤ 1099511627776), decide ((0 : Int) ≤ k), decide (k ≤ (25 : Int)), decide ((0 : Int) ≤ k), decide (k < (25 : Int)), decide ((0 : Int) ≤ k), decide (k < (25 : Int))] (some (true, ())))))
 else
 (gd [smP tE [], smP (List.take (k).toNat tE ++ [13] ++ List.drop (k).toNat tE) [], decide ((List.take (k).toNat tE ++ [13]).length + (List.drop (k).toNat tE).length ≤ 1099511627776), decide ((0 : Int) ≤ k), decide (k ≤ (25 : Int)), decide ((List.take (k).toNat tE).length + 1 ≤ 1099511627776), decide ((0 : Int) ≤ k), decide (k ≤ (25 : Int))] (some (true, ())))))
  else
 (bif j == (1 : Int) then
 (gd [b3] (bif decide (k < (25 : Int)) then
 (bif (↑(tE.getD (k).toNat 0).toNat : Int) == (13 : Int) then
 (gd [smP (List.take (k).toNat tE ++ [10] ++ List.drop (k + (1 : Int)).toNat tE) [], smP (List.take (k).toNat tE ++ [10] ++ List.drop (k).toNat tE) [], decide ((List.take (k).toNat tE ++ [10]).length + (List.drop (k).toNat tE).length ≤ 1099511627776), decide ((0 : Int) ≤ k), decide (k ≤ (25 : Int)), decide ((List.take (k).toNat tE).length + 1 ≤ 1099511627776), decide ((0 : Int) ≤ k), decide (k ≤ (25 : Int)), decide ((List.take (k).toNat tE ++ [10]).length + (List.drop (k + (1 : Int)).toNat tE).length ≤ 1099511627776), decide ((0 : Int) ≤ k + (1 : Int)), decide (k + (1 : Int) ≤ (25 : Int)), decide (inK IntKind.i64 (k + (1 : Int))), decide ((List.take (k).toNat tE).length + 1 ≤ 1099511627776), decide ((0 : Int) ≤ k), decide (k ≤ (25 : Int)), decide ((0 : Int) ≤ k), decide (k < (25 : Int))] (some (true, ())))
 else
 (bif (↑(tE.getD (k).toNat 0).toNat : Int) == (10 : Int) then
 (gd [smP (List.take (k).toNat tE ++ [10] ++ List.drop (k + (1 : Int)).toNat tE) [], smP (List.take (k).toNat tE ++ [10] ++ List.drop (k).toNat tE) [], decide ((List.take (k).toNat tE ++ [10]).length + (List.drop (k).toNat tE).length ≤ 1099511627776), decide ((0 : Int) ≤ k), decide (k ≤ (25 : Int)), decide ((List.take (k).toNat tE).length + 1 ≤ 1099511627776), decide ((0 : Int) ≤ k), decide (k ≤ (25 : Int)), decide ((List.take (k).toNat tE ++ [10]).length + (List.drop (k + (1 : Int)).toNat tE).length ≤ 1099511627776), decide ((0 : Int) ≤ k + (1 : Int)), decide (k + (1 : Int) ≤ (25 : Int)), decide (inK IntKind.i64 (k + (1 : Int))), decide ((List.take (k).toNat tE).length + 1 ≤ 1099511627776), decide ((0 : Int) ≤ k), decide (k ≤ (25 : Int)), decide ((0 : Int) ≤ k), decide (k < (25 : Int)), decide ((0 : Int) ≤ k), decide (k < (25 : Int))] (some (true, ())))
 else
 (gd [smP tE [], smP (List.take (k).toNat tE ++ [10] ++ List.drop (k).toNat tE) [], decide ((List.take (k).toNat tE ++ [10]).length + (List.drop (k).toNat tE).length ≤ 1099511627776), decide ((0 : Int) ≤ k), decide (k ≤ (25 : Int)), decide ((List.take (k).toNat tE).length + 1 ≤ 1099511627776), decide ((0 : Int) ≤ k), decide (k ≤ (25 : Int)), decide ((0 : Int) ≤ k), decide (k < (25 : Int)), decide ((0 : Int) ≤ k), decide (k < (25 : Int))] (some (true, ())))))
 else
 (gd [smP tE [], smP (List.take (k).toNat tE ++ [10] ++ List.drop (k).toNat tE) [], decide ((List.take (k).toNat tE ++ [10]).length + (List.drop (k).toNat tE).length ≤ 1099511627776), decide ((0 : Int) ≤ k), decide (k ≤ (25 : Int)), decide ((List.take (k).toNat tE).length + 1 ≤ 1099511627776), decide ((0 : Int) ≤ k), decide (k ≤ (25 : Int))] (some (true, ())))))
 else
 (bif j == (2 : Int) then
 (gd [b3] (bif decide (k < (25 : Int)) then
 (bif (↑(tE.getD (k).toNat 0).toNat : Int) == (13 : Int) then
 (gd [smP (List.take (k).toNat tE ++ [13, 10] ++ List.drop (k + (1 : Int)).toNat tE) [], smP (List.take (k).toNat tE ++ [13, 10] ++ List.drop (k).toNat tE) [], decide ((List.take (k).toNat tE ++ [13, 10]).length + (List.drop (k).toNat tE).length ≤ 1099511627776), decide ((0 : Int) ≤ k), decide (k ≤ (25 : Int)), decide ((List.take (k).toNat tE).length + 2 ≤ 1099511627776), decide ((0 : Int) ≤ k), decide (k ≤ (25 : Int)), decide ((List.take (k).toNat tE ++ [13, 10]).length + (List.drop (k + (1 : Int)).toNat tE).length ≤ 1099511627776), decide ((0 : Int) ≤ k + (1 : Int)), decide (k + (1 : Int) ≤ (25 : Int)), decide (inK IntKind.i64 (k + (1 : Int))), decide ((List.take (k).toNat tE).length + 2 ≤ 1099511627776), decide ((0 : Int) ≤ k), decide (k ≤ (25 : Int)), decide ((0 : Int) ≤ k), decide (k < (25 : Int))] (some (true, ())))
 else
 (bif (↑(tE.getD (k).toNat 0).toNat : Int) == (10 : Int) then
 (gd [smP (List.take (k).toNat tE ++ [13, 10] ++ List.drop (k + (1 : Int)).toNat tE) [], smP (List.take (k).toNat tE ++ [13, 10] ++ List.drop (k).toNat tE) [], decide ((List.take (k).toNat tE ++ [13, 10]).length + (List.drop (k).toNat tE).length ≤ 1099511627776), decide ((0 : Int) ≤ k), decide (k ≤ (25 : Int)), decide ((List.take (k).toNat tE).length + 2 ≤ 1099511627776), decide ((0 : Int) ≤ k), decide (k ≤ (25 : Int)), decide ((List.take (k).toNat tE ++ [13, 10]).length + (List.drop (k + (1 : Int)).toNat tE).length ≤ 1099511627776), decide ((0 : Int) ≤ k + (1 : Int)), decide (k + (1 : Int) ≤ (25 : Int)), decide (inK IntKind.i64 (k + (1 : Int))), decide ((List.take (k).toNat tE).length + 2 ≤ 1099511627776), decide ((0 : Int) ≤ k), decide (k ≤ (25 : Int)), decide ((0 : Int) ≤ k), decide (k < (25 : Int)), decide ((0 : Int) ≤ k), decide (k < (25 : Int))] (some (true, ())))
 else
 (gd [smP tE [], smP (List.take (k).toNat tE ++ [13, 10] ++ List.drop (k).toNat tE) [], decide ((List.take (k).toNat tE ++ [13, 10]).length + (List.drop (k).toNat tE).length ≤ 1099511627776), decide ((0 : Int) ≤ k), decide (k ≤ (25 : Int)), decide ((List.take (k).toNat tE).length + 2 ≤ 1099511627776), decide ((0 : Int) ≤ k), decide (k ≤ (25 : Int)), decide ((0 : Int) ≤ k), decide (k < (25 : Int)), decide ((0 : Int) ≤ k), decide (k < (25 : Int))] (some (true, ())))))
 else
 (gd [smP tE [], smP (List.take (k).toNat tE ++ [13, 10] ++ List.drop (k).toNat tE) [], decide ((List.take (k).toNat tE ++ [13, 10]).length + (List.drop (k).toNat tE).length ≤ 1099511627776), decide ((0 : Int) ≤ k), decide (k ≤ (25 : Int)), decide ((List.take (k).toNat tE).length + 2 ≤ 1099511627776), decide ((0 : Int) ≤ k), decide (k ≤ (25 : Int))] (some (true, ())))))
 else
 (bif j == (3 : Int) then
 (gd [b3] (bif decide (k < (25 : Int)) then
 (bif (↑(tE.getD (k).toNat 0).toNat : Int) == (13 : Int) then
 (gd [smP (List.take (k).toNat tE ++ [10, 13] ++ List.drop (k + (1 : Int)).toNat tE) [], smP (List.take (k).toNat tE ++ [10, 13] ++ List.drop (k).toNat tE) [], decide ((List.take (k).toNat tE ++ [10, 13]).length + (List.drop (k).toNat tE).length ≤ 1099511627776), decide ((0 : Int) ≤ k), decide (k ≤ (25 : Int)), decide ((List.take (k).toNat tE).length + 2 ≤ 1099511627776), decide ((0 : Int) ≤ k), decide (k ≤ (25 : Int)), decide ((List.take (k).toNat tE ++ [10, 13]).length + (List.drop (k + (1 : Int)).toNat tE).length ≤ 1099511627776), decide ((0 : Int) ≤ k + (1 : Int)), decide (k + (1 : Int) ≤ (25 : Int)), decide (inK IntKind.i64 (k + (1 : Int))), decide ((List.take (k).toNat tE).length + 2 ≤ 1099511627776), decide ((0 : Int) ≤ k), decide (k ≤ (25 : Int)), decide ((0 : Int) ≤ k), decide (k < (25 : Int))] (some (true, ())))
 else
 (bif (↑(tE.getD (k).toNat 0).toNat : Int) == (10 : Int) then
 (gd [smP (List.take (k).toNat tE ++ [10, 13] ++ List.drop (k + (1 : Int)).toNat tE) [], smP (List.take (k).toNat tE ++ [10, 13] ++ List.drop (k).toNat tE) [], decide ((List.take (k).toNat tE ++ [10, 13]).length + (List.drop (k).toNat tE).length ≤ 1099511627776), decide ((0 : Int) ≤ k), decide (k ≤ (25 : Int)), decide ((List.take (k).toNat tE).length + 2 ≤ 1099511627776), decide ((0 : Int) ≤ k), decide (k ≤ (25 : Int)), decide ((List.take (k).toNat tE ++ [10, 13]).length + (List.drop (k + (1 : Int)).toNat tE).length ≤ 1099511627776), decide ((0 : Int) ≤ k + (1 : Int)), decide (k + (1 : Int) ≤ (25 : Int)), decide (inK IntKind.i64 (k + (1 : Int))), decide ((List.take (k).toNat tE).length + 2 ≤ 1099511627776), decide ((0 : Int) ≤ k), decide (k ≤ (25 : Int)), decide ((0 : Int) ≤ k), decide (k < (25 : Int)), decide ((0 : Int) ≤ k), decide (k < (25 : Int))] (some (true, ())))
 else
 (gd [smP tE [], smP (List.take (k).toNat tE ++ [10, 13] ++ List.drop (k).toNat tE) [], decide ((List.take (k).toNat tE ++ [10, 13]).length + (List.drop (k).toNat tE).length ≤ 1099511627776), decide ((0 : Int) ≤ k), decide (k ≤ (25 : Int)), decide ((List.take (k).toNat tE).length + 2 ≤ 1099511627776), decide ((0 : Int) ≤ k), decide (k ≤ (25 : Int)), decide ((0 : Int) ≤ k), decide (k < (25 : Int)), decide ((0 : Int) ≤ k), decide (k < (25 : Int))] (some (true, ())))))
 else
 (gd [smP tE [], smP (List.take (k).toNat tE ++ [10, 13] ++ List.drop (k).toNat tE) [], decide ((List.take (k).toNat tE ++ [10, 13]).length + (List.drop (k).toNat tE).length ≤ 1099511627776), decide ((0 : Int) ≤ k), decide (k ≤ (25 : Int)), decide ((List.take (k).toNat tE).length + 2 ≤ 1099511627776), decide ((0 : Int) ≤ k), decide (k ≤ (25 : Int))] (some (true, ())))))
 else
 (gd [b3, j == (4 : Int)] (bif decide (k < (25 : Int)) then
 (bif (↑(tE.getD (k).toNat 0).toNat : Int) == (13 : Int) then
 (gd [smP (List.take (k).toNat tE ++ [] ++ List.drop (k + (1 : Int)).toNat tE) [], smP (List.take (k).toNat tE ++ [] ++ List.drop (k).toNat tE) [], decide ((List.take (k).toNat tE ++ []).length + (List.drop (k).toNat tE).length ≤ 1099511627776), decide ((0 : Int) ≤ k), decide (k ≤ (25 : Int)), decide ((List.take (k).toNat tE).length + 0 ≤ 1099511627776), decide ((0 : Int) ≤ k), decide (k ≤ (25 : Int)), decide ((List.take (k).toNat tE ++ []).length + (List.drop (k + (1 : Int)).toNat tE).length ≤ 1099511627776), decide ((0 : Int) ≤ k + (1 : Int)), decide (k + (1 : Int) ≤ (25 : Int)), decide (inK IntKind.i64 (k + (1 : Int))), decide ((List.take (k).toNat tE).length + 0 ≤ 1099511627776), decide ((0 : Int) ≤ k), decide (k ≤ (25 : Int)), decide ((0 : Int) ≤ k), decide (k < (25 : Int))] (some (true, ())))
 else
 (bif (↑(tE.getD (k).toNat 0).toNat : Int) == (10 : Int) then
 (gd [smP (List.take (k).toNat tE ++ [] ++ List.drop (k + (1 : Int)).toNat tE) [], smP (List.take (k).toNat tE ++ [] ++ List.drop (k).toNat tE) [], decide ((List.take (k).toNat tE ++ []).length + (List.drop (k).toNat tE).length ≤ 1099511627776), decide ((0 : Int) ≤ k), decide (k ≤ (25 : Int)), decide ((List.take (k).toNat tE).length + 0 ≤ 1099511627776), decide ((0 : Int) ≤ k), decide (k ≤ (25 : Int)), decide ((List.take (k).toNat tE ++ []).length + (List.drop (k + (1 : Int)).toNat tE).length ≤ 1099511627776), decide ((0 : Int) ≤ k + (1 : Int)), decide (k + (1 : Int) ≤ (25 : Int)), decide (inK IntKind.i64 (k + (1 : Int))), decide ((List.take (k).toNat tE).length + 0 ≤ 1099511627776), decide ((0 : Int) ≤ k), decide (k ≤ (25 : Int)), decide ((0 : Int) ≤ k), decide (k < (25 : Int)), decide ((0 : Int) ≤ k), decide (k < (25 : Int))] (some (true, ())))
 else
 (gd [smP tE [], smP (List.take (k).toNat tE ++ [] ++ List.drop (k).toNat tE) [], decide ((List.take (k).toNat tE ++ []).length + (List.drop (k).toNat tE).length ≤ 1099511627776), decide ((0 : Int) ≤ k), decide (k ≤ (25 : Int)), decide ((List.take (k).toNat tE).length + 0 ≤ 1099511627776), decide ((0 : Int) ≤ k), decide (k ≤ (25 : Int)), decide ((0 : Int) ≤ k), decide (k < (25 : Int)), decide ((0 : Int) ≤ k), decide (k < (25 : Int))] (some (true, ())))))
 else
 (gd [smP tE [], smP (List.take (k).toNat tE ++ [] ++ List.drop (k).toNat tE) [], decide ((List.take (k).toNat tE ++ []).length + (List.drop (k).toNat tE).length ≤ 1099511627776), decide ((0 : Int) ≤ k), decide (k ≤ (25 : Int)), decide ((List.take (k).toNat tE).length + 0 ≤ 1099511627776), decide ((0 : Int) ≤ k), decide (k ≤ (25 : Int))] (some (true, ())))))))))
theorem elawEnds_g (N : Nat) (a b : Int) : fON Tryz.prog (envS [(21, trueS), (23, sameTS)]) (shOf shlawEnds) Tryz.f16 [.int .i64, .int .i64] [.bool] N (a, b, ()) =
  gd [decide (inK IntKind.i64 (a.tmod 26 + 25 + 1)), decide (inK IntKind.i64 (a.tmod 26 + 25))] (endsF ((a.tmod 26 + 25 + 1).tmod 26) ((b.tmod 5 + 5).tmod 5) (decide (inK IntKind.i64 (b.tmod 5 + 5)))) := by kernel_rfl
theorem olawEnds_g (x : DenL [.int .i64, .int .i64]) : olawEnds x = fON Tryz.prog (envS [(21, trueS), (23, sameTS)]) (shOf shlawEnds) Tryz.f16 [.int .i64, .int .i64] [.bool] heads0 x := rfl

theorem ends_all : ((List.range 26).all fun k => (List.range 5).all fun j => match endsF (k : Int) (j : Int) true with | some (true, ()) => true | _ => false) = true := by kernel_rfl
theorem ends_ok {k j : Nat} (hk : k < 26) (hj : j < 5) : endsF (k : Int) (j : Int) true = some (true, ()) := by
  have h := List.all_eq_true.1 (List.all_eq_true.1 ends_all k (List.mem_range.2 hk)) j (List.mem_range.2 hj)
  revert h
  cases endsF (k : Int) (j : Int) true with
  | none => intro h; cases h
  | some x =>
    obtain ⟨b, ⟨⟩⟩ := x
    cases b
    · intro h; cases h
    · intro _; rfl
theorem lawEnds_m (a b : Int) : olawEnds (a, b, ()) = some (true, ()) := by
  obtain ⟨j, ej, j4, b1, b2⟩ := five b
  have h1 := Int.tmod_lt_of_pos a (show (0 : Int) < 26 by decide)
  have h2 := Int.lt_tmod_of_pos a (show (0 : Int) < 26 by decide)
  have h3 := Int.tmod_nonneg (a := a.tmod 26 + 25 + 1) 26 (by omega)
  have h4 := Int.tmod_lt_of_pos (a.tmod 26 + 25 + 1) (show (0 : Int) < 26 by decide)
  rw [olawEnds_g, elawEnds_g, gdT (inK_i64.2 ⟨by omega, by omega⟩), gdT (inK_i64.2 ⟨by omega, by omega⟩), gN]
  rw [ej, show decide (inK IntKind.i64 (b.tmod 5 + 5)) = true from decide_eq_true (inK_i64.2 ⟨by omega, by omega⟩)]
  generalize (a.tmod 26 + 25 + 1).tmod 26 = k at h3 h4 ⊢
  obtain ⟨k, rfl⟩ := Int.eq_ofNat_of_zero_le h3
  exact ends_ok (by omega) (by omega)
theorem lawEnds_n (x : DenL [.int .i64, .int .i64]) (hb : BdL [.int .i64, .int .i64] x) : olawEnds x = some (true, ()) := by
  obtain ⟨a, b, ⟨⟩⟩ := x
  exact lawEnds_m a b
theorem lawEnds_c : PC 16 (ofO [.int .i64, .int .i64] [.bool] olawEnds) := (pureO (envS_ok (l := [(21, trueS), (23, sameTS)]) ⟨begun_c, same_c, trivial⟩) gl_ne Tryz.func16 (by kernel_rfl) (by decide))
theorem lawEnds_run {w : World} (hgl : GlW glC w) {args : Array Value} {x : DenL [.int .i64, .int .i64]} (hx : RdAll (fzW w) [.int .i64, .int .i64] x args.toList) (hb : BdL [.int .i64, .int .i64] x) : Calls Tryz.prog 16 args w fun e w' => e = .returned (.bool true) ∧ Same w w' :=
  law_calls lawEnds_c (fun x hb => by
    have := lawEnds_n x hb
    exact ⟨by show (olawEnds x).isSome = true; rw [this]; rfl, by show (olawEnds x).getD _ = _; rw [this]; rfl⟩) hgl hx hb
end Go.Proofs.YtpdbgpkedehpgaaGreatDoor
