/-
  The document's scan, as equations (printed by a program). No condition.
-/
import Derived.Test.YtpdbgpkedehpgaaGreatDoorQS
namespace Go.Proofs.YtpdbgpkedehpgaaGreatDoor
open Go Go.Eng Nice
set_option maxRecDepth 1000000
abbrev shfirst : List (Nat × List (Nat × Sh)) := [(3, [(0, (.one .sym)), (2, (.obj [.sym, .sym, .sym, .any, .sym])), (3, (.one .sym)), (4, (.one .sym)), (5, (.obj [.sym, .sym, .sym, .any, .sym])), (6, (.one .sym))]), (13, [(0, (.one .sym)), (2, (.obj [.sym, .sym, .sym, .any, .sym])), (3, (.one .sym)), (4, (.one .sym)), (5, (.obj [.sym, .sym, .sym, .any, .sym])), (6, (.one .sym)), (7, (.one .sym)), (8, (.one .sym))]), (25, [(0, (.one .sym)), (2, (.obj [.sym, .sym, .sym, .any, .sym])), (3, (.one .sym)), (4, (.one .sym)), (5, (.obj [.sym, .sym, .sym, .any, .sym])), (6, (.one .sym)), (9, (.one .sym)), (10, (.one .sym))])]
noncomputable def hfirst_0 (n : Nat) (t0 : List UInt8) (t2_0 : List UInt8) (t2_1 : List UInt8) (t2_2 : List UInt8) (t2_4 : List UInt8) (t3:Int) (t4 : Bool) (t5_0 : List UInt8) (t5_1 : List UInt8) (t5_2 : List UInt8) (t5_4 : List UInt8) (t6:Int) : Option ((sigFi).root.Den × DenO (sigFi).rs) := rHO Tryz.prog (envS []) (shOf shfirst) Tryz.f68 (sigFi) [] n 0 [(0, sy (.string (bs t0))), (2, .pointer (some ⟨9, 0, none⟩)), (3, sy (.int .i64 t3)), (4, .bool t4), (5, .pointer (some ⟨10, 0, none⟩)), (6, sy (.int .i64 t6))] [.row [sy (.string (bs t2_0)), sy (.string (bs t2_1)), sy (.string (bs t2_2)), Value.slice none 0 0, sy (.string (bs t2_4))] 28 false, .row [sy (.string (bs t5_0)), sy (.string (bs t5_1)), sy (.string (bs t5_2)), Value.slice none 0 0, sy (.string (bs t5_4))] 28 false]
noncomputable def hfirst_1 (n : Nat) (t0 : List UInt8) (t2_0 : List UInt8) (t2_1 : List UInt8) (t2_2 : List UInt8) (t2_4 : List UInt8) (t3:Int) (t4 : Bool) (t5_0 : List UInt8) (t5_1 : List UInt8) (t5_2 : List UInt8) (t5_4 : List UInt8) (t6:Int) (t7:Int) (t8:Int) : Option ((sigFi).root.Den × DenO (sigFi).rs) := rHO Tryz.prog (envS []) (shOf shfirst) Tryz.f68 (sigFi) [] n 1 [(0, sy (.string (bs t0))), (2, .pointer (some ⟨9, 0, none⟩)), (3, sy (.int .i64 t3)), (4, .bool t4), (5, .pointer (some ⟨10, 0, none⟩)), (6, sy (.int .i64 t6)), (7, sy (.int .i64 t7)), (8, sy (.int .i64 t8))] [.row [sy (.string (bs t2_0)), sy (.string (bs t2_1)), sy (.string (bs t2_2)), Value.slice none 0 0, sy (.string (bs t2_4))] 28 false, .row [sy (.string (bs t5_0)), sy (.string (bs t5_1)), sy (.string (bs t5_2)), Value.slice none 0 0, sy (.string (bs t5_4))] 28 false]
noncomputable def hfirst_2 (n : Nat) (t0 : List UInt8) (t2_0 : List UInt8) (t2_1 : List UInt8) (t2_2 : List UInt8) (t2_4 : List UInt8) (t3:Int) (t4 : Bool) (t5_0 : List UInt8) (t5_1 : List UInt8) (t5_2 : List UInt8) (t5_4 : List UInt8) (t6:Int) (t9 : List UInt8) (t10:Int) : Option ((sigFi).root.Den × DenO (sigFi).rs) := rHO Tryz.prog (envS []) (shOf shfirst) Tryz.f68 (sigFi) [] n 2 [(0, sy (.string (bs t0))), (2, .pointer (some ⟨9, 0, none⟩)), (3, sy (.int .i64 t3)), (4, .bool t4), (5, .pointer (some ⟨10, 0, none⟩)), (6, sy (.int .i64 t6)), (9, sy (.string (bs t9))), (10, sy (.int .i64 t10))] [.row [sy (.string (bs t2_0)), sy (.string (bs t2_1)), sy (.string (bs t2_2)), Value.slice none 0 0, sy (.string (bs t2_4))] 28 false, .row [sy (.string (bs t5_0)), sy (.string (bs t5_1)), sy (.string (bs t5_2)), Value.slice none 0 0, sy (.string (bs t5_4))] 28 false]
noncomputable def ofirst (x : (sigFi).root.Den) (y : DenO (sigFi).ts) : Option ((sigFi).root.Den × DenO (sigFi).rs) := fOO Tryz.prog (envS []) (shOf shfirst) Tryz.f68 (sigFi) x y
theorem efirst_g (N : Nat) (s : List UInt8) : fOON Tryz.prog (envS []) (shOf shfirst) Tryz.f68 (sigFi) N () (s, ()) =
  (hfirst_0 N (s) ([]) ([]) ([]) ([]) ((0:Int)) (false) ([]) ([]) ([]) ([]) ((0:Int))) := by kernel_rfl
theorem ofirst_g (x : (sigFi).root.Den) (y : DenO (sigFi).ts) : ofirst x y = fOON Tryz.prog (envS []) (shOf shfirst) Tryz.f68 (sigFi) heads0 x y := rfl
theorem efirst_0 (n : Nat) (t0 : List UInt8) (t2_0 : List UInt8) (t2_1 : List UInt8) (t2_2 : List UInt8) (t2_4 : List UInt8) (t3:Int) (t4 : Bool) (t5_0 : List UInt8) (t5_1 : List UInt8) (t5_2 : List UInt8) (t5_4 : List UInt8) (t6:Int) : hfirst_0 (n + 1) t0 t2_0 t2_1 t2_2 t2_4 t3 t4 t5_0 t5_1 t5_2 t5_4 t6 =
  (bif decide (t6 < (↑t0.length:Int)) then
 (bif decide (t6 < (10:Int)) then
 (bif decide ((↑(t0.getD t6.toNat 0).toNat:Int) ≥ (65:Int)) then
 (bif decide ((↑(t0.getD t6.toNat 0).toNat:Int) ≤ (90:Int)) then
 (gd [decide (inK .i64 (t6 + (1:Int))), decide ((0:Int) ≤ t6), decide (t6 < (↑t0.length:Int)), decide ((0:Int) ≤ t6), decide (t6 < (↑t0.length:Int))] (hfirst_0 n (t0) (t2_0) (t2_1) (t2_2) (t2_4) (t3) (t4) (t5_0) (t5_1) (t5_2) (t5_4) (t6 + (1:Int))))
 else
 (gd [decide ((0:Int) ≤ t6), decide (t6 ≤ (↑t0.length:Int)), decide ((0:Int) ≤ t6), decide (t6 < (↑t0.length:Int)), decide ((0:Int) ≤ t6), decide (t6 < (↑t0.length:Int))] (bif t6 == (↑t0.length:Int) then
 (some ((), (List.take t6.toNat t0, t5_1, t5_2, [], t5_4, ()), t6, false, ()))
 else
 (bif t6 == (0:Int) then
 (some ((), (List.take t6.toNat t0, t5_1, t5_2, [], t5_4, ()), t6, false, ()))
 else
 (bif (↑(t0.getD t6.toNat 0).toNat:Int) != (32:Int) then
 (gd [decide ((0:Int) ≤ t6), decide (t6 < (↑t0.length:Int))] (some ((), (List.take t6.toNat t0, t5_1, t5_2, [], t5_4, ()), t6, false, ())))
 else
 (gd [decide (inK .i64 (t6 + (1:Int))), decide ((0:Int) ≤ t6), decide (t6 < (↑t0.length:Int))] (bif t6 + (1:Int) == (↑t0.length:Int) then
 (some ((), (List.take t6.toNat t0, t5_1, t5_2, [], t5_4, ()), t6 + (1:Int), false, ()))
 else
 (bif (↑(t0.getD (t6 + (1:Int)).toNat 0).toNat:Int) != (47:Int) then
 (gd [decide ((0:Int) ≤ t6 + (1:Int)), decide (t6 + (1:Int) < (↑t0.length:Int))] (some ((), (List.take t6.toNat t0, t5_1, t5_2, [], t5_4, ()), t6 + (1:Int), false, ())))
 else
 (gd [decide ((0:Int) ≤ t6 + (1:Int)), decide (t6 + (1:Int) < (↑t0.length:Int))] (hfirst_1 n (t0) (t2_0) (t2_1) (t2_2) (t2_4) (t3) (t4) (List.take t6.toNat t0) (t5_1) (t5_2) (t5_4) (t6 + (1:Int)) (t6 + (1:Int)) (Int.negSucc 0)))))))))))
 else
 (gd [decide ((0:Int) ≤ t6), decide (t6 ≤ (↑t0.length:Int)), decide ((0:Int) ≤ t6), decide (t6 < (↑t0.length:Int))] (bif t6 == (↑t0.length:Int) then
 (some ((), (List.take t6.toNat t0, t5_1, t5_2, [], t5_4, ()), t6, false, ()))
 else
 (bif t6 == (0:Int) then
 (some ((), (List.take t6.toNat t0, t5_1, t5_2, [], t5_4, ()), t6, false, ()))
 else
 (bif (↑(t0.getD t6.toNat 0).toNat:Int) != (32:Int) then
 (gd [decide ((0:Int) ≤ t6), decide (t6 < (↑t0.length:Int))] (some ((), (List.take t6.toNat t0, t5_1, t5_2, [], t5_4, ()), t6, false, ())))
 else
 (gd [decide (inK .i64 (t6 + (1:Int))), decide ((0:Int) ≤ t6), decide (t6 < (↑t0.length:Int))] (bif t6 + (1:Int) == (↑t0.length:Int) then
 (some ((), (List.take t6.toNat t0, t5_1, t5_2, [], t5_4, ()), t6 + (1:Int), false, ()))
 else
 (bif (↑(t0.getD (t6 + (1:Int)).toNat 0).toNat:Int) != (47:Int) then
 (gd [decide ((0:Int) ≤ t6 + (1:Int)), decide (t6 + (1:Int) < (↑t0.length:Int))] (some ((), (List.take t6.toNat t0, t5_1, t5_2, [], t5_4, ()), t6 + (1:Int), false, ())))
 else
 (gd [decide ((0:Int) ≤ t6 + (1:Int)), decide (t6 + (1:Int) < (↑t0.length:Int))] (hfirst_1 n (t0) (t2_0) (t2_1) (t2_2) (t2_4) (t3) (t4) (List.take t6.toNat t0) (t5_1) (t5_2) (t5_4) (t6 + (1:Int)) (t6 + (1:Int)) (Int.negSucc 0)))))))))))
 else
 (gd [decide ((0:Int) ≤ t6), decide (t6 ≤ (↑t0.length:Int))] (bif t6 == (↑t0.length:Int) then
 (some ((), (List.take t6.toNat t0, t5_1, t5_2, [], t5_4, ()), t6, false, ()))
 else
 (bif t6 == (0:Int) then
 (some ((), (List.take t6.toNat t0, t5_1, t5_2, [], t5_4, ()), t6, false, ()))
 else
 (bif (↑(t0.getD t6.toNat 0).toNat:Int) != (32:Int) then
 (gd [decide ((0:Int) ≤ t6), decide (t6 < (↑t0.length:Int))] (some ((), (List.take t6.toNat t0, t5_1, t5_2, [], t5_4, ()), t6, false, ())))
 else
 (gd [decide (inK .i64 (t6 + (1:Int))), decide ((0:Int) ≤ t6), decide (t6 < (↑t0.length:Int))] (bif t6 + (1:Int) == (↑t0.length:Int) then
 (some ((), (List.take t6.toNat t0, t5_1, t5_2, [], t5_4, ()), t6 + (1:Int), false, ()))
 else
 (bif (↑(t0.getD (t6 + (1:Int)).toNat 0).toNat:Int) != (47:Int) then
 (gd [decide ((0:Int) ≤ t6 + (1:Int)), decide (t6 + (1:Int) < (↑t0.length:Int))] (some ((), (List.take t6.toNat t0, t5_1, t5_2, [], t5_4, ()), t6 + (1:Int), false, ())))
 else
 (gd [decide ((0:Int) ≤ t6 + (1:Int)), decide (t6 + (1:Int) < (↑t0.length:Int))] (hfirst_1 n (t0) (t2_0) (t2_1) (t2_2) (t2_4) (t3) (t4) (List.take t6.toNat t0) (t5_1) (t5_2) (t5_4) (t6 + (1:Int)) (t6 + (1:Int)) (Int.negSucc 0)))))))))))
  else
 (gd [decide ((0:Int) ≤ t6), decide (t6 ≤ (↑t0.length:Int))] (bif t6 == (↑t0.length:Int) then
 (some ((), (List.take t6.toNat t0, t5_1, t5_2, [], t5_4, ()), t6, false, ()))
 else
 (bif t6 == (0:Int) then
 (some ((), (List.take t6.toNat t0, t5_1, t5_2, [], t5_4, ()), t6, false, ()))
 else
 (bif (↑(t0.getD t6.toNat 0).toNat:Int) != (32:Int) then
 (gd [decide ((0:Int) ≤ t6), decide (t6 < (↑t0.length:Int))] (some ((), (List.take t6.toNat t0, t5_1, t5_2, [], t5_4, ()), t6, false, ())))
 else
 (gd [decide (inK .i64 (t6 + (1:Int))), decide ((0:Int) ≤ t6), decide (t6 < (↑t0.length:Int))] (bif t6 + (1:Int) == (↑t0.length:Int) then
 (some ((), (List.take t6.toNat t0, t5_1, t5_2, [], t5_4, ()), t6 + (1:Int), false, ()))
 else
 (bif (↑(t0.getD (t6 + (1:Int)).toNat 0).toNat:Int) != (47:Int) then
 (gd [decide ((0:Int) ≤ t6 + (1:Int)), decide (t6 + (1:Int) < (↑t0.length:Int))] (some ((), (List.take t6.toNat t0, t5_1, t5_2, [], t5_4, ()), t6 + (1:Int), false, ())))
 else
 (gd [decide ((0:Int) ≤ t6 + (1:Int)), decide (t6 + (1:Int) < (↑t0.length:Int))] (hfirst_1 n (t0) (t2_0) (t2_1) (t2_2) (t2_4) (t3) (t4) (List.take t6.toNat t0) (t5_1) (t5_2) (t5_4) (t6 + (1:Int)) (t6 + (1:Int)) (Int.negSucc 0))))))))))) := by kernel_rfl
theorem efirst_1 (n : Nat) (t0 : List UInt8) (t2_0 : List UInt8) (t2_1 : List UInt8) (t2_2 : List UInt8) (t2_4 : List UInt8) (t3:Int) (t4 : Bool) (t5_0 : List UInt8) (t5_1 : List UInt8) (t5_2 : List UInt8) (t5_4 : List UInt8) (t6:Int) (t7:Int) (t8:Int) : hfirst_1 (n + 1) t0 t2_0 t2_1 t2_2 t2_4 t3 t4 t5_0 t5_1 t5_2 t5_4 t6 t7 t8 =
  (bif decide (t6 < (↑t0.length:Int)) then
 (bif decide ((↑(t0.getD t6.toNat 0).toNat:Int) ≥ (33:Int)) then
 (bif decide ((↑(t0.getD t6.toNat 0).toNat:Int) ≤ (126:Int)) then
 (bif (↑(t0.getD t6.toNat 0).toNat:Int) != (35:Int) then
 (gd [decide ((0:Int) ≤ t6), decide (t6 < (↑t0.length:Int)), decide ((0:Int) ≤ t6), decide (t6 < (↑t0.length:Int)), decide ((0:Int) ≤ t6), decide (t6 < (↑t0.length:Int))] (bif (↑(t0.getD t6.toNat 0).toNat:Int) == (63:Int) then
 (bif decide (t8 < (0:Int)) then
 (gd [decide (inK .i64 (t6 + (1:Int))), decide ((0:Int) ≤ t6), decide (t6 < (↑t0.length:Int))] (hfirst_1 n (t0) (t2_0) (t2_1) (t2_2) (t2_4) (t3) (t4) (t5_0) (t5_1) (t5_2) (t5_4) (t6 + (1:Int)) (t7) (t6)))
 else
 (gd [decide (inK .i64 (t6 + (1:Int))), decide ((0:Int) ≤ t6), decide (t6 < (↑t0.length:Int))] (hfirst_1 n (t0) (t2_0) (t2_1) (t2_2) (t2_4) (t3) (t4) (t5_0) (t5_1) (t5_2) (t5_4) (t6 + (1:Int)) (t7) (t8))))
 else
 (gd [decide (inK .i64 (t6 + (1:Int))), decide ((0:Int) ≤ t6), decide (t6 < (↑t0.length:Int))] (hfirst_1 n (t0) (t2_0) (t2_1) (t2_2) (t2_4) (t3) (t4) (t5_0) (t5_1) (t5_2) (t5_4) (t6 + (1:Int)) (t7) (t8)))))
 else
 (gd [decide ((0:Int) ≤ t7), decide (t7 ≤ t6), decide (t6 ≤ (↑t0.length:Int)), decide ((0:Int) ≤ t6), decide (t6 < (↑t0.length:Int)), decide ((0:Int) ≤ t6), decide (t6 < (↑t0.length:Int)), decide ((0:Int) ≤ t6), decide (t6 < (↑t0.length:Int))] (bif decide (t8 ≥ (0:Int)) then
 (gd [decide ((0:Int) ≤ t8 + (1:Int)), decide (t8 + (1:Int) ≤ t6), decide (t6 ≤ (↑t0.length:Int)), decide (inK .i64 (t8 + (1:Int))), decide ((0:Int) ≤ t7), decide (t7 ≤ t8), decide (t8 ≤ (↑t0.length:Int))] (bif t6 == (↑t0.length:Int) then
 (some ((), (t5_0, List.drop t7.toNat (List.take t8.toNat t0), List.drop (t8 + (1:Int)).toNat (List.take t6.toNat t0), [], t5_4, ()), t6, false, ()))
 else
 (bif (↑(t0.getD t6.toNat 0).toNat:Int) != (32:Int) then
 (gd [decide ((0:Int) ≤ t6), decide (t6 < (↑t0.length:Int))] (some ((), (t5_0, List.drop t7.toNat (List.take t8.toNat t0), List.drop (t8 + (1:Int)).toNat (List.take t6.toNat t0), [], t5_4, ()), t6, false, ())))
 else
 (gd [decide (inK .i64 (t6 + (1:Int))), decide ((0:Int) ≤ t6), decide (t6 < (↑t0.length:Int))] (hfirst_2 n (t0) (t2_0) (t2_1) (t2_2) (t2_4) (t3) (t4) (t5_0) (List.drop t7.toNat (List.take t8.toNat t0)) (List.drop (t8 + (1:Int)).toNat (List.take t6.toNat t0)) (t5_4) (t6 + (1:Int)) ([72, 84, 84, 80, 47, 49, 46, 49]) ((0:Int)))))))
 else
 (bif t6 == (↑t0.length:Int) then
 (some ((), (t5_0, List.drop t7.toNat (List.take t6.toNat t0), t5_2, [], t5_4, ()), t6, false, ()))
 else
 (bif (↑(t0.getD t6.toNat 0).toNat:Int) != (32:Int) then
 (gd [decide ((0:Int) ≤ t6), decide (t6 < (↑t0.length:Int))] (some ((), (t5_0, List.drop t7.toNat (List.take t6.toNat t0), t5_2, [], t5_4, ()), t6, false, ())))
 else
 (gd [decide (inK .i64 (t6 + (1:Int))), decide ((0:Int) ≤ t6), decide (t6 < (↑t0.length:Int))] (hfirst_2 n (t0) (t2_0) (t2_1) (t2_2) (t2_4) (t3) (t4) (t5_0) (List.drop t7.toNat (List.take t6.toNat t0)) (t5_2) (t5_4) (t6 + (1:Int)) ([72, 84, 84, 80, 47, 49, 46, 49]) ((0:Int)))))))))
 else
 (gd [decide ((0:Int) ≤ t7), decide (t7 ≤ t6), decide (t6 ≤ (↑t0.length:Int)), decide ((0:Int) ≤ t6), decide (t6 < (↑t0.length:Int)), decide ((0:Int) ≤ t6), decide (t6 < (↑t0.length:Int))] (bif decide (t8 ≥ (0:Int)) then
 (gd [decide ((0:Int) ≤ t8 + (1:Int)), decide (t8 + (1:Int) ≤ t6), decide (t6 ≤ (↑t0.length:Int)), decide (inK .i64 (t8 + (1:Int))), decide ((0:Int) ≤ t7), decide (t7 ≤ t8), decide (t8 ≤ (↑t0.length:Int))] (bif t6 == (↑t0.length:Int) then
 (some ((), (t5_0, List.drop t7.toNat (List.take t8.toNat t0), List.drop (t8 + (1:Int)).toNat (List.take t6.toNat t0), [], t5_4, ()), t6, false, ()))
 else
 (bif (↑(t0.getD t6.toNat 0).toNat:Int) != (32:Int) then
 (gd [decide ((0:Int) ≤ t6), decide (t6 < (↑t0.length:Int))] (some ((), (t5_0, List.drop t7.toNat (List.take t8.toNat t0), List.drop (t8 + (1:Int)).toNat (List.take t6.toNat t0), [], t5_4, ()), t6, false, ())))
 else
 (gd [decide (inK .i64 (t6 + (1:Int))), decide ((0:Int) ≤ t6), decide (t6 < (↑t0.length:Int))] (hfirst_2 n (t0) (t2_0) (t2_1) (t2_2) (t2_4) (t3) (t4) (t5_0) (List.drop t7.toNat (List.take t8.toNat t0)) (List.drop (t8 + (1:Int)).toNat (List.take t6.toNat t0)) (t5_4) (t6 + (1:Int)) ([72, 84, 84, 80, 47, 49, 46, 49]) ((0:Int)))))))
 else
 (bif t6 == (↑t0.length:Int) then
 (some ((), (t5_0, List.drop t7.toNat (List.take t6.toNat t0), t5_2, [], t5_4, ()), t6, false, ()))
 else
 (bif (↑(t0.getD t6.toNat 0).toNat:Int) != (32:Int) then
 (gd [decide ((0:Int) ≤ t6), decide (t6 < (↑t0.length:Int))] (some ((), (t5_0, List.drop t7.toNat (List.take t6.toNat t0), t5_2, [], t5_4, ()), t6, false, ())))
 else
 (gd [decide (inK .i64 (t6 + (1:Int))), decide ((0:Int) ≤ t6), decide (t6 < (↑t0.length:Int))] (hfirst_2 n (t0) (t2_0) (t2_1) (t2_2) (t2_4) (t3) (t4) (t5_0) (List.drop t7.toNat (List.take t6.toNat t0)) (t5_2) (t5_4) (t6 + (1:Int)) ([72, 84, 84, 80, 47, 49, 46, 49]) ((0:Int)))))))))
 else
 (gd [decide ((0:Int) ≤ t7), decide (t7 ≤ t6), decide (t6 ≤ (↑t0.length:Int)), decide ((0:Int) ≤ t6), decide (t6 < (↑t0.length:Int))] (bif decide (t8 ≥ (0:Int)) then
 (gd [decide ((0:Int) ≤ t8 + (1:Int)), decide (t8 + (1:Int) ≤ t6), decide (t6 ≤ (↑t0.length:Int)), decide (inK .i64 (t8 + (1:Int))), decide ((0:Int) ≤ t7), decide (t7 ≤ t8), decide (t8 ≤ (↑t0.length:Int))] (bif t6 == (↑t0.length:Int) then
 (some ((), (t5_0, List.drop t7.toNat (List.take t8.toNat t0), List.drop (t8 + (1:Int)).toNat (List.take t6.toNat t0), [], t5_4, ()), t6, false, ()))
 else
 (bif (↑(t0.getD t6.toNat 0).toNat:Int) != (32:Int) then
 (gd [decide ((0:Int) ≤ t6), decide (t6 < (↑t0.length:Int))] (some ((), (t5_0, List.drop t7.toNat (List.take t8.toNat t0), List.drop (t8 + (1:Int)).toNat (List.take t6.toNat t0), [], t5_4, ()), t6, false, ())))
 else
 (gd [decide (inK .i64 (t6 + (1:Int))), decide ((0:Int) ≤ t6), decide (t6 < (↑t0.length:Int))] (hfirst_2 n (t0) (t2_0) (t2_1) (t2_2) (t2_4) (t3) (t4) (t5_0) (List.drop t7.toNat (List.take t8.toNat t0)) (List.drop (t8 + (1:Int)).toNat (List.take t6.toNat t0)) (t5_4) (t6 + (1:Int)) ([72, 84, 84, 80, 47, 49, 46, 49]) ((0:Int)))))))
 else
 (bif t6 == (↑t0.length:Int) then
 (some ((), (t5_0, List.drop t7.toNat (List.take t6.toNat t0), t5_2, [], t5_4, ()), t6, false, ()))
 else
 (bif (↑(t0.getD t6.toNat 0).toNat:Int) != (32:Int) then
 (gd [decide ((0:Int) ≤ t6), decide (t6 < (↑t0.length:Int))] (some ((), (t5_0, List.drop t7.toNat (List.take t6.toNat t0), t5_2, [], t5_4, ()), t6, false, ())))
 else
 (gd [decide (inK .i64 (t6 + (1:Int))), decide ((0:Int) ≤ t6), decide (t6 < (↑t0.length:Int))] (hfirst_2 n (t0) (t2_0) (t2_1) (t2_2) (t2_4) (t3) (t4) (t5_0) (List.drop t7.toNat (List.take t6.toNat t0)) (t5_2) (t5_4) (t6 + (1:Int)) ([72, 84, 84, 80, 47, 49, 46, 49]) ((0:Int)))))))))
  else
 (gd [decide ((0:Int) ≤ t7), decide (t7 ≤ t6), decide (t6 ≤ (↑t0.length:Int))] (bif decide (t8 ≥ (0:Int)) then
 (gd [decide ((0:Int) ≤ t8 + (1:Int)), decide (t8 + (1:Int) ≤ t6), decide (t6 ≤ (↑t0.length:Int)), decide (inK .i64 (t8 + (1:Int))), decide ((0:Int) ≤ t7), decide (t7 ≤ t8), decide (t8 ≤ (↑t0.length:Int))] (bif t6 == (↑t0.length:Int) then
 (some ((), (t5_0, List.drop t7.toNat (List.take t8.toNat t0), List.drop (t8 + (1:Int)).toNat (List.take t6.toNat t0), [], t5_4, ()), t6, false, ()))
 else
 (bif (↑(t0.getD t6.toNat 0).toNat:Int) != (32:Int) then
 (gd [decide ((0:Int) ≤ t6), decide (t6 < (↑t0.length:Int))] (some ((), (t5_0, List.drop t7.toNat (List.take t8.toNat t0), List.drop (t8 + (1:Int)).toNat (List.take t6.toNat t0), [], t5_4, ()), t6, false, ())))
 else
 (gd [decide (inK .i64 (t6 + (1:Int))), decide ((0:Int) ≤ t6), decide (t6 < (↑t0.length:Int))] (hfirst_2 n (t0) (t2_0) (t2_1) (t2_2) (t2_4) (t3) (t4) (t5_0) (List.drop t7.toNat (List.take t8.toNat t0)) (List.drop (t8 + (1:Int)).toNat (List.take t6.toNat t0)) (t5_4) (t6 + (1:Int)) ([72, 84, 84, 80, 47, 49, 46, 49]) ((0:Int)))))))
 else
 (bif t6 == (↑t0.length:Int) then
 (some ((), (t5_0, List.drop t7.toNat (List.take t6.toNat t0), t5_2, [], t5_4, ()), t6, false, ()))
 else
 (bif (↑(t0.getD t6.toNat 0).toNat:Int) != (32:Int) then
 (gd [decide ((0:Int) ≤ t6), decide (t6 < (↑t0.length:Int))] (some ((), (t5_0, List.drop t7.toNat (List.take t6.toNat t0), t5_2, [], t5_4, ()), t6, false, ())))
 else
 (gd [decide (inK .i64 (t6 + (1:Int))), decide ((0:Int) ≤ t6), decide (t6 < (↑t0.length:Int))] (hfirst_2 n (t0) (t2_0) (t2_1) (t2_2) (t2_4) (t3) (t4) (t5_0) (List.drop t7.toNat (List.take t6.toNat t0)) (t5_2) (t5_4) (t6 + (1:Int)) ([72, 84, 84, 80, 47, 49, 46, 49]) ((0:Int))))))))) := by kernel_rfl
theorem efirst_2 (n : Nat) (t0 : List UInt8) (t2_0 : List UInt8) (t2_1 : List UInt8) (t2_2 : List UInt8) (t2_4 : List UInt8) (t3:Int) (t4 : Bool) (t5_0 : List UInt8) (t5_1 : List UInt8) (t5_2 : List UInt8) (t5_4 : List UInt8) (t6:Int) (t9 : List UInt8) (t10:Int) : hfirst_2 (n + 1) t0 t2_0 t2_1 t2_2 t2_4 t3 t4 t5_0 t5_1 t5_2 t5_4 t6 t9 t10 =
  (bif decide (t10 < (↑t9.length:Int)) then
 (bif t6 == (↑t0.length:Int) then
 (some ((), (t5_0, t5_1, t5_2, [], t5_4, ()), t6, false, ()))
 else
 (bif (↑(t0.getD t6.toNat 0).toNat:Int) != (↑(t9.getD t10.toNat 0).toNat:Int) then
 (gd [decide ((0:Int) ≤ t10), decide (t10 < (↑t9.length:Int)), decide ((0:Int) ≤ t6), decide (t6 < (↑t0.length:Int))] (some ((), (t5_0, t5_1, t5_2, [], t5_4, ()), t6, false, ())))
 else
 (gd [decide (inK .i64 (t10 + (1:Int))), decide (inK .i64 (t6 + (1:Int))), decide ((0:Int) ≤ t10), decide (t10 < (↑t9.length:Int)), decide ((0:Int) ≤ t6), decide (t6 < (↑t0.length:Int))] (hfirst_2 n (t0) (t2_0) (t2_1) (t2_2) (t2_4) (t3) (t4) (t5_0) (t5_1) (t5_2) (t5_4) (t6 + (1:Int)) (t9) (t10 + (1:Int))))))
  else
 (bif t6 == (↑t0.length:Int) then
 (some ((), (t5_0, t5_1, t5_2, [], t5_4, ()), t6, true, ()))
 else
 (some ((), (t5_0, t5_1, t5_2, [], t5_4, ()), t6, false, ())))) := by kernel_rfl
noncomputable def firstP : (sigFi).root.Den → DenO (sigFi).ts → Bool := hid fun x y => (ofirst x y).isSome
noncomputable def firstN : (sigFi).root.Den → DenO (sigFi).ts → (sigFi).root.Den × DenO (sigFi).rs := hid fun x y => (ofirst x y).getD ((sigFi).root.dflt, dfltO (sigFi).rs)
theorem first_hid {x : (sigFi).root.Den} {y : DenO (sigFi).ts} {z : (sigFi).root.Den × DenO (sigFi).rs} (h : ofirst x y = some z) : firstP x y = true ∧ firstN x y = z := by
  unfold firstP firstN
  rw [hid_eq, hid_eq]
  simp only [h]
  exact ⟨rfl, rfl⟩
noncomputable def firstS : OSpec := niceO sigFi firstP firstN
abbrev shhead : List (Nat × List (Nat × Sh)) := [(2, [(0, (.one .sym)), (2, (.obj [.sym, .sym])), (3, (.one .sym)), (4, (.one .sym)), (5, (.one .sym))]), (9, [(0, (.one .sym)), (2, (.obj [.sym, .sym])), (3, (.one .sym)), (4, (.one .sym)), (5, (.one .sym)), (6, (.obj [.sym, .sym])), (7, (.one .sym))]), (12, [(0, (.one .sym)), (2, (.obj [.sym, .sym])), (3, (.one .sym)), (4, (.one .sym)), (5, (.one .sym)), (6, (.obj [.sym, .sym])), (7, (.one .sym)), (8, (.one .sym))]), (14, [(0, (.one .sym)), (2, (.obj [.sym, .sym])), (3, (.one .sym)), (4, (.one .sym)), (5, (.one .sym)), (6, (.obj [.sym, .sym])), (7, (.one .sym)), (8, (.one .sym))])]
noncomputable def hhead_0 (n : Nat) (t0 : List UInt8) (t2_0 : List UInt8) (t2_1 : List UInt8) (t3:Int) (t4 : Bool) (t5:Int) : Option (DenL [HeadT, .int .i64, .bool]) := rH Tryz.prog (envS [(106, letS), (66, digS)]) (shOf shhead) Tryz.f69 [HeadT, .int .i64, .bool] n 0 [(0, sy (.string (bs t0))), (2, .pointer (some ⟨9, 0, none⟩)), (3, sy (.int .i64 t3)), (4, .bool t4), (5, sy (.int .i64 t5))] [.row [sy (.string (bs t2_0)), sy (.string (bs t2_1))] 59 false]
noncomputable def hhead_1 (n : Nat) (t0 : List UInt8) (t2_0 : List UInt8) (t2_1 : List UInt8) (t3:Int) (t4 : Bool) (t5:Int) (t6_0 : List UInt8) (t6_1 : List UInt8) (t7:Int) : Option (DenL [HeadT, .int .i64, .bool]) := rH Tryz.prog (envS [(106, letS), (66, digS)]) (shOf shhead) Tryz.f69 [HeadT, .int .i64, .bool] n 1 [(0, sy (.string (bs t0))), (2, .pointer (some ⟨9, 0, none⟩)), (3, sy (.int .i64 t3)), (4, .bool t4), (5, sy (.int .i64 t5)), (6, .pointer (some ⟨10, 0, none⟩)), (7, sy (.int .i64 t7))] [.row [sy (.string (bs t2_0)), sy (.string (bs t2_1))] 59 false, .row [sy (.string (bs t6_0)), sy (.string (bs t6_1))] 59 false]
noncomputable def hhead_2 (n : Nat) (t0 : List UInt8) (t2_0 : List UInt8) (t2_1 : List UInt8) (t3:Int) (t4 : Bool) (t5:Int) (t6_0 : List UInt8) (t6_1 : List UInt8) (t7:Int) (t8:Int) : Option (DenL [HeadT, .int .i64, .bool]) := rH Tryz.prog (envS [(106, letS), (66, digS)]) (shOf shhead) Tryz.f69 [HeadT, .int .i64, .bool] n 2 [(0, sy (.string (bs t0))), (2, .pointer (some ⟨9, 0, none⟩)), (3, sy (.int .i64 t3)), (4, .bool t4), (5, sy (.int .i64 t5)), (6, .pointer (some ⟨10, 0, none⟩)), (7, sy (.int .i64 t7)), (8, sy (.int .i64 t8))] [.row [sy (.string (bs t2_0)), sy (.string (bs t2_1))] 59 false, .row [sy (.string (bs t6_0)), sy (.string (bs t6_1))] 59 false]
noncomputable def hhead_3 (n : Nat) (t0 : List UInt8) (t2_0 : List UInt8) (t2_1 : List UInt8) (t3:Int) (t4 : Bool) (t5:Int) (t6_0 : List UInt8) (t6_1 : List UInt8) (t7:Int) (t8:Int) : Option (DenL [HeadT, .int .i64, .bool]) := rH Tryz.prog (envS [(106, letS), (66, digS)]) (shOf shhead) Tryz.f69 [HeadT, .int .i64, .bool] n 3 [(0, sy (.string (bs t0))), (2, .pointer (some ⟨9, 0, none⟩)), (3, sy (.int .i64 t3)), (4, .bool t4), (5, sy (.int .i64 t5)), (6, .pointer (some ⟨10, 0, none⟩)), (7, sy (.int .i64 t7)), (8, sy (.int .i64 t8))] [.row [sy (.string (bs t2_0)), sy (.string (bs t2_1))] 59 false, .row [sy (.string (bs t6_0)), sy (.string (bs t6_1))] 59 false]
noncomputable def ohead (x : DenL [.str]) : Option (DenL [HeadT, .int .i64, .bool]) := fO Tryz.prog (envS [(106, letS), (66, digS)]) (shOf shhead) Tryz.f69 [.str] [HeadT, .int .i64, .bool] x
theorem ehead_g (N : Nat) (s : List UInt8) : fON Tryz.prog (envS [(106, letS), (66, digS)]) (shOf shhead) Tryz.f69 [.str] [HeadT, .int .i64, .bool] N (s, ()) =
  (hhead_0 N (s) ([]) ([]) ((0:Int)) (false) ((0:Int))) := by kernel_rfl
theorem ohead_g (x : DenL [.str]) : ohead x = fON Tryz.prog (envS [(106, letS), (66, digS)]) (shOf shhead) Tryz.f69 [.str] [HeadT, .int .i64, .bool] heads0 x := rfl
theorem ehead_0 (n : Nat) (t0 : List UInt8) (t2_0 : List UInt8) (t2_1 : List UInt8) (t3:Int) (t4 : Bool) (t5:Int) : hhead_0 (n + 1) t0 t2_0 t2_1 t3 t4 t5 =
  (bif decide (t5 < (↑t0.length:Int)) then
 (bif isLet (UInt8.ofNat (↑(t0.getD t5.toNat 0).toNat:Int).toNat) then
 (gd [decide (inK .i64 (t5 + (1:Int))), decide (inK .u8 (↑(t0.getD t5.toNat 0).toNat:Int)), decide ((0:Int) ≤ t5), decide (t5 < (↑t0.length:Int))] (hhead_0 n (t0) (t2_0) (t2_1) (t3) (t4) (t5 + (1:Int))))
 else
 (bif isDig (UInt8.ofNat (↑(t0.getD t5.toNat 0).toNat:Int).toNat) then
 (gd [decide (inK .i64 (t5 + (1:Int))), decide (inK .u8 (↑(t0.getD t5.toNat 0).toNat:Int)), decide ((0:Int) ≤ t5), decide (t5 < (↑t0.length:Int)), decide (inK .u8 (↑(t0.getD t5.toNat 0).toNat:Int)), decide ((0:Int) ≤ t5), decide (t5 < (↑t0.length:Int))] (hhead_0 n (t0) (t2_0) (t2_1) (t3) (t4) (t5 + (1:Int))))
 else
 (bif (↑(t0.getD t5.toNat 0).toNat:Int) == (45:Int) then
 (gd [decide (inK .i64 (t5 + (1:Int))), decide ((0:Int) ≤ t5), decide (t5 < (↑t0.length:Int)), decide (inK .u8 (↑(t0.getD t5.toNat 0).toNat:Int)), decide ((0:Int) ≤ t5), decide (t5 < (↑t0.length:Int)), decide (inK .u8 (↑(t0.getD t5.toNat 0).toNat:Int)), decide ((0:Int) ≤ t5), decide (t5 < (↑t0.length:Int))] (hhead_0 n (t0) (t2_0) (t2_1) (t3) (t4) (t5 + (1:Int))))
 else
 (gd [decide ((0:Int) ≤ t5), decide (t5 ≤ (↑t0.length:Int)), decide ((0:Int) ≤ t5), decide (t5 < (↑t0.length:Int)), decide (inK .u8 (↑(t0.getD t5.toNat 0).toNat:Int)), decide ((0:Int) ≤ t5), decide (t5 < (↑t0.length:Int)), decide (inK .u8 (↑(t0.getD t5.toNat 0).toNat:Int)), decide ((0:Int) ≤ t5), decide (t5 < (↑t0.length:Int))] (bif t5 == (↑t0.length:Int) then
 (some ((List.take t5.toNat t0, [], ()), t5, false, ()))
 else
 (bif t5 == (0:Int) then
 (some ((List.take t5.toNat t0, [], ()), t5, false, ()))
 else
 (bif (↑(t0.getD t5.toNat 0).toNat:Int) != (58:Int) then
 (gd [decide ((0:Int) ≤ t5), decide (t5 < (↑t0.length:Int))] (some ((List.take t5.toNat t0, [], ()), t5, false, ())))
 else
 (gd [decide (inK .i64 (t5 + (1:Int))), decide ((0:Int) ≤ t5), decide (t5 < (↑t0.length:Int))] (hhead_1 n (t0) (t2_0) (t2_1) (t3) (t4) (t5 + (1:Int)) (List.take t5.toNat t0) ([]) (t5 + (1:Int)))))))))))
  else
 (gd [decide ((0:Int) ≤ t5), decide (t5 ≤ (↑t0.length:Int))] (bif t5 == (↑t0.length:Int) then
 (some ((List.take t5.toNat t0, [], ()), t5, false, ()))
 else
 (bif t5 == (0:Int) then
 (some ((List.take t5.toNat t0, [], ()), t5, false, ()))
 else
 (bif (↑(t0.getD t5.toNat 0).toNat:Int) != (58:Int) then
 (gd [decide ((0:Int) ≤ t5), decide (t5 < (↑t0.length:Int))] (some ((List.take t5.toNat t0, [], ()), t5, false, ())))
 else
 (gd [decide (inK .i64 (t5 + (1:Int))), decide ((0:Int) ≤ t5), decide (t5 < (↑t0.length:Int))] (hhead_1 n (t0) (t2_0) (t2_1) (t3) (t4) (t5 + (1:Int)) (List.take t5.toNat t0) ([]) (t5 + (1:Int))))))))) := by kernel_rfl
theorem ehead_1 (n : Nat) (t0 : List UInt8) (t2_0 : List UInt8) (t2_1 : List UInt8) (t3:Int) (t4 : Bool) (t5:Int) (t6_0 : List UInt8) (t6_1 : List UInt8) (t7:Int) : hhead_1 (n + 1) t0 t2_0 t2_1 t3 t4 t5 t6_0 t6_1 t7 =
  (bif decide (t5 < (↑t0.length:Int)) then
 (bif decide ((↑(t0.getD t5.toNat 0).toNat:Int) ≥ (32:Int)) then
 (bif decide ((↑(t0.getD t5.toNat 0).toNat:Int) ≤ (126:Int)) then
 (gd [decide (inK .i64 (t5 + (1:Int))), decide ((0:Int) ≤ t5), decide (t5 < (↑t0.length:Int)), decide ((0:Int) ≤ t5), decide (t5 < (↑t0.length:Int))] (hhead_1 n (t0) (t2_0) (t2_1) (t3) (t4) (t5 + (1:Int)) (t6_0) (t6_1) (t7)))
 else
 (bif (↑(t0.getD t5.toNat 0).toNat:Int) == (9:Int) then
 (gd [decide (inK .i64 (t5 + (1:Int))), decide ((0:Int) ≤ t5), decide (t5 < (↑t0.length:Int)), decide ((0:Int) ≤ t5), decide (t5 < (↑t0.length:Int)), decide ((0:Int) ≤ t5), decide (t5 < (↑t0.length:Int))] (hhead_1 n (t0) (t2_0) (t2_1) (t3) (t4) (t5 + (1:Int)) (t6_0) (t6_1) (t7)))
 else
 (gd [decide ((0:Int) ≤ t5), decide (t5 < (↑t0.length:Int)), decide ((0:Int) ≤ t5), decide (t5 < (↑t0.length:Int)), decide ((0:Int) ≤ t5), decide (t5 < (↑t0.length:Int))] (hhead_2 n (t0) (t2_0) (t2_1) (t3) (t4) (t5) (t6_0) (t6_1) (t7) (t5)))))
 else
 (bif (↑(t0.getD t5.toNat 0).toNat:Int) == (9:Int) then
 (gd [decide (inK .i64 (t5 + (1:Int))), decide ((0:Int) ≤ t5), decide (t5 < (↑t0.length:Int)), decide ((0:Int) ≤ t5), decide (t5 < (↑t0.length:Int))] (hhead_1 n (t0) (t2_0) (t2_1) (t3) (t4) (t5 + (1:Int)) (t6_0) (t6_1) (t7)))
 else
 (gd [decide ((0:Int) ≤ t5), decide (t5 < (↑t0.length:Int)), decide ((0:Int) ≤ t5), decide (t5 < (↑t0.length:Int))] (hhead_2 n (t0) (t2_0) (t2_1) (t3) (t4) (t5) (t6_0) (t6_1) (t7) (t5)))))
  else
 (hhead_2 n (t0) (t2_0) (t2_1) (t3) (t4) (t5) (t6_0) (t6_1) (t7) (t5))) := by kernel_rfl
theorem ehead_2 (n : Nat) (t0 : List UInt8) (t2_0 : List UInt8) (t2_1 : List UInt8) (t3:Int) (t4 : Bool) (t5:Int) (t6_0 : List UInt8) (t6_1 : List UInt8) (t7:Int) (t8:Int) : hhead_2 (n + 1) t0 t2_0 t2_1 t3 t4 t5 t6_0 t6_1 t7 t8 =
  (bif decide (t7 < t8) then
 (bif (↑(t0.getD t7.toNat 0).toNat:Int) == (32:Int) then
 (gd [decide (inK .i64 (t7 + (1:Int))), decide ((0:Int) ≤ t7), decide (t7 < (↑t0.length:Int))] (hhead_2 n (t0) (t2_0) (t2_1) (t3) (t4) (t5) (t6_0) (t6_1) (t7 + (1:Int)) (t8)))
 else
 (bif (↑(t0.getD t7.toNat 0).toNat:Int) == (9:Int) then
 (gd [decide (inK .i64 (t7 + (1:Int))), decide ((0:Int) ≤ t7), decide (t7 < (↑t0.length:Int)), decide ((0:Int) ≤ t7), decide (t7 < (↑t0.length:Int))] (hhead_2 n (t0) (t2_0) (t2_1) (t3) (t4) (t5) (t6_0) (t6_1) (t7 + (1:Int)) (t8)))
 else
 (gd [decide ((0:Int) ≤ t7), decide (t7 < (↑t0.length:Int)), decide ((0:Int) ≤ t7), decide (t7 < (↑t0.length:Int))] (hhead_3 n (t0) (t2_0) (t2_1) (t3) (t4) (t5) (t6_0) (t6_1) (t7) (t8)))))
  else
 (hhead_3 n (t0) (t2_0) (t2_1) (t3) (t4) (t5) (t6_0) (t6_1) (t7) (t8))) := by kernel_rfl
theorem ehead_3 (n : Nat) (t0 : List UInt8) (t2_0 : List UInt8) (t2_1 : List UInt8) (t3:Int) (t4 : Bool) (t5:Int) (t6_0 : List UInt8) (t6_1 : List UInt8) (t7:Int) (t8:Int) : hhead_3 (n + 1) t0 t2_0 t2_1 t3 t4 t5 t6_0 t6_1 t7 t8 =
  (bif decide (t8 > t7) then
 (bif (↑(t0.getD (t8 - (1:Int)).toNat 0).toNat:Int) == (32:Int) then
 (gd [decide (inK .i64 (t8 - (1:Int))), decide ((0:Int) ≤ t8 - (1:Int)), decide (t8 - (1:Int) < (↑t0.length:Int)), decide (inK .i64 (t8 - (1:Int)))] (hhead_3 n (t0) (t2_0) (t2_1) (t3) (t4) (t5) (t6_0) (t6_1) (t7) (t8 - (1:Int))))
 else
 (bif (↑(t0.getD (t8 - (1:Int)).toNat 0).toNat:Int) == (9:Int) then
 (gd [decide (inK .i64 (t8 - (1:Int))), decide ((0:Int) ≤ t8 - (1:Int)), decide (t8 - (1:Int) < (↑t0.length:Int)), decide (inK .i64 (t8 - (1:Int))), decide ((0:Int) ≤ t8 - (1:Int)), decide (t8 - (1:Int) < (↑t0.length:Int)), decide (inK .i64 (t8 - (1:Int)))] (hhead_3 n (t0) (t2_0) (t2_1) (t3) (t4) (t5) (t6_0) (t6_1) (t7) (t8 - (1:Int))))
 else
 (gd [decide ((0:Int) ≤ t7), decide (t7 ≤ t8), decide (t8 ≤ (↑t0.length:Int)), decide ((0:Int) ≤ t8 - (1:Int)), decide (t8 - (1:Int) < (↑t0.length:Int)), decide (inK .i64 (t8 - (1:Int))), decide ((0:Int) ≤ t8 - (1:Int)), decide (t8 - (1:Int) < (↑t0.length:Int)), decide (inK .i64 (t8 - (1:Int)))] (bif t5 == (↑t0.length:Int) then
 (some ((t6_0, List.drop t7.toNat (List.take t8.toNat t0), ()), t5, true, ()))
 else
 (some ((t6_0, List.drop t7.toNat (List.take t8.toNat t0), ()), t5, false, ()))))))
  else
 (gd [decide ((0:Int) ≤ t7), decide (t7 ≤ t8), decide (t8 ≤ (↑t0.length:Int))] (bif t5 == (↑t0.length:Int) then
 (some ((t6_0, List.drop t7.toNat (List.take t8.toNat t0), ()), t5, true, ()))
 else
 (some ((t6_0, List.drop t7.toNat (List.take t8.toNat t0), ()), t5, false, ()))))) := by kernel_rfl
noncomputable def headP : DenL [.str] → Bool := hid fun x => (ohead x).isSome
noncomputable def headN : DenL [.str] → DenL [HeadT, .int .i64, .bool] := hid fun x => (ohead x).getD (dfltL [HeadT, .int .i64, .bool])
theorem head_hid {x : DenL [.str]} {z : DenL [HeadT, .int .i64, .bool]} (h : ohead x = some z) : headP x = true ∧ headN x = z := by
  unfold headP headN
  rw [hid_eq, hid_eq]
  simp only [h]
  exact ⟨rfl, rfl⟩
noncomputable def headS : PSpec := ⟨[.str], [HeadT, .int .i64, .bool], headP, headN⟩
abbrev shline : List (Nat × List (Nat × Sh)) := [(5, [(0, (.one .sym)), (1, (.one .sym)), (2, (.one .sym)), (6, (.one .sym)), (7, (.one .sym)), (8, (.one .sym)), (9, (.one .sym)), (10, (.one .sym)), (11, (.one .sym))])]
noncomputable def hline_0 (n : Nat) (t0 : List UInt8) (t1 : Bool) (t2:Int) (t6 : List UInt8) (t7:Int) (t8:Int) (t9:Int) (t10:Int) (t11:Int) : Option (DenL [.str, .int .i64, .int .i64]) := rH Tryz.prog (envO [(69, headS)] [(68, firstS)]) (shOf shline) Tryz.f67 [.str, .int .i64, .int .i64] n 0 [(0, sy (.string (bs t0))), (1, .bool t1), (2, sy (.int .i64 t2)), (6, sy (.string (bs t6))), (7, sy (.int .i64 t7)), (8, sy (.int .i64 t8)), (9, sy (.int .i64 t9)), (10, sy (.int .i64 t10)), (11, sy (.int .i64 t11))] []
noncomputable def oline (x : DenL [.str, .bool, .int .i64]) : Option (DenL [.str, .int .i64, .int .i64]) := fO Tryz.prog (envO [(69, headS)] [(68, firstS)]) (shOf shline) Tryz.f67 [.str, .bool, .int .i64] [.str, .int .i64, .int .i64] x
theorem eline_g (N : Nat) (s : List UInt8) (b : Bool) (k:Int) : fON Tryz.prog (envO [(69, headS)] [(68, firstS)]) (shOf shline) Tryz.f67 [.str, .bool, .int .i64] [.str, .int .i64, .int .i64] N (s, b, k, ()) =
  (bif b then
 (hline_0 N (s) (b) (k) ([]) ((0:Int)) ((0:Int)) ((200:Int)) ((414:Int)) ((0:Int)))
  else
 (hline_0 N (s) (b) (k) ([]) ((0:Int)) ((0:Int)) ((120:Int)) ((431:Int)) ((0:Int)))) := by kernel_rfl
theorem oline_g (x : DenL [.str, .bool, .int .i64]) : oline x = fON Tryz.prog (envO [(69, headS)] [(68, firstS)]) (shOf shline) Tryz.f67 [.str, .bool, .int .i64] [.str, .int .i64, .int .i64] heads0 x := rfl
theorem eline_0 (n : Nat) (t0 : List UInt8) (t1 : Bool) (t2:Int) (t6 : List UInt8) (t7:Int) (t8:Int) (t9:Int) (t10:Int) (t11:Int) : hline_0 (n + 1) t0 t1 t2 t6 t7 t8 t9 t10 t11 =
  (bif decide (t11 < (↑t0.length:Int)) then
 (gd [decide ((0:Int) ≤ t11), decide (t11 ≤ (↑t0.length:Int))] (bif (↑(t0.getD t11.toNat 0).toNat:Int) == (13:Int) then
 (gd [decide ((0:Int) ≤ t11), decide (t11 < (↑t0.length:Int))] (bif List.take t11.toNat t0 == [] then
 (bif t1 then
 (bif (firstN () (List.take t11.toNat t0, ())).snd.snd.snd.fst then
 (gd [firstP () (List.take t11.toNat t0, ())] (bif t11 + (1:Int) == (↑t0.length:Int) then
 (gd [decide (inK .i64 (t11 + (1:Int)))] (some ([], (0:Int), (0:Int), ())))
 else
 (gd [decide (inK .i64 (t11 + (1:Int)))] (bif (↑(t0.getD (t11 + (1:Int)).toNat 0).toNat:Int) != (10:Int) then
 (gd [decide ((0:Int) ≤ t11 + (1:Int)), decide (t11 + (1:Int) < (↑t0.length:Int)), decide (inK .i64 (t11 + (1:Int)))] (some ([], (0:Int), (400:Int), ())))
 else
 (gd [decide (inK .i64 (t11 + (2:Int))), decide ((0:Int) ≤ t11 + (1:Int)), decide (t11 + (1:Int) < (↑t0.length:Int)), decide (inK .i64 (t11 + (1:Int)))] (some (List.take t11.toNat t0, t11 + (2:Int), Int.negSucc 0, ())))))))
 else
 (gd [firstP () (List.take t11.toNat t0, ())] (some ([], (0:Int), (400:Int), ()))))
 else
 (bif !List.take t11.toNat t0 == [] then
 (bif (headN (List.take t11.toNat t0, ())).snd.snd.fst then
 (gd [headP (List.take t11.toNat t0, ())] (bif t11 + (1:Int) == (↑t0.length:Int) then
 (gd [decide (inK .i64 (t11 + (1:Int)))] (some ([], (0:Int), (0:Int), ())))
 else
 (gd [decide (inK .i64 (t11 + (1:Int)))] (bif (↑(t0.getD (t11 + (1:Int)).toNat 0).toNat:Int) != (10:Int) then
 (gd [decide ((0:Int) ≤ t11 + (1:Int)), decide (t11 + (1:Int) < (↑t0.length:Int)), decide (inK .i64 (t11 + (1:Int)))] (some ([], (0:Int), (400:Int), ())))
 else
 (gd [decide (inK .i64 (t11 + (2:Int))), decide ((0:Int) ≤ t11 + (1:Int)), decide (t11 + (1:Int) < (↑t0.length:Int)), decide (inK .i64 (t11 + (1:Int)))] (some (List.take t11.toNat t0, t11 + (2:Int), Int.negSucc 0, ())))))))
 else
 (gd [headP (List.take t11.toNat t0, ())] (some ([], (0:Int), (400:Int), ()))))
 else
 (bif !!t1 then
 (some ([], (0:Int), (400:Int), ()))
 else
 (bif t11 + (1:Int) == (↑t0.length:Int) then
 (gd [decide (inK .i64 (t11 + (1:Int)))] (some ([], (0:Int), (0:Int), ())))
 else
 (gd [decide (inK .i64 (t11 + (1:Int)))] (bif (↑(t0.getD (t11 + (1:Int)).toNat 0).toNat:Int) != (10:Int) then
 (gd [decide ((0:Int) ≤ t11 + (1:Int)), decide (t11 + (1:Int) < (↑t0.length:Int)), decide (inK .i64 (t11 + (1:Int)))] (some ([], (0:Int), (400:Int), ())))
 else
 (gd [decide (inK .i64 (t11 + (2:Int))), decide ((0:Int) ≤ t11 + (1:Int)), decide (t11 + (1:Int) < (↑t0.length:Int)), decide (inK .i64 (t11 + (1:Int)))] (some (List.take t11.toNat t0, t11 + (2:Int), Int.negSucc 0, ())))))))))
 else
 (bif t1 then
 (bif (firstN () (List.take t11.toNat t0, ())).snd.snd.snd.fst then
 (gd [firstP () (List.take t11.toNat t0, ())] (bif t11 + (1:Int) == (↑t0.length:Int) then
 (gd [decide (inK .i64 (t11 + (1:Int)))] (some ([], (0:Int), (0:Int), ())))
 else
 (gd [decide (inK .i64 (t11 + (1:Int)))] (bif (↑(t0.getD (t11 + (1:Int)).toNat 0).toNat:Int) != (10:Int) then
 (gd [decide ((0:Int) ≤ t11 + (1:Int)), decide (t11 + (1:Int) < (↑t0.length:Int)), decide (inK .i64 (t11 + (1:Int)))] (some ([], (0:Int), (400:Int), ())))
 else
 (gd [decide (inK .i64 (t11 + (2:Int))), decide ((0:Int) ≤ t11 + (1:Int)), decide (t11 + (1:Int) < (↑t0.length:Int)), decide (inK .i64 (t11 + (1:Int)))] (some (List.take t11.toNat t0, t11 + (2:Int), Int.negSucc 0, ())))))))
 else
 (gd [firstP () (List.take t11.toNat t0, ())] (some ([], (0:Int), (400:Int), ()))))
 else
 (bif !List.take t11.toNat t0 == [] then
 (bif (headN (List.take t11.toNat t0, ())).snd.snd.fst then
 (gd [headP (List.take t11.toNat t0, ())] (bif t11 + (1:Int) == (↑t0.length:Int) then
 (gd [decide (inK .i64 (t11 + (1:Int)))] (some ([], (0:Int), (0:Int), ())))
 else
 (gd [decide (inK .i64 (t11 + (1:Int)))] (bif (↑(t0.getD (t11 + (1:Int)).toNat 0).toNat:Int) != (10:Int) then
 (gd [decide ((0:Int) ≤ t11 + (1:Int)), decide (t11 + (1:Int) < (↑t0.length:Int)), decide (inK .i64 (t11 + (1:Int)))] (some ([], (0:Int), (400:Int), ())))
 else
 (gd [decide (inK .i64 (t11 + (2:Int))), decide ((0:Int) ≤ t11 + (1:Int)), decide (t11 + (1:Int) < (↑t0.length:Int)), decide (inK .i64 (t11 + (1:Int)))] (some (List.take t11.toNat t0, t11 + (2:Int), Int.negSucc 0, ())))))))
 else
 (gd [headP (List.take t11.toNat t0, ())] (some ([], (0:Int), (400:Int), ()))))
 else
 (some ([], (0:Int), (400:Int), ()))))))
 else
 (gd [decide ((0:Int) ≤ t11), decide (t11 < (↑t0.length:Int))] (bif decide (t11 ≥ t9) then
 (some ([], (0:Int), t10, ()))
 else
 (bif !t1 then
 (bif !t1 then
 (bif t11 == (0:Int) then
 (bif !t1 then
 (bif decide (t2 ≥ (10:Int)) then
 (some ([], (0:Int), (431:Int), ()))
 else
 (bif t1 then
 (bif (firstN () (List.take (t11 + (1:Int)).toNat t0, ())).snd.snd.snd.fst then
 (gd [firstP () (List.take (t11 + (1:Int)).toNat t0, ()), decide ((0:Int) ≤ t11 + (1:Int)), decide (t11 + (1:Int) ≤ (↑t0.length:Int)), decide (inK .i64 (t11 + (1:Int)))] (bif (firstN () (List.take (t11 + (1:Int)).toNat t0, ())).snd.snd.fst != t11 + (1:Int) then
 (gd [decide (inK .i64 (t11 + (1:Int)))] (some ([], (0:Int), (400:Int), ())))
 else
 (gd [decide (inK .i64 (t11 + (1:Int))), decide (inK .i64 (t11 + (1:Int)))] (hline_0 n (t0) (t1) (t2) (t6) (t7) (t8) (t9) (t10) (t11 + (1:Int))))))
 else
 (gd [firstP () (List.take (t11 + (1:Int)).toNat t0, ()), decide ((0:Int) ≤ t11 + (1:Int)), decide (t11 + (1:Int) ≤ (↑t0.length:Int)), decide (inK .i64 (t11 + (1:Int)))] (bif (firstN () (List.take (t11 + (1:Int)).toNat t0, ())).snd.snd.fst != t11 + (1:Int) then
 (gd [decide (inK .i64 (t11 + (1:Int)))] (some ([], (0:Int), (400:Int), ())))
 else
 (gd [decide (inK .i64 (t11 + (1:Int))), decide (inK .i64 (t11 + (1:Int)))] (hline_0 n (t0) (t1) (t2) (t6) (t7) (t8) (t9) (t10) (t11 + (1:Int)))))))
 else
 (bif (headN (List.take (t11 + (1:Int)).toNat t0, ())).snd.snd.fst then
 (gd [headP (List.take (t11 + (1:Int)).toNat t0, ()), decide ((0:Int) ≤ t11 + (1:Int)), decide (t11 + (1:Int) ≤ (↑t0.length:Int)), decide (inK .i64 (t11 + (1:Int)))] (bif (headN (List.take (t11 + (1:Int)).toNat t0, ())).snd.fst != t11 + (1:Int) then
 (gd [decide (inK .i64 (t11 + (1:Int)))] (some ([], (0:Int), (400:Int), ())))
 else
 (gd [decide (inK .i64 (t11 + (1:Int))), decide (inK .i64 (t11 + (1:Int)))] (hline_0 n (t0) (t1) (t2) (t6) (t7) (t8) (t9) (t10) (t11 + (1:Int))))))
 else
 (gd [headP (List.take (t11 + (1:Int)).toNat t0, ()), decide ((0:Int) ≤ t11 + (1:Int)), decide (t11 + (1:Int) ≤ (↑t0.length:Int)), decide (inK .i64 (t11 + (1:Int)))] (bif (headN (List.take (t11 + (1:Int)).toNat t0, ())).snd.fst != t11 + (1:Int) then
 (gd [decide (inK .i64 (t11 + (1:Int)))] (some ([], (0:Int), (400:Int), ())))
 else
 (gd [decide (inK .i64 (t11 + (1:Int))), decide (inK .i64 (t11 + (1:Int)))] (hline_0 n (t0) (t1) (t2) (t6) (t7) (t8) (t9) (t10) (t11 + (1:Int)))))))))
 else
 (bif t1 then
 (bif (firstN () (List.take (t11 + (1:Int)).toNat t0, ())).snd.snd.snd.fst then
 (gd [firstP () (List.take (t11 + (1:Int)).toNat t0, ()), decide ((0:Int) ≤ t11 + (1:Int)), decide (t11 + (1:Int) ≤ (↑t0.length:Int)), decide (inK .i64 (t11 + (1:Int)))] (bif (firstN () (List.take (t11 + (1:Int)).toNat t0, ())).snd.snd.fst != t11 + (1:Int) then
 (gd [decide (inK .i64 (t11 + (1:Int)))] (some ([], (0:Int), (400:Int), ())))
 else
 (gd [decide (inK .i64 (t11 + (1:Int))), decide (inK .i64 (t11 + (1:Int)))] (hline_0 n (t0) (t1) (t2) (t6) (t7) (t8) (t9) (t10) (t11 + (1:Int))))))
 else
 (gd [firstP () (List.take (t11 + (1:Int)).toNat t0, ()), decide ((0:Int) ≤ t11 + (1:Int)), decide (t11 + (1:Int) ≤ (↑t0.length:Int)), decide (inK .i64 (t11 + (1:Int)))] (bif (firstN () (List.take (t11 + (1:Int)).toNat t0, ())).snd.snd.fst != t11 + (1:Int) then
 (gd [decide (inK .i64 (t11 + (1:Int)))] (some ([], (0:Int), (400:Int), ())))
 else
 (gd [decide (inK .i64 (t11 + (1:Int))), decide (inK .i64 (t11 + (1:Int)))] (hline_0 n (t0) (t1) (t2) (t6) (t7) (t8) (t9) (t10) (t11 + (1:Int)))))))
 else
 (bif (headN (List.take (t11 + (1:Int)).toNat t0, ())).snd.snd.fst then
 (gd [headP (List.take (t11 + (1:Int)).toNat t0, ()), decide ((0:Int) ≤ t11 + (1:Int)), decide (t11 + (1:Int) ≤ (↑t0.length:Int)), decide (inK .i64 (t11 + (1:Int)))] (bif (headN (List.take (t11 + (1:Int)).toNat t0, ())).snd.fst != t11 + (1:Int) then
 (gd [decide (inK .i64 (t11 + (1:Int)))] (some ([], (0:Int), (400:Int), ())))
 else
 (gd [decide (inK .i64 (t11 + (1:Int))), decide (inK .i64 (t11 + (1:Int)))] (hline_0 n (t0) (t1) (t2) (t6) (t7) (t8) (t9) (t10) (t11 + (1:Int))))))
 else
 (gd [headP (List.take (t11 + (1:Int)).toNat t0, ()), decide ((0:Int) ≤ t11 + (1:Int)), decide (t11 + (1:Int) ≤ (↑t0.length:Int)), decide (inK .i64 (t11 + (1:Int)))] (bif (headN (List.take (t11 + (1:Int)).toNat t0, ())).snd.fst != t11 + (1:Int) then
 (gd [decide (inK .i64 (t11 + (1:Int)))] (some ([], (0:Int), (400:Int), ())))
 else
 (gd [decide (inK .i64 (t11 + (1:Int))), decide (inK .i64 (t11 + (1:Int)))] (hline_0 n (t0) (t1) (t2) (t6) (t7) (t8) (t9) (t10) (t11 + (1:Int)))))))))
 else
 (bif !t1 then
 (bif t1 then
 (bif (firstN () (List.take (t11 + (1:Int)).toNat t0, ())).snd.snd.snd.fst then
 (gd [firstP () (List.take (t11 + (1:Int)).toNat t0, ()), decide ((0:Int) ≤ t11 + (1:Int)), decide (t11 + (1:Int) ≤ (↑t0.length:Int)), decide (inK .i64 (t11 + (1:Int)))] (bif (firstN () (List.take (t11 + (1:Int)).toNat t0, ())).snd.snd.fst != t11 + (1:Int) then
 (gd [decide (inK .i64 (t11 + (1:Int)))] (some ([], (0:Int), (400:Int), ())))
 else
 (gd [decide (inK .i64 (t11 + (1:Int))), decide (inK .i64 (t11 + (1:Int)))] (hline_0 n (t0) (t1) (t2) (t6) (t7) (t8) (t9) (t10) (t11 + (1:Int))))))
 else
 (gd [firstP () (List.take (t11 + (1:Int)).toNat t0, ()), decide ((0:Int) ≤ t11 + (1:Int)), decide (t11 + (1:Int) ≤ (↑t0.length:Int)), decide (inK .i64 (t11 + (1:Int)))] (bif (firstN () (List.take (t11 + (1:Int)).toNat t0, ())).snd.snd.fst != t11 + (1:Int) then
 (gd [decide (inK .i64 (t11 + (1:Int)))] (some ([], (0:Int), (400:Int), ())))
 else
 (gd [decide (inK .i64 (t11 + (1:Int))), decide (inK .i64 (t11 + (1:Int)))] (hline_0 n (t0) (t1) (t2) (t6) (t7) (t8) (t9) (t10) (t11 + (1:Int)))))))
 else
 (bif (headN (List.take (t11 + (1:Int)).toNat t0, ())).snd.snd.fst then
 (gd [headP (List.take (t11 + (1:Int)).toNat t0, ()), decide ((0:Int) ≤ t11 + (1:Int)), decide (t11 + (1:Int) ≤ (↑t0.length:Int)), decide (inK .i64 (t11 + (1:Int)))] (bif (headN (List.take (t11 + (1:Int)).toNat t0, ())).snd.fst != t11 + (1:Int) then
 (gd [decide (inK .i64 (t11 + (1:Int)))] (some ([], (0:Int), (400:Int), ())))
 else
 (gd [decide (inK .i64 (t11 + (1:Int))), decide (inK .i64 (t11 + (1:Int)))] (hline_0 n (t0) (t1) (t2) (t6) (t7) (t8) (t9) (t10) (t11 + (1:Int))))))
 else
 (gd [headP (List.take (t11 + (1:Int)).toNat t0, ()), decide ((0:Int) ≤ t11 + (1:Int)), decide (t11 + (1:Int) ≤ (↑t0.length:Int)), decide (inK .i64 (t11 + (1:Int)))] (bif (headN (List.take (t11 + (1:Int)).toNat t0, ())).snd.fst != t11 + (1:Int) then
 (gd [decide (inK .i64 (t11 + (1:Int)))] (some ([], (0:Int), (400:Int), ())))
 else
 (gd [decide (inK .i64 (t11 + (1:Int))), decide (inK .i64 (t11 + (1:Int)))] (hline_0 n (t0) (t1) (t2) (t6) (t7) (t8) (t9) (t10) (t11 + (1:Int))))))))
 else
 (bif t1 then
 (bif (firstN () (List.take (t11 + (1:Int)).toNat t0, ())).snd.snd.snd.fst then
 (gd [firstP () (List.take (t11 + (1:Int)).toNat t0, ()), decide ((0:Int) ≤ t11 + (1:Int)), decide (t11 + (1:Int) ≤ (↑t0.length:Int)), decide (inK .i64 (t11 + (1:Int)))] (bif (firstN () (List.take (t11 + (1:Int)).toNat t0, ())).snd.snd.fst != t11 + (1:Int) then
 (gd [decide (inK .i64 (t11 + (1:Int)))] (some ([], (0:Int), (400:Int), ())))
 else
 (gd [decide (inK .i64 (t11 + (1:Int))), decide (inK .i64 (t11 + (1:Int)))] (hline_0 n (t0) (t1) (t2) (t6) (t7) (t8) (t9) (t10) (t11 + (1:Int))))))
 else
 (gd [firstP () (List.take (t11 + (1:Int)).toNat t0, ()), decide ((0:Int) ≤ t11 + (1:Int)), decide (t11 + (1:Int) ≤ (↑t0.length:Int)), decide (inK .i64 (t11 + (1:Int)))] (bif (firstN () (List.take (t11 + (1:Int)).toNat t0, ())).snd.snd.fst != t11 + (1:Int) then
 (gd [decide (inK .i64 (t11 + (1:Int)))] (some ([], (0:Int), (400:Int), ())))
 else
 (gd [decide (inK .i64 (t11 + (1:Int))), decide (inK .i64 (t11 + (1:Int)))] (hline_0 n (t0) (t1) (t2) (t6) (t7) (t8) (t9) (t10) (t11 + (1:Int)))))))
 else
 (bif (headN (List.take (t11 + (1:Int)).toNat t0, ())).snd.snd.fst then
 (gd [headP (List.take (t11 + (1:Int)).toNat t0, ()), decide ((0:Int) ≤ t11 + (1:Int)), decide (t11 + (1:Int) ≤ (↑t0.length:Int)), decide (inK .i64 (t11 + (1:Int)))] (bif (headN (List.take (t11 + (1:Int)).toNat t0, ())).snd.fst != t11 + (1:Int) then
 (gd [decide (inK .i64 (t11 + (1:Int)))] (some ([], (0:Int), (400:Int), ())))
 else
 (gd [decide (inK .i64 (t11 + (1:Int))), decide (inK .i64 (t11 + (1:Int)))] (hline_0 n (t0) (t1) (t2) (t6) (t7) (t8) (t9) (t10) (t11 + (1:Int))))))
 else
 (gd [headP (List.take (t11 + (1:Int)).toNat t0, ()), decide ((0:Int) ≤ t11 + (1:Int)), decide (t11 + (1:Int) ≤ (↑t0.length:Int)), decide (inK .i64 (t11 + (1:Int)))] (bif (headN (List.take (t11 + (1:Int)).toNat t0, ())).snd.fst != t11 + (1:Int) then
 (gd [decide (inK .i64 (t11 + (1:Int)))] (some ([], (0:Int), (400:Int), ())))
 else
 (gd [decide (inK .i64 (t11 + (1:Int))), decide (inK .i64 (t11 + (1:Int)))] (hline_0 n (t0) (t1) (t2) (t6) (t7) (t8) (t9) (t10) (t11 + (1:Int))))))))))
 else
 (bif !t1 then
 (none)
 else
 (bif t1 then
 (bif (firstN () (List.take (t11 + (1:Int)).toNat t0, ())).snd.snd.snd.fst then
 (gd [firstP () (List.take (t11 + (1:Int)).toNat t0, ()), decide ((0:Int) ≤ t11 + (1:Int)), decide (t11 + (1:Int) ≤ (↑t0.length:Int)), decide (inK .i64 (t11 + (1:Int)))] (bif (firstN () (List.take (t11 + (1:Int)).toNat t0, ())).snd.snd.fst != t11 + (1:Int) then
 (gd [decide (inK .i64 (t11 + (1:Int)))] (some ([], (0:Int), (400:Int), ())))
 else
 (gd [decide (inK .i64 (t11 + (1:Int))), decide (inK .i64 (t11 + (1:Int)))] (hline_0 n (t0) (t1) (t2) (t6) (t7) (t8) (t9) (t10) (t11 + (1:Int))))))
 else
 (gd [firstP () (List.take (t11 + (1:Int)).toNat t0, ()), decide ((0:Int) ≤ t11 + (1:Int)), decide (t11 + (1:Int) ≤ (↑t0.length:Int)), decide (inK .i64 (t11 + (1:Int)))] (bif (firstN () (List.take (t11 + (1:Int)).toNat t0, ())).snd.snd.fst != t11 + (1:Int) then
 (gd [decide (inK .i64 (t11 + (1:Int)))] (some ([], (0:Int), (400:Int), ())))
 else
 (gd [decide (inK .i64 (t11 + (1:Int))), decide (inK .i64 (t11 + (1:Int)))] (hline_0 n (t0) (t1) (t2) (t6) (t7) (t8) (t9) (t10) (t11 + (1:Int)))))))
 else
 (bif (headN (List.take (t11 + (1:Int)).toNat t0, ())).snd.snd.fst then
 (gd [headP (List.take (t11 + (1:Int)).toNat t0, ()), decide ((0:Int) ≤ t11 + (1:Int)), decide (t11 + (1:Int) ≤ (↑t0.length:Int)), decide (inK .i64 (t11 + (1:Int)))] (bif (headN (List.take (t11 + (1:Int)).toNat t0, ())).snd.fst != t11 + (1:Int) then
 (gd [decide (inK .i64 (t11 + (1:Int)))] (some ([], (0:Int), (400:Int), ())))
 else
 (gd [decide (inK .i64 (t11 + (1:Int))), decide (inK .i64 (t11 + (1:Int)))] (hline_0 n (t0) (t1) (t2) (t6) (t7) (t8) (t9) (t10) (t11 + (1:Int))))))
 else
 (gd [headP (List.take (t11 + (1:Int)).toNat t0, ()), decide ((0:Int) ≤ t11 + (1:Int)), decide (t11 + (1:Int) ≤ (↑t0.length:Int)), decide (inK .i64 (t11 + (1:Int)))] (bif (headN (List.take (t11 + (1:Int)).toNat t0, ())).snd.fst != t11 + (1:Int) then
 (gd [decide (inK .i64 (t11 + (1:Int)))] (some ([], (0:Int), (400:Int), ())))
 else
 (gd [decide (inK .i64 (t11 + (1:Int))), decide (inK .i64 (t11 + (1:Int)))] (hline_0 n (t0) (t1) (t2) (t6) (t7) (t8) (t9) (t10) (t11 + (1:Int))))))))))
 else
 (bif !t1 then
 (none)
 else
 (bif !t1 then
 (none)
 else
 (bif t1 then
 (bif (firstN () (List.take (t11 + (1:Int)).toNat t0, ())).snd.snd.snd.fst then
 (gd [firstP () (List.take (t11 + (1:Int)).toNat t0, ()), decide ((0:Int) ≤ t11 + (1:Int)), decide (t11 + (1:Int) ≤ (↑t0.length:Int)), decide (inK .i64 (t11 + (1:Int)))] (bif (firstN () (List.take (t11 + (1:Int)).toNat t0, ())).snd.snd.fst != t11 + (1:Int) then
 (gd [decide (inK .i64 (t11 + (1:Int)))] (some ([], (0:Int), (400:Int), ())))
 else
 (gd [decide (inK .i64 (t11 + (1:Int))), decide (inK .i64 (t11 + (1:Int)))] (hline_0 n (t0) (t1) (t2) (t6) (t7) (t8) (t9) (t10) (t11 + (1:Int))))))
 else
 (gd [firstP () (List.take (t11 + (1:Int)).toNat t0, ()), decide ((0:Int) ≤ t11 + (1:Int)), decide (t11 + (1:Int) ≤ (↑t0.length:Int)), decide (inK .i64 (t11 + (1:Int)))] (bif (firstN () (List.take (t11 + (1:Int)).toNat t0, ())).snd.snd.fst != t11 + (1:Int) then
 (gd [decide (inK .i64 (t11 + (1:Int)))] (some ([], (0:Int), (400:Int), ())))
 else
 (gd [decide (inK .i64 (t11 + (1:Int))), decide (inK .i64 (t11 + (1:Int)))] (hline_0 n (t0) (t1) (t2) (t6) (t7) (t8) (t9) (t10) (t11 + (1:Int)))))))
 else
 (bif (headN (List.take (t11 + (1:Int)).toNat t0, ())).snd.snd.fst then
 (gd [headP (List.take (t11 + (1:Int)).toNat t0, ()), decide ((0:Int) ≤ t11 + (1:Int)), decide (t11 + (1:Int) ≤ (↑t0.length:Int)), decide (inK .i64 (t11 + (1:Int)))] (bif (headN (List.take (t11 + (1:Int)).toNat t0, ())).snd.fst != t11 + (1:Int) then
 (gd [decide (inK .i64 (t11 + (1:Int)))] (some ([], (0:Int), (400:Int), ())))
 else
 (gd [decide (inK .i64 (t11 + (1:Int))), decide (inK .i64 (t11 + (1:Int)))] (hline_0 n (t0) (t1) (t2) (t6) (t7) (t8) (t9) (t10) (t11 + (1:Int))))))
 else
 (gd [headP (List.take (t11 + (1:Int)).toNat t0, ()), decide ((0:Int) ≤ t11 + (1:Int)), decide (t11 + (1:Int) ≤ (↑t0.length:Int)), decide (inK .i64 (t11 + (1:Int)))] (bif (headN (List.take (t11 + (1:Int)).toNat t0, ())).snd.fst != t11 + (1:Int) then
 (gd [decide (inK .i64 (t11 + (1:Int)))] (some ([], (0:Int), (400:Int), ())))
 else
 (gd [decide (inK .i64 (t11 + (1:Int))), decide (inK .i64 (t11 + (1:Int)))] (hline_0 n (t0) (t1) (t2) (t6) (t7) (t8) (t9) (t10) (t11 + (1:Int)))))))))))))))
  else
 (some ([], (0:Int), (0:Int), ()))) := by kernel_rfl
noncomputable def lineP : DenL [.str, .bool, .int .i64] → Bool := hid fun x => (oline x).isSome
noncomputable def lineN : DenL [.str, .bool, .int .i64] → DenL [.str, .int .i64, .int .i64] := hid fun x => (oline x).getD (dfltL [.str, .int .i64, .int .i64])
theorem line_hid {x : DenL [.str, .bool, .int .i64]} {z : DenL [.str, .int .i64, .int .i64]} (h : oline x = some z) : lineP x = true ∧ lineN x = z := by
  unfold lineP lineN
  rw [hid_eq, hid_eq]
  simp only [h]
  exact ⟨rfl, rfl⟩
noncomputable def lineS : PSpec := ⟨[.str, .bool, .int .i64], [.str, .int .i64, .int .i64], lineP, lineN⟩
abbrev shone : List (Nat × List (Nat × Sh)) := [(5, [(0, (.one .sym)), (2, (.obj [.sym, .sym, .sym, .any, .sym])), (3, (.one .sym)), (4, (.one .sym)), (6, (.one .sym)), (8, (.obj [.sym, .sym, .sym, (.vec (.pair .str (.pair .str .unit)) 59), .sym]))])]
noncomputable def hone_0 (n : Nat) (t0 : List UInt8) (t2_0 : List UInt8) (t2_1 : List UInt8) (t2_2 : List UInt8) (t2_4 : List UInt8) (t3:Int) (t4:Int) (t6:Int) (t8_0 : List UInt8) (t8_1 : List UInt8) (t8_2 : List UInt8) (t8_3 : List (Ty.Den (.pair .str (.pair .str .unit)))) (t8_4 : List UInt8) : Option ((sigOn).root.Den × DenO (sigOn).rs) := rHO Tryz.prog (envO [(67, lineS), (69, headS), (32, refLenS)] [(68, firstS)]) (shOf shone) Tryz.f50 (sigOn) [] n 0 [(0, sy (.string (bs t0))), (2, .pointer (some ⟨9, 0, none⟩)), (3, sy (.int .i64 t3)), (4, sy (.int .i64 t4)), (6, sy (.int .i64 t6)), (8, .pointer (some ⟨11, 0, none⟩))] [.row [sy (.string (bs t2_0)), sy (.string (bs t2_1)), sy (.string (bs t2_2)), Value.slice none 0 0, sy (.string (bs t2_4))] 28 false, .vec (.pair .str (.pair .str .unit)) t8_3 59, .row [sy (.string (bs t8_0)), sy (.string (bs t8_1)), sy (.string (bs t8_2)), dt 10, sy (.string (bs t8_4))] 28 false]
noncomputable def oone (x : (sigOn).root.Den) (y : DenO (sigOn).ts) : Option ((sigOn).root.Den × DenO (sigOn).rs) := fOO Tryz.prog (envO [(67, lineS), (69, headS), (32, refLenS)] [(68, firstS)]) (shOf shone) Tryz.f50 (sigOn) x y
theorem eone_g (N : Nat) (s : List UInt8) : fOON Tryz.prog (envO [(67, lineS), (69, headS), (32, refLenS)] [(68, firstS)]) (shOf shone) Tryz.f50 (sigOn) N () (s, ()) =
  (gd [lineP (s, true, (0:Int), ())] (bif (lineN (s, true, (0:Int), ())).snd.snd.fst != Int.negSucc 0 then
 (some ((), ([], [], [], [], [], ()), (0:Int), (lineN (s, true, (0:Int), ())).snd.snd.fst, ()))
  else
 (bif (firstN () ((lineN (s, true, (0:Int), ())).fst, ())).snd.snd.snd.fst then
 (gd [firstP () ((lineN (s, true, (0:Int), ())).fst, ())] (hone_0 N (s) ([]) ([]) ([]) ([]) ((0:Int)) ((0:Int)) ((lineN (s, true, (0:Int), ())).snd.fst) ((firstN () ((lineN (s, true, (0:Int), ())).fst, ())).snd.fst.fst) ((firstN () ((lineN (s, true, (0:Int), ())).fst, ())).snd.fst.snd.fst) ((firstN () ((lineN (s, true, (0:Int), ())).fst, ())).snd.fst.snd.snd.fst) ((firstN () ((lineN (s, true, (0:Int), ())).fst, ())).snd.fst.snd.snd.snd.fst) ((firstN () ((lineN (s, true, (0:Int), ())).fst, ())).snd.fst.snd.snd.snd.snd.fst)))
 else
 (gd [firstP () ((lineN (s, true, (0:Int), ())).fst, ())] (hone_0 N (s) ([]) ([]) ([]) ([]) ((0:Int)) ((0:Int)) ((lineN (s, true, (0:Int), ())).snd.fst) ((firstN () ((lineN (s, true, (0:Int), ())).fst, ())).snd.fst.fst) ((firstN () ((lineN (s, true, (0:Int), ())).fst, ())).snd.fst.snd.fst) ((firstN () ((lineN (s, true, (0:Int), ())).fst, ())).snd.fst.snd.snd.fst) ((firstN () ((lineN (s, true, (0:Int), ())).fst, ())).snd.fst.snd.snd.snd.fst) ((firstN () ((lineN (s, true, (0:Int), ())).fst, ())).snd.fst.snd.snd.snd.snd.fst)))))) := by kernel_rfl
theorem oone_g (x : (sigOn).root.Den) (y : DenO (sigOn).ts) : oone x y = fOON Tryz.prog (envO [(67, lineS), (69, headS), (32, refLenS)] [(68, firstS)]) (shOf shone) Tryz.f50 (sigOn) heads0 x y := rfl
theorem eone_0 (n : Nat) (t0 : List UInt8) (t2_0 : List UInt8) (t2_1 : List UInt8) (t2_2 : List UInt8) (t2_4 : List UInt8) (t3:Int) (t4:Int) (t6:Int) (t8_0 : List UInt8) (t8_1 : List UInt8) (t8_2 : List UInt8) (t8_3 : List (Ty.Den (.pair .str (.pair .str .unit)))) (t8_4 : List UInt8) : hone_0 (n + 1) t0 t2_0 t2_1 t2_2 t2_4 t3 t4 t6 t8_0 t8_1 t8_2 t8_3 t8_4 =
  (gd [lineP (List.drop t6.toNat t0, false, (↑t8_3.length:Int), ()), decide ((0:Int) ≤ t6), decide (t6 ≤ (↑t0.length:Int))] (bif (lineN (List.drop t6.toNat t0, false, (↑t8_3.length:Int), ())).snd.snd.fst != Int.negSucc 0 then
 (some ((), ([], [], [], [], [], ()), (0:Int), (lineN (List.drop t6.toNat t0, false, (↑t8_3.length:Int), ())).snd.snd.fst, ()))
  else
 (gd [decide (inK .i64 (t6 + (lineN (List.drop t6.toNat t0, false, (↑t8_3.length:Int), ())).snd.fst))] (bif (lineN (List.drop t6.toNat t0, false, (↑t8_3.length:Int), ())).fst == [] then
 (gd [refLenP t8_3] (bif (refLen t8_3).snd != (0:Int) then
 (some ((), ([], [], [], [], [], ()), (0:Int), (refLen t8_3).snd, ()))
 else
 (bif decide ((↑t0.length:Int) - (t6 + (lineN (List.drop t6.toNat t0, false, (↑t8_3.length:Int), ())).snd.fst) < (refLen t8_3).fst) then
 (gd [decide (inK .i64 ((↑t0.length:Int) - (t6 + (lineN (List.drop t6.toNat t0, false, (↑t8_3.length:Int), ())).snd.fst)))] (some ((), ([], [], [], [], [], ()), (0:Int), (0:Int), ())))
 else
 (gd [decide (inK .i64 (t6 + (lineN (List.drop t6.toNat t0, false, (↑t8_3.length:Int), ())).snd.fst + (refLen t8_3).fst)), decide ((0:Int) ≤ t6 + (lineN (List.drop t6.toNat t0, false, (↑t8_3.length:Int), ())).snd.fst), decide (t6 + (lineN (List.drop t6.toNat t0, false, (↑t8_3.length:Int), ())).snd.fst ≤ t6 + (lineN (List.drop t6.toNat t0, false, (↑t8_3.length:Int), ())).snd.fst + (refLen t8_3).fst), decide (t6 + (lineN (List.drop t6.toNat t0, false, (↑t8_3.length:Int), ())).snd.fst + (refLen t8_3).fst ≤ (↑t0.length:Int)), decide (inK .i64 (t6 + (lineN (List.drop t6.toNat t0, false, (↑t8_3.length:Int), ())).snd.fst + (refLen t8_3).fst)), decide (inK .i64 ((↑t0.length:Int) - (t6 + (lineN (List.drop t6.toNat t0, false, (↑t8_3.length:Int), ())).snd.fst)))] (some ((), (t8_0, t8_1, t8_2, t8_3, List.drop (t6 + (lineN (List.drop t6.toNat t0, false, (↑t8_3.length:Int), ())).snd.fst).toNat (List.take (t6 + (lineN (List.drop t6.toNat t0, false, (↑t8_3.length:Int), ())).snd.fst + (refLen t8_3).fst).toNat t0), ()), t6 + (lineN (List.drop t6.toNat t0, false, (↑t8_3.length:Int), ())).snd.fst + (refLen t8_3).fst, Int.negSucc 0, ()))))))
 else
 (bif (headN ((lineN (List.drop t6.toNat t0, false, (↑t8_3.length:Int), ())).fst, ())).snd.snd.fst then
 (gd [decide ((2 * (t8_3.length + 1) + 400) * 32 ≤ 281474976710656), headP ((lineN (List.drop t6.toNat t0, false, (↑t8_3.length:Int), ())).fst, ())] (hone_0 n (t0) (t2_0) (t2_1) (t2_2) (t2_4) (t3) (t4) (t6 + (lineN (List.drop t6.toNat t0, false, (↑t8_3.length:Int), ())).snd.fst) (t8_0) (t8_1) (t8_2) (t8_3 ++ [((headN ((lineN (List.drop t6.toNat t0, false, (↑t8_3.length:Int), ())).fst, ())).fst.fst, (headN ((lineN (List.drop t6.toNat t0, false, (↑t8_3.length:Int), ())).fst, ())).fst.snd.fst, ())]) (t8_4)))
 else
 (gd [decide ((2 * (t8_3.length + 1) + 400) * 32 ≤ 281474976710656), headP ((lineN (List.drop t6.toNat t0, false, (↑t8_3.length:Int), ())).fst, ())] (hone_0 n (t0) (t2_0) (t2_1) (t2_2) (t2_4) (t3) (t4) (t6 + (lineN (List.drop t6.toNat t0, false, (↑t8_3.length:Int), ())).snd.fst) (t8_0) (t8_1) (t8_2) (t8_3 ++ [((headN ((lineN (List.drop t6.toNat t0, false, (↑t8_3.length:Int), ())).fst, ())).fst.fst, (headN ((lineN (List.drop t6.toNat t0, false, (↑t8_3.length:Int), ())).fst, ())).fst.snd.fst, ())]) (t8_4)))))))) := by kernel_rfl
noncomputable def oneP : (sigOn).root.Den → DenO (sigOn).ts → Bool := hid fun x y => (oone x y).isSome
noncomputable def oneN : (sigOn).root.Den → DenO (sigOn).ts → (sigOn).root.Den × DenO (sigOn).rs := hid fun x y => (oone x y).getD ((sigOn).root.dflt, dfltO (sigOn).rs)
theorem one_hid {x : (sigOn).root.Den} {y : DenO (sigOn).ts} {z : (sigOn).root.Den × DenO (sigOn).rs} (h : oone x y = some z) : oneP x y = true ∧ oneN x y = z := by
  unfold oneP oneN
  rw [hid_eq, hid_eq]
  simp only [h]
  exact ⟨rfl, rfl⟩
noncomputable def oneS : OSpec := niceO sigOn oneP oneN
abbrev shrscan : List (Nat × List (Nat × Sh)) := [(2, [(0, (.one .sym)), (2, (.one .any)), (3, (.one .sym)), (4, (.one .sym)), (5, (.one (.vec ReqT 28)))])]
noncomputable def hrscan_0 (n : Nat) (t0 : List UInt8) (t3:Int) (t4 : Bool) (t5 : List (Ty.Den ReqT)) : Option (DenL [.slice ReqT, .int .i64, .bool]) := rH Tryz.prog (envO [] [(50, oneS)]) (shOf shrscan) Tryz.f33 [.slice ReqT, .int .i64, .bool] n 0 [(0, sy (.string (bs t0))), (2, Value.slice none 0 0), (3, sy (.int .i64 t3)), (4, .bool t4), (5, dt 9)] [.vec ReqT t5 28]
noncomputable def orscan (x : DenL [.str]) : Option (DenL [.slice ReqT, .int .i64, .bool]) := fO Tryz.prog (envO [] [(50, oneS)]) (shOf shrscan) Tryz.f33 [.str] [.slice ReqT, .int .i64, .bool] x
theorem erscan_g (N : Nat) (s : List UInt8) : fON Tryz.prog (envO [] [(50, oneS)]) (shOf shrscan) Tryz.f33 [.str] [.slice ReqT, .int .i64, .bool] N (s, ()) =
  (hrscan_0 N (s) ((0:Int)) (false) ([])) := by kernel_rfl
theorem orscan_g (x : DenL [.str]) : orscan x = fON Tryz.prog (envO [] [(50, oneS)]) (shOf shrscan) Tryz.f33 [.str] [.slice ReqT, .int .i64, .bool] heads0 x := rfl
theorem erscan_0 (n : Nat) (t0 : List UInt8) (t3:Int) (t4 : Bool) (t5 : List (Ty.Den ReqT)) : hrscan_0 (n + 1) t0 t3 t4 t5 =
  (bif decide ((↑t0.length:Int) > (0:Int)) then
 (gd [oneP () (t0, ())] (bif (oneN () (t0, ())).snd.snd.snd.fst != Int.negSucc 0 then
 (some (t5, (oneN () (t0, ())).snd.snd.snd.fst, false, ()))
 else
 (gd [decide ((0:Int) ≤ (oneN () (t0, ())).snd.snd.fst), decide ((oneN () (t0, ())).snd.snd.fst ≤ (↑t0.length:Int)), decide ((2 * (t5.length + 1) + 400) * 88 ≤ 281474976710656)] (hrscan_0 n (List.drop (Int.toNat (oneN () (t0, ())).snd.snd.fst) t0) (t3) (t4) (t5 ++ [((oneN () (t0, ())).snd.fst.fst, (oneN () (t0, ())).snd.fst.snd.fst, (oneN () (t0, ())).snd.fst.snd.snd.fst, (oneN () (t0, ())).snd.fst.snd.snd.snd.fst, (oneN () (t0, ())).snd.fst.snd.snd.snd.snd.fst, ())])))))
  else
 (some (t5, (0:Int), true, ()))) := by kernel_rfl
noncomputable def rscanP : DenL [.str] → Bool := hid fun x => (orscan x).isSome
noncomputable def rscanN : DenL [.str] → DenL [.slice ReqT, .int .i64, .bool] := hid fun x => (orscan x).getD (dfltL [.slice ReqT, .int .i64, .bool])
theorem rscan_hid {x : DenL [.str]} {z : DenL [.slice ReqT, .int .i64, .bool]} (h : orscan x = some z) : rscanP x = true ∧ rscanN x = z := by
  unfold rscanP rscanN
  rw [hid_eq, hid_eq]
  simp only [h]
  exact ⟨rfl, rfl⟩
noncomputable def rscanS : PSpec := ⟨[.str], [.slice ReqT, .int .i64, .bool], rscanP, rscanN⟩
abbrev sheqr : List (Nat × List (Nat × Sh)) := [(4, [(2, (.obj [.sym, .sym, .sym, (.dat (.pair .str (.pair .str .unit))), .sym])), (3, (.obj [.sym, .sym, .sym, (.dat (.pair .str (.pair .str .unit))), .sym])), (4, (.one .sym)), (5, (.one .sym))])]
noncomputable def heqr_0 (n : Nat) (t2_0 : List UInt8) (t2_1 : List UInt8) (t2_2 : List UInt8) (t2_3 : List (Ty.Den (.pair .str (.pair .str .unit)))) (t2_4 : List UInt8) (t3_0 : List UInt8) (t3_1 : List UInt8) (t3_2 : List UInt8) (t3_3 : List (Ty.Den (.pair .str (.pair .str .unit)))) (t3_4 : List UInt8) (t4 : Bool) (t5:Int) : Option (DenL [.bool]) := rH Tryz.prog (envS []) (shOf sheqr) Tryz.f43 [.bool] n 0 [(2, .pointer (some ⟨10, 0, none⟩)), (3, .pointer (some ⟨12, 0, none⟩)), (4, .bool t4), (5, sy (.int .i64 t5))] [.dat (.pair .str (.pair .str .unit)) t2_3, .row [sy (.string (bs t2_0)), sy (.string (bs t2_1)), sy (.string (bs t2_2)), dt 9, sy (.string (bs t2_4))] 28 false, .dat (.pair .str (.pair .str .unit)) t3_3, .row [sy (.string (bs t3_0)), sy (.string (bs t3_1)), sy (.string (bs t3_2)), dt 11, sy (.string (bs t3_4))] 28 false]
noncomputable def oeqr (x : DenL [ReqT, ReqT]) : Option (DenL [.bool]) := fO Tryz.prog (envS []) (shOf sheqr) Tryz.f43 [ReqT, ReqT] [.bool] x
theorem eeqr_g (N : Nat) (x y : Ty.Den ReqT) : fON Tryz.prog (envS []) (shOf sheqr) Tryz.f43 [ReqT, ReqT] [.bool] N (x, y, ()) =
  (bif !x.fst == y.fst then
 (some (false, ()))
  else
 (bif !x.snd.fst == y.snd.fst then
 (some (false, ()))
 else
 (bif !x.snd.snd.fst == y.snd.snd.fst then
 (some (false, ()))
 else
 (bif !x.snd.snd.snd.snd.fst == y.snd.snd.snd.snd.fst then
 (some (false, ()))
 else
 (bif (↑(List.length x.snd.snd.snd.fst):Int) != (↑(List.length y.snd.snd.snd.fst):Int) then
 (some (false, ()))
 else
 (heqr_0 N (x.fst) (x.snd.fst) (x.snd.snd.fst) (x.snd.snd.snd.fst) (x.snd.snd.snd.snd.fst) (y.fst) (y.snd.fst) (y.snd.snd.fst) (y.snd.snd.snd.fst) (y.snd.snd.snd.snd.fst) (false) ((0:Int)))))))) := by kernel_rfl
theorem oeqr_g (x : DenL [ReqT, ReqT]) : oeqr x = fON Tryz.prog (envS []) (shOf sheqr) Tryz.f43 [ReqT, ReqT] [.bool] heads0 x := rfl
theorem eeqr_0 (n : Nat) (t2_0 : List UInt8) (t2_1 : List UInt8) (t2_2 : List UInt8) (t2_3 : List (Ty.Den (.pair .str (.pair .str .unit)))) (t2_4 : List UInt8) (t3_0 : List UInt8) (t3_1 : List UInt8) (t3_2 : List UInt8) (t3_3 : List (Ty.Den (.pair .str (.pair .str .unit)))) (t3_4 : List UInt8) (t4 : Bool) (t5:Int) : heqr_0 (n + 1) t2_0 t2_1 t2_2 t2_3 t2_4 t3_0 t3_1 t3_2 t3_3 t3_4 t4 t5 =
  (bif decide (t5 < (↑t2_3.length:Int)) then
 (bif !((t2_3.getD t5.toNat (HeadT).dflt).fst == (t3_3.getD t5.toNat (HeadT).dflt).fst && ((t2_3.getD t5.toNat (HeadT).dflt).snd.fst == (t3_3.getD t5.toNat (HeadT).dflt).snd.fst && true)) then
 (gd [decide (t5.toNat < t3_3.length), decide ((0:Int) ≤ t5), decide (t5 < (↑t3_3.length:Int)), decide (t5.toNat < t2_3.length), decide ((0:Int) ≤ t5), decide (t5 < (↑t2_3.length:Int))] (some (false, ())))
 else
 (gd [decide (inK .i64 (t5 + (1:Int))), decide (t5.toNat < t3_3.length), decide ((0:Int) ≤ t5), decide (t5 < (↑t3_3.length:Int)), decide (t5.toNat < t2_3.length), decide ((0:Int) ≤ t5), decide (t5 < (↑t2_3.length:Int))] (heqr_0 n (t2_0) (t2_1) (t2_2) (t2_3) (t2_4) (t3_0) (t3_1) (t3_2) (t3_3) (t3_4) (t4) (t5 + (1:Int)))))
  else
 (some (true, ()))) := by kernel_rfl
noncomputable def eqrP : DenL [ReqT, ReqT] → Bool := hid fun x => (oeqr x).isSome
noncomputable def eqrN : DenL [ReqT, ReqT] → DenL [.bool] := hid fun x => (oeqr x).getD (dfltL [.bool])
theorem eqr_hid {x : DenL [ReqT, ReqT]} {z : DenL [.bool]} (h : oeqr x = some z) : eqrP x = true ∧ eqrN x = z := by
  unfold eqrP eqrN
  rw [hid_eq, hid_eq]
  simp only [h]
  exact ⟨rfl, rfl⟩
noncomputable def eqrS : PSpec := ⟨[ReqT, ReqT], [.bool], eqrP, eqrN⟩
abbrev shfeeds : List (Nat × List (Nat × Sh)) := [(4, [(0, (.one .sym)), (1, (.one (.dat (.int .i64)))), (4, (.one .any)), (5, (.one .any)), (6, (.obj [.sym, .sym, .sym, .sym, (.vec .byte 5), .sym, .sym, .sym, (.vec (.pair .str (.pair .str .unit)) 59), .sym, .sym, (.vec ReqT 28)])), (7, (.one (.vec ReqT 28))), (8, (.one .sym))])]
noncomputable def hfeeds_0 (n : Nat) (t0 : List UInt8) (t1 : List (Ty.Den (.int .i64))) (t6_0:Int) (t6_1:Int) (t6_2:Int) (t6_3:Int) (t6_4 : List (Ty.Den .byte)) (t6_5 : List UInt8) (t6_6 : List UInt8) (t6_7 : List UInt8) (t6_8 : List (Ty.Den (.pair .str (.pair .str .unit)))) (t6_9 : List UInt8) (t6_10:Int) (t6_11 : List (Ty.Den ReqT)) (t7 : List (Ty.Den ReqT)) (t8:Int) : Option ((sigFs).root.Den × DenO (sigFs).rs) := rHO Tryz.prog (envO [] [(35, feedS)]) (shOf shfeeds) Tryz.f26 (sigFs) [] n 0 [(0, sy (.string (bs t0))), (1, dt 9), (4, Value.slice none 0 0), (5, Value.pointer none), (6, .pointer (some ⟨13, 0, none⟩)), (7, dt 14), (8, sy (.int .i64 t8))] [.dat (.int .i64) t1, .vec .byte t6_4 5, .vec (.pair .str (.pair .str .unit)) t6_8 59, .vec ReqT t6_11 28, .row [sy (.int .i64 t6_0), sy (.int .i64 t6_1), sy (.int .i64 t6_2), sy (.int .i64 t6_3), dt 10, sy (.string (bs t6_5)), sy (.string (bs t6_6)), sy (.string (bs t6_7)), dt 11, sy (.string (bs t6_9)), sy (.int .i64 t6_10), dt 12] 77 false, .vec ReqT t7 28]
noncomputable def ofeeds (x : (sigFs).root.Den) (y : DenO (sigFs).ts) : Option ((sigFs).root.Den × DenO (sigFs).rs) := fOO Tryz.prog (envO [] [(35, feedS)]) (shOf shfeeds) Tryz.f26 (sigFs) x y
theorem efeeds_g (N : Nat) (s : List UInt8) (cs : List Int) : fOON Tryz.prog (envO [] [(35, feedS)]) (shOf shfeeds) Tryz.f26 (sigFs) N () (s, cs, ()) =
  (hfeeds_0 N (s) (cs) ((0:Int)) ((0:Int)) ((0:Int)) ((0:Int)) ([]) ([]) ([]) ([]) ([]) ([]) ((0:Int)) ([]) ([]) ((0:Int))) := by kernel_rfl
theorem ofeeds_g (x : (sigFs).root.Den) (y : DenO (sigFs).ts) : ofeeds x y = fOON Tryz.prog (envO [] [(35, feedS)]) (shOf shfeeds) Tryz.f26 (sigFs) heads0 x y := rfl
theorem efeeds_0 (n : Nat) (t0 : List UInt8) (t1 : List (Ty.Den (.int .i64))) (t6_0:Int) (t6_1:Int) (t6_2:Int) (t6_3:Int) (t6_4 : List (Ty.Den .byte)) (t6_5 : List UInt8) (t6_6 : List UInt8) (t6_7 : List UInt8) (t6_8 : List (Ty.Den (.pair .str (.pair .str .unit)))) (t6_9 : List UInt8) (t6_10:Int) (t6_11 : List (Ty.Den ReqT)) (t7 : List (Ty.Den ReqT)) (t8:Int) : hfeeds_0 (n + 1) t0 t1 t6_0 t6_1 t6_2 t6_3 t6_4 t6_5 t6_6 t6_7 t6_8 t6_9 t6_10 t6_11 t7 t8 =
  (bif decide (t8 < (↑t1.length:Int)) then
 (bif decide ((↑t0.length:Int) > (0:Int)) then
 (gd [decide (inK .i64 (t8 + (1:Int))), decide ((0:Int) ≤ min (↑t0.length:Int) ((Int.tmod (t1.getD t8.toNat (Ty.int IntKind.i64).dflt) ((40:Int)) + (40:Int)).tmod ((40:Int)))), decide (min (↑t0.length:Int) ((Int.tmod (t1.getD t8.toNat (Ty.int IntKind.i64).dflt) ((40:Int)) + (40:Int)).tmod ((40:Int))) ≤ (↑t0.length:Int)), decide ((2 * (t7.length + List.length (feedN (t6_0, t6_1, t6_2, t6_3, t6_4, (t6_5, t6_6, t6_7, t6_8, t6_9, ()), t6_10, t6_11, ()) (List.take (min (↑t0.length:Int) ((Int.tmod (t1.getD t8.toNat (Ty.int IntKind.i64).dflt) ((40:Int)) + (40:Int)).tmod ((40:Int)))).toNat t0, ())).snd.fst) + 400) * 88 ≤ 281474976710656), feedP (t6_0, t6_1, t6_2, t6_3, t6_4, (t6_5, t6_6, t6_7, t6_8, t6_9, ()), t6_10, t6_11, ()) (List.take (min (↑t0.length:Int) ((Int.tmod (t1.getD t8.toNat (Ty.int IntKind.i64).dflt) ((40:Int)) + (40:Int)).tmod ((40:Int)))).toNat t0, ()), decide ((0:Int) ≤ min (↑t0.length:Int) ((Int.tmod (t1.getD t8.toNat (Ty.int IntKind.i64).dflt) ((40:Int)) + (40:Int)).tmod ((40:Int)))), decide (min (↑t0.length:Int) ((Int.tmod (t1.getD t8.toNat (Ty.int IntKind.i64).dflt) ((40:Int)) + (40:Int)).tmod ((40:Int))) ≤ (↑t0.length:Int)), decide (inK .i64 (Int.tmod (t1.getD t8.toNat (Ty.int IntKind.i64).dflt) ((40:Int)) + (40:Int))), decide (t8.toNat < t1.length), decide ((0:Int) ≤ t8), decide (t8 < (↑t1.length:Int))] (hfeeds_0 n (List.drop (min (↑t0.length:Int) ((Int.tmod (t1.getD t8.toNat (Ty.int IntKind.i64).dflt) ((40:Int)) + (40:Int)).tmod ((40:Int)))).toNat t0) (t1) ((feedN (t6_0, t6_1, t6_2, t6_3, t6_4, (t6_5, t6_6, t6_7, t6_8, t6_9, ()), t6_10, t6_11, ()) (List.take (min (↑t0.length:Int) ((Int.tmod (t1.getD t8.toNat (Ty.int IntKind.i64).dflt) ((40:Int)) + (40:Int)).tmod ((40:Int)))).toNat t0, ())).fst.fst) ((feedN (t6_0, t6_1, t6_2, t6_3, t6_4, (t6_5, t6_6, t6_7, t6_8, t6_9, ()), t6_10, t6_11, ()) (List.take (min (↑t0.length:Int) ((Int.tmod (t1.getD t8.toNat (Ty.int IntKind.i64).dflt) ((40:Int)) + (40:Int)).tmod ((40:Int)))).toNat t0, ())).fst.snd.fst) ((feedN (t6_0, t6_1, t6_2, t6_3, t6_4, (t6_5, t6_6, t6_7, t6_8, t6_9, ()), t6_10, t6_11, ()) (List.take (min (↑t0.length:Int) ((Int.tmod (t1.getD t8.toNat (Ty.int IntKind.i64).dflt) ((40:Int)) + (40:Int)).tmod ((40:Int)))).toNat t0, ())).fst.snd.snd.fst) ((feedN (t6_0, t6_1, t6_2, t6_3, t6_4, (t6_5, t6_6, t6_7, t6_8, t6_9, ()), t6_10, t6_11, ()) (List.take (min (↑t0.length:Int) ((Int.tmod (t1.getD t8.toNat (Ty.int IntKind.i64).dflt) ((40:Int)) + (40:Int)).tmod ((40:Int)))).toNat t0, ())).fst.snd.snd.snd.fst) ((feedN (t6_0, t6_1, t6_2, t6_3, t6_4, (t6_5, t6_6, t6_7, t6_8, t6_9, ()), t6_10, t6_11, ()) (List.take (min (↑t0.length:Int) ((Int.tmod (t1.getD t8.toNat (Ty.int IntKind.i64).dflt) ((40:Int)) + (40:Int)).tmod ((40:Int)))).toNat t0, ())).fst.snd.snd.snd.snd.fst) ((feedN (t6_0, t6_1, t6_2, t6_3, t6_4, (t6_5, t6_6, t6_7, t6_8, t6_9, ()), t6_10, t6_11, ()) (List.take (min (↑t0.length:Int) ((Int.tmod (t1.getD t8.toNat (Ty.int IntKind.i64).dflt) ((40:Int)) + (40:Int)).tmod ((40:Int)))).toNat t0, ())).fst.snd.snd.snd.snd.snd.fst.fst) ((feedN (t6_0, t6_1, t6_2, t6_3, t6_4, (t6_5, t6_6, t6_7, t6_8, t6_9, ()), t6_10, t6_11, ()) (List.take (min (↑t0.length:Int) ((Int.tmod (t1.getD t8.toNat (Ty.int IntKind.i64).dflt) ((40:Int)) + (40:Int)).tmod ((40:Int)))).toNat t0, ())).fst.snd.snd.snd.snd.snd.fst.snd.fst) ((feedN (t6_0, t6_1, t6_2, t6_3, t6_4, (t6_5, t6_6, t6_7, t6_8, t6_9, ()), t6_10, t6_11, ()) (List.take (min (↑t0.length:Int) ((Int.tmod (t1.getD t8.toNat (Ty.int IntKind.i64).dflt) ((40:Int)) + (40:Int)).tmod ((40:Int)))).toNat t0, ())).fst.snd.snd.snd.snd.snd.fst.snd.snd.fst) ((feedN (t6_0, t6_1, t6_2, t6_3, t6_4, (t6_5, t6_6, t6_7, t6_8, t6_9, ()), t6_10, t6_11, ()) (List.take (min (↑t0.length:Int) ((Int.tmod (t1.getD t8.toNat (Ty.int IntKind.i64).dflt) ((40:Int)) + (40:Int)).tmod ((40:Int)))).toNat t0, ())).fst.snd.snd.snd.snd.snd.fst.snd.snd.snd.fst) ((feedN (t6_0, t6_1, t6_2, t6_3, t6_4, (t6_5, t6_6, t6_7, t6_8, t6_9, ()), t6_10, t6_11, ()) (List.take (min (↑t0.length:Int) ((Int.tmod (t1.getD t8.toNat (Ty.int IntKind.i64).dflt) ((40:Int)) + (40:Int)).tmod ((40:Int)))).toNat t0, ())).fst.snd.snd.snd.snd.snd.fst.snd.snd.snd.snd.fst) ((feedN (t6_0, t6_1, t6_2, t6_3, t6_4, (t6_5, t6_6, t6_7, t6_8, t6_9, ()), t6_10, t6_11, ()) (List.take (min (↑t0.length:Int) ((Int.tmod (t1.getD t8.toNat (Ty.int IntKind.i64).dflt) ((40:Int)) + (40:Int)).tmod ((40:Int)))).toNat t0, ())).fst.snd.snd.snd.snd.snd.snd.fst) ((feedN (t6_0, t6_1, t6_2, t6_3, t6_4, (t6_5, t6_6, t6_7, t6_8, t6_9, ()), t6_10, t6_11, ()) (List.take (min (↑t0.length:Int) ((Int.tmod (t1.getD t8.toNat (Ty.int IntKind.i64).dflt) ((40:Int)) + (40:Int)).tmod ((40:Int)))).toNat t0, ())).fst.snd.snd.snd.snd.snd.snd.snd.fst) (t7 ++ (feedN (t6_0, t6_1, t6_2, t6_3, t6_4, (t6_5, t6_6, t6_7, t6_8, t6_9, ()), t6_10, t6_11, ()) (List.take (min (↑t0.length:Int) ((Int.tmod (t1.getD t8.toNat (Ty.int IntKind.i64).dflt) ((40:Int)) + (40:Int)).tmod ((40:Int)))).toNat t0, ())).snd.fst) (t8 + (1:Int))))
 else
 (gd [decide ((2 * (t7.length + List.length (feedN (t6_0, t6_1, t6_2, t6_3, t6_4, (t6_5, t6_6, t6_7, t6_8, t6_9, ()), t6_10, t6_11, ()) (t0, ())).snd.fst) + 400) * 88 ≤ 281474976710656), feedP (t6_0, t6_1, t6_2, t6_3, t6_4, (t6_5, t6_6, t6_7, t6_8, t6_9, ()), t6_10, t6_11, ()) (t0, ())] (some ((), t7 ++ (feedN (t6_0, t6_1, t6_2, t6_3, t6_4, (t6_5, t6_6, t6_7, t6_8, t6_9, ()), t6_10, t6_11, ()) (t0, ())).snd.fst, ((feedN (t6_0, t6_1, t6_2, t6_3, t6_4, (t6_5, t6_6, t6_7, t6_8, t6_9, ()), t6_10, t6_11, ()) (t0, ())).fst.fst, (feedN (t6_0, t6_1, t6_2, t6_3, t6_4, (t6_5, t6_6, t6_7, t6_8, t6_9, ()), t6_10, t6_11, ()) (t0, ())).fst.snd.fst, (feedN (t6_0, t6_1, t6_2, t6_3, t6_4, (t6_5, t6_6, t6_7, t6_8, t6_9, ()), t6_10, t6_11, ()) (t0, ())).fst.snd.snd.fst, (feedN (t6_0, t6_1, t6_2, t6_3, t6_4, (t6_5, t6_6, t6_7, t6_8, t6_9, ()), t6_10, t6_11, ()) (t0, ())).fst.snd.snd.snd.fst, (feedN (t6_0, t6_1, t6_2, t6_3, t6_4, (t6_5, t6_6, t6_7, t6_8, t6_9, ()), t6_10, t6_11, ()) (t0, ())).fst.snd.snd.snd.snd.fst, ((feedN (t6_0, t6_1, t6_2, t6_3, t6_4, (t6_5, t6_6, t6_7, t6_8, t6_9, ()), t6_10, t6_11, ()) (t0, ())).fst.snd.snd.snd.snd.snd.fst.fst, (feedN (t6_0, t6_1, t6_2, t6_3, t6_4, (t6_5, t6_6, t6_7, t6_8, t6_9, ()), t6_10, t6_11, ()) (t0, ())).fst.snd.snd.snd.snd.snd.fst.snd.fst, (feedN (t6_0, t6_1, t6_2, t6_3, t6_4, (t6_5, t6_6, t6_7, t6_8, t6_9, ()), t6_10, t6_11, ()) (t0, ())).fst.snd.snd.snd.snd.snd.fst.snd.snd.fst, (feedN (t6_0, t6_1, t6_2, t6_3, t6_4, (t6_5, t6_6, t6_7, t6_8, t6_9, ()), t6_10, t6_11, ()) (t0, ())).fst.snd.snd.snd.snd.snd.fst.snd.snd.snd.fst, (feedN (t6_0, t6_1, t6_2, t6_3, t6_4, (t6_5, t6_6, t6_7, t6_8, t6_9, ()), t6_10, t6_11, ()) (t0, ())).fst.snd.snd.snd.snd.snd.fst.snd.snd.snd.snd.fst, ()), (feedN (t6_0, t6_1, t6_2, t6_3, t6_4, (t6_5, t6_6, t6_7, t6_8, t6_9, ()), t6_10, t6_11, ()) (t0, ())).fst.snd.snd.snd.snd.snd.snd.fst, (feedN (t6_0, t6_1, t6_2, t6_3, t6_4, (t6_5, t6_6, t6_7, t6_8, t6_9, ()), t6_10, t6_11, ()) (t0, ())).fst.snd.snd.snd.snd.snd.snd.snd.fst, ()), ()))))
  else
 (gd [decide ((2 * (t7.length + List.length (feedN (t6_0, t6_1, t6_2, t6_3, t6_4, (t6_5, t6_6, t6_7, t6_8, t6_9, ()), t6_10, t6_11, ()) (t0, ())).snd.fst) + 400) * 88 ≤ 281474976710656), feedP (t6_0, t6_1, t6_2, t6_3, t6_4, (t6_5, t6_6, t6_7, t6_8, t6_9, ()), t6_10, t6_11, ()) (t0, ())] (some ((), t7 ++ (feedN (t6_0, t6_1, t6_2, t6_3, t6_4, (t6_5, t6_6, t6_7, t6_8, t6_9, ()), t6_10, t6_11, ()) (t0, ())).snd.fst, ((feedN (t6_0, t6_1, t6_2, t6_3, t6_4, (t6_5, t6_6, t6_7, t6_8, t6_9, ()), t6_10, t6_11, ()) (t0, ())).fst.fst, (feedN (t6_0, t6_1, t6_2, t6_3, t6_4, (t6_5, t6_6, t6_7, t6_8, t6_9, ()), t6_10, t6_11, ()) (t0, ())).fst.snd.fst, (feedN (t6_0, t6_1, t6_2, t6_3, t6_4, (t6_5, t6_6, t6_7, t6_8, t6_9, ()), t6_10, t6_11, ()) (t0, ())).fst.snd.snd.fst, (feedN (t6_0, t6_1, t6_2, t6_3, t6_4, (t6_5, t6_6, t6_7, t6_8, t6_9, ()), t6_10, t6_11, ()) (t0, ())).fst.snd.snd.snd.fst, (feedN (t6_0, t6_1, t6_2, t6_3, t6_4, (t6_5, t6_6, t6_7, t6_8, t6_9, ()), t6_10, t6_11, ()) (t0, ())).fst.snd.snd.snd.snd.fst, ((feedN (t6_0, t6_1, t6_2, t6_3, t6_4, (t6_5, t6_6, t6_7, t6_8, t6_9, ()), t6_10, t6_11, ()) (t0, ())).fst.snd.snd.snd.snd.snd.fst.fst, (feedN (t6_0, t6_1, t6_2, t6_3, t6_4, (t6_5, t6_6, t6_7, t6_8, t6_9, ()), t6_10, t6_11, ()) (t0, ())).fst.snd.snd.snd.snd.snd.fst.snd.fst, (feedN (t6_0, t6_1, t6_2, t6_3, t6_4, (t6_5, t6_6, t6_7, t6_8, t6_9, ()), t6_10, t6_11, ()) (t0, ())).fst.snd.snd.snd.snd.snd.fst.snd.snd.fst, (feedN (t6_0, t6_1, t6_2, t6_3, t6_4, (t6_5, t6_6, t6_7, t6_8, t6_9, ()), t6_10, t6_11, ()) (t0, ())).fst.snd.snd.snd.snd.snd.fst.snd.snd.snd.fst, (feedN (t6_0, t6_1, t6_2, t6_3, t6_4, (t6_5, t6_6, t6_7, t6_8, t6_9, ()), t6_10, t6_11, ()) (t0, ())).fst.snd.snd.snd.snd.snd.fst.snd.snd.snd.snd.fst, ()), (feedN (t6_0, t6_1, t6_2, t6_3, t6_4, (t6_5, t6_6, t6_7, t6_8, t6_9, ()), t6_10, t6_11, ()) (t0, ())).fst.snd.snd.snd.snd.snd.snd.fst, (feedN (t6_0, t6_1, t6_2, t6_3, t6_4, (t6_5, t6_6, t6_7, t6_8, t6_9, ()), t6_10, t6_11, ()) (t0, ())).fst.snd.snd.snd.snd.snd.snd.snd.fst, ()), ())))) := by kernel_rfl
noncomputable def feedsP : (sigFs).root.Den → DenO (sigFs).ts → Bool := hid fun x y => (ofeeds x y).isSome
noncomputable def feedsN : (sigFs).root.Den → DenO (sigFs).ts → (sigFs).root.Den × DenO (sigFs).rs := hid fun x y => (ofeeds x y).getD ((sigFs).root.dflt, dfltO (sigFs).rs)
theorem feeds_hid {x : (sigFs).root.Den} {y : DenO (sigFs).ts} {z : (sigFs).root.Den × DenO (sigFs).rs} (h : ofeeds x y = some z) : feedsP x y = true ∧ feedsN x y = z := by
  unfold feedsP feedsN
  rw [hid_eq, hid_eq]
  simp only [h]
  exact ⟨rfl, rfl⟩
noncomputable def feedsS : OSpec := niceO sigFs feedsP feedsN
abbrev shsame : List (Nat × List (Nat × Sh)) := [(6, [(4, (.one .sym)), (5, (.one (.vec ReqT 28))), (7, (.one (.dat ReqT))), (10, (.one .sym))])]
noncomputable def hsame_0 (n : Nat) (t4 : Bool) (t5 : List (Ty.Den ReqT)) (t7 : List (Ty.Den ReqT)) (t10:Int) : Option (DenL [.bool]) := rH Tryz.prog (envO [(33, rscanS), (43, eqrS)] [(26, feedsS), (36, idleS)]) (shOf shsame) Tryz.f23 [.bool] n 0 [(4, .bool t4), (5, dt 9), (7, dt 10), (10, sy (.int .i64 t10))] [.vec ReqT t5 28, .dat ReqT t7]
noncomputable def osame (x : DenL [.str, .slice (.int .i64)]) : Option (DenL [.bool]) := fO Tryz.prog (envO [(33, rscanS), (43, eqrS)] [(26, feedsS), (36, idleS)]) (shOf shsame) Tryz.f23 [.str, .slice (.int .i64)] [.bool] x
theorem esame_g (N : Nat) (s : List UInt8) (cs : List Int) : fON Tryz.prog (envO [(33, rscanS), (43, eqrS)] [(26, feedsS), (36, idleS)]) (shOf shsame) Tryz.f23 [.str, .slice (.int .i64)] [.bool] N (s, cs, ()) =
  (gd [feedsP () (s, cs, ())] (bif (rscanN (s, ())).snd.snd.fst then
 (gd [rscanP (s, ())] (bif (↑(List.length (feedsN () (s, cs, ())).snd.fst):Int) != (↑(List.length (rscanN (s, ())).fst):Int) then
 (some (false, ()))
 else
 (bif (feedsN () (s, cs, ())).snd.snd.fst.snd.fst != (rscanN (s, ())).snd.fst then
 (some (false, ()))
 else
 (bif idleN ((feedsN () (s, cs, ())).snd.snd.fst.fst, (feedsN () (s, cs, ())).snd.snd.fst.snd.fst, (feedsN () (s, cs, ())).snd.snd.fst.snd.snd.fst, (feedsN () (s, cs, ())).snd.snd.fst.snd.snd.snd.fst, (feedsN () (s, cs, ())).snd.snd.fst.snd.snd.snd.snd.fst, ((feedsN () (s, cs, ())).snd.snd.fst.snd.snd.snd.snd.snd.fst.fst, (feedsN () (s, cs, ())).snd.snd.fst.snd.snd.snd.snd.snd.fst.snd.fst, (feedsN () (s, cs, ())).snd.snd.fst.snd.snd.snd.snd.snd.fst.snd.snd.fst, (feedsN () (s, cs, ())).snd.snd.fst.snd.snd.snd.snd.snd.fst.snd.snd.snd.fst, (feedsN () (s, cs, ())).snd.snd.fst.snd.snd.snd.snd.snd.fst.snd.snd.snd.snd.fst, ()), (feedsN () (s, cs, ())).snd.snd.fst.snd.snd.snd.snd.snd.snd.fst, (feedsN () (s, cs, ())).snd.snd.fst.snd.snd.snd.snd.snd.snd.snd.fst, ()) then
 (hsame_0 N (false) ((feedsN () (s, cs, ())).snd.fst) ((rscanN (s, ())).fst) ((0:Int)))
 else
 (some (false, ()))))))
  else
 (gd [rscanP (s, ())] (bif (↑(List.length (feedsN () (s, cs, ())).snd.fst):Int) != (↑(List.length (rscanN (s, ())).fst):Int) then
 (some (false, ()))
 else
 (bif (feedsN () (s, cs, ())).snd.snd.fst.snd.fst != (rscanN (s, ())).snd.fst then
 (some (false, ()))
 else
 (bif idleN ((feedsN () (s, cs, ())).snd.snd.fst.fst, (feedsN () (s, cs, ())).snd.snd.fst.snd.fst, (feedsN () (s, cs, ())).snd.snd.fst.snd.snd.fst, (feedsN () (s, cs, ())).snd.snd.fst.snd.snd.snd.fst, (feedsN () (s, cs, ())).snd.snd.fst.snd.snd.snd.snd.fst, ((feedsN () (s, cs, ())).snd.snd.fst.snd.snd.snd.snd.snd.fst.fst, (feedsN () (s, cs, ())).snd.snd.fst.snd.snd.snd.snd.snd.fst.snd.fst, (feedsN () (s, cs, ())).snd.snd.fst.snd.snd.snd.snd.snd.fst.snd.snd.fst, (feedsN () (s, cs, ())).snd.snd.fst.snd.snd.snd.snd.snd.fst.snd.snd.snd.fst, (feedsN () (s, cs, ())).snd.snd.fst.snd.snd.snd.snd.snd.fst.snd.snd.snd.snd.fst, ()), (feedsN () (s, cs, ())).snd.snd.fst.snd.snd.snd.snd.snd.snd.fst, (feedsN () (s, cs, ())).snd.snd.fst.snd.snd.snd.snd.snd.snd.snd.fst, ()) then
 (bif (rscanN (s, ())).snd.fst != (0:Int) then
 (hsame_0 N (false) ((feedsN () (s, cs, ())).snd.fst) ((rscanN (s, ())).fst) ((0:Int)))
 else
 (some (false, ())))
 else
 (bif (rscanN (s, ())).snd.fst != (0:Int) then
 (some (false, ()))
 else
 (hsame_0 N (false) ((feedsN () (s, cs, ())).snd.fst) ((rscanN (s, ())).fst) ((0:Int)))))))))) := by kernel_rfl
theorem osame_g (x : DenL [.str, .slice (.int .i64)]) : osame x = fON Tryz.prog (envO [(33, rscanS), (43, eqrS)] [(26, feedsS), (36, idleS)]) (shOf shsame) Tryz.f23 [.str, .slice (.int .i64)] [.bool] heads0 x := rfl
theorem esame_0 (n : Nat) (t4 : Bool) (t5 : List (Ty.Den ReqT)) (t7 : List (Ty.Den ReqT)) (t10:Int) : hsame_0 (n + 1) t4 t5 t7 t10 =
  (bif decide (t10 < (↑t5.length:Int)) then
 (bif (eqrN (((t5.getD t10.toNat (ReqT).dflt).fst, (t5.getD t10.toNat (ReqT).dflt).snd.fst, (t5.getD t10.toNat (ReqT).dflt).snd.snd.fst, (t5.getD t10.toNat (ReqT).dflt).snd.snd.snd.fst, (t5.getD t10.toNat (ReqT).dflt).snd.snd.snd.snd.fst, ()), ((t7.getD t10.toNat (ReqT).dflt).fst, (t7.getD t10.toNat (ReqT).dflt).snd.fst, (t7.getD t10.toNat (ReqT).dflt).snd.snd.fst, (t7.getD t10.toNat (ReqT).dflt).snd.snd.snd.fst, (t7.getD t10.toNat (ReqT).dflt).snd.snd.snd.snd.fst, ()), ())).fst then
 (gd [decide (inK .i64 (t10 + (1:Int))), eqrP (((t5.getD t10.toNat (ReqT).dflt).fst, (t5.getD t10.toNat (ReqT).dflt).snd.fst, (t5.getD t10.toNat (ReqT).dflt).snd.snd.fst, (t5.getD t10.toNat (ReqT).dflt).snd.snd.snd.fst, (t5.getD t10.toNat (ReqT).dflt).snd.snd.snd.snd.fst, ()), ((t7.getD t10.toNat (ReqT).dflt).fst, (t7.getD t10.toNat (ReqT).dflt).snd.fst, (t7.getD t10.toNat (ReqT).dflt).snd.snd.fst, (t7.getD t10.toNat (ReqT).dflt).snd.snd.snd.fst, (t7.getD t10.toNat (ReqT).dflt).snd.snd.snd.snd.fst, ()), ()), decide (t10.toNat < t7.length), decide ((0:Int) ≤ t10), decide (t10 < (↑t7.length:Int)), decide (t10.toNat < t5.length), decide ((0:Int) ≤ t10), decide (t10 < (↑t5.length:Int))] (hsame_0 n (t4) (t5) (t7) (t10 + (1:Int))))
 else
 (gd [eqrP (((t5.getD t10.toNat (ReqT).dflt).fst, (t5.getD t10.toNat (ReqT).dflt).snd.fst, (t5.getD t10.toNat (ReqT).dflt).snd.snd.fst, (t5.getD t10.toNat (ReqT).dflt).snd.snd.snd.fst, (t5.getD t10.toNat (ReqT).dflt).snd.snd.snd.snd.fst, ()), ((t7.getD t10.toNat (ReqT).dflt).fst, (t7.getD t10.toNat (ReqT).dflt).snd.fst, (t7.getD t10.toNat (ReqT).dflt).snd.snd.fst, (t7.getD t10.toNat (ReqT).dflt).snd.snd.snd.fst, (t7.getD t10.toNat (ReqT).dflt).snd.snd.snd.snd.fst, ()), ()), decide (t10.toNat < t7.length), decide ((0:Int) ≤ t10), decide (t10 < (↑t7.length:Int)), decide (t10.toNat < t5.length), decide ((0:Int) ≤ t10), decide (t10 < (↑t5.length:Int))] (some (false, ()))))
  else
 (some (true, ()))) := by kernel_rfl
noncomputable def sameP : DenL [.str, .slice (.int .i64)] → Bool := hid fun x => (osame x).isSome
noncomputable def sameN : DenL [.str, .slice (.int .i64)] → DenL [.bool] := hid fun x => (osame x).getD (dfltL [.bool])
theorem same_hid {x : DenL [.str, .slice (.int .i64)]} {z : DenL [.bool]} (h : osame x = some z) : sameP x = true ∧ sameN x = z := by
  unfold sameP sameN
  rw [hid_eq, hid_eq]
  simp only [h]
  exact ⟨rfl, rfl⟩
noncomputable def sameS : PSpec := ⟨[.str, .slice (.int .i64)], [.bool], sameP, sameN⟩
end Go.Proofs.YtpdbgpkedehpgaaGreatDoor
