/-
  armariumlaw15.ScanMany: the plain law and the contract of the function. No condition.
-/
import Derived.Test.YtpdbgpkedehpgaaGreatDoorLawB
import Derived.Test.YtpdbgpkedehpgaaGreatDoorLM6
import Derived.Test.YtpdbgpkedehpgaaGreatDoorCDig
namespace Go.Proofs.YtpdbgpkedehpgaaGreatDoor
open Go Go.Eng Nice
set_option maxRecDepth 1000000
abbrev kP1 : List UInt8 := [80, 85, 84, 32, 47, 111, 47, 107]
abbrev kP2 : List UInt8 := [32, 72, 84, 84, 80, 47, 49, 46, 49, 13, 10, 67, 111, 110, 116, 101, 110, 116, 45, 76, 101, 110, 103, 116, 104, 58]
abbrev shlawMany : List (Nat × List (Nat × Sh)) := [(7, [(0, (.one (.dat .str))), (1, (.one .sym)), (4, (.one .sym)), (6, (.one .sym)), (7, (.one .sym)), (8, (.one .sym))]), (16, [(0, (.one (.dat .str))), (4, (.one .sym)), (6, (.one .sym)), (7, (.one .sym)), (10, (.obj [.sym, .sym, .sym, .sym, (.vec .byte 5), .sym, .sym, .sym, (.vec (.pair .str (.pair .str .unit)) 59), .sym, .sym, (.vec ReqT 28)])), (11, (.one (.vec ReqT 28))), (12, (.one .sym))]), (21, [(0, (.one (.dat .str))), (4, (.one .sym)), (7, (.one .sym)), (10, (.obj [.sym, .sym, .sym, .sym, (.vec .byte 5), .sym, .sym, .sym, (.vec (.pair .str (.pair .str .unit)) 59), .sym, .sym, (.vec ReqT 28)])), (11, (.one (.vec ReqT 28))), (13, (.one .sym))])]
noncomputable def hlawMany_0 (n : Nat) (t0 : List (Ty.Den .str)) (t1 : Bool) (t4 : Bool) (t6 : List UInt8) (t7:Int) (t8:Int) : Option (DenL [.bool]) := rH Tryz.prog (envO [(21, trueS), (24, cutS), (25, digitsS)] [(35, feedS), (36, idleS)]) (shOf shlawMany) Tryz.f13 [.bool] n 0 [(0, dt 9), (1, .bool t1), (4, .bool t4), (6, sy (.string (bs t6))), (7, sy (.int .i64 t7)), (8, sy (.int .i64 t8))] [.dat .str t0]
noncomputable def hlawMany_1 (n : Nat) (t0 : List (Ty.Den .str)) (t4 : Bool) (t6 : List UInt8) (t7:Int) (t10_0:Int) (t10_1:Int) (t10_2:Int) (t10_3:Int) (t10_4 : List UInt8) (t10_5 : List UInt8) (t10_6 : List UInt8) (t10_7 : List UInt8) (t10_8 : List (HeadD)) (t10_9 : List UInt8) (t10_10:Int) (t10_11 : List (Ty.Den ReqT)) (t11 : List (Ty.Den ReqT)) (t12:Int) : Option (DenL [.bool]) := rH Tryz.prog (envO [(21, trueS), (24, cutS), (25, digitsS)] [(35, feedS), (36, idleS)]) (shOf shlawMany) Tryz.f13 [.bool] n 1 [(0, dt 9), (4, .bool t4), (6, sy (.string (bs t6))), (7, sy (.int .i64 t7)), (10, .pointer (some ⟨13, 0, none⟩)), (11, dt 14), (12, sy (.int .i64 t12))] [.dat .str t0, .vec .byte t10_4 5, .vec (.pair .str (.pair .str .unit)) t10_8 59, .vec ReqT t10_11 28, .row [sy (.int .i64 t10_0), sy (.int .i64 t10_1), sy (.int .i64 t10_2), sy (.int .i64 t10_3), dt 10, sy (.string (bs t10_5)), sy (.string (bs t10_6)), sy (.string (bs t10_7)), dt 11, sy (.string (bs t10_9)), sy (.int .i64 t10_10), dt 12] 77 false, .vec ReqT t11 28]
noncomputable def hlawMany_2 (n : Nat) (t0 : List (Ty.Den .str)) (t4 : Bool) (t7:Int) (t10_0:Int) (t10_1:Int) (t10_2:Int) (t10_3:Int) (t10_4 : List UInt8) (t10_5 : List UInt8) (t10_6 : List UInt8) (t10_7 : List UInt8) (t10_8 : List (HeadD)) (t10_9 : List UInt8) (t10_10:Int) (t10_11 : List (Ty.Den ReqT)) (t11 : List (Ty.Den ReqT)) (t13:Int) : Option (DenL [.bool]) := rH Tryz.prog (envO [(21, trueS), (24, cutS), (25, digitsS)] [(35, feedS), (36, idleS)]) (shOf shlawMany) Tryz.f13 [.bool] n 2 [(0, dt 9), (4, .bool t4), (7, sy (.int .i64 t7)), (10, .pointer (some ⟨13, 0, none⟩)), (11, dt 14), (13, sy (.int .i64 t13))] [.dat .str t0, .vec .byte t10_4 5, .vec (.pair .str (.pair .str .unit)) t10_8 59, .vec ReqT t10_11 28, .row [sy (.int .i64 t10_0), sy (.int .i64 t10_1), sy (.int .i64 t10_2), sy (.int .i64 t10_3), dt 10, sy (.string (bs t10_5)), sy (.string (bs t10_6)), sy (.string (bs t10_7)), dt 11, sy (.string (bs t10_9)), sy (.int .i64 t10_10), dt 12] 77 false, .vec ReqT t11 28]
noncomputable def olawMany (x : DenL [.slice .str, .bool]) : Option (DenL [.bool]) := fO Tryz.prog (envO [(21, trueS), (24, cutS), (25, digitsS)] [(35, feedS), (36, idleS)]) (shOf shlawMany) Tryz.f13 [.slice .str, .bool] [.bool] x
theorem elawMany_g (N : Nat) (l : List (List UInt8)) (b : Bool) : fON Tryz.prog (envO [(21, trueS), (24, cutS), (25, digitsS)] [(35, feedS), (36, idleS)]) (shOf shlawMany) Tryz.f13 [.slice .str, .bool] [.bool] N (l, b, ()) =
  (hlawMany_0 N (l) (b) (false) ([]) ((0:Int)) ((0:Int))) := by kernel_rfl
theorem olawMany_g (x : DenL [.slice .str, .bool]) : olawMany x = fON Tryz.prog (envO [(21, trueS), (24, cutS), (25, digitsS)] [(35, feedS), (36, idleS)]) (shOf shlawMany) Tryz.f13 [.slice .str, .bool] [.bool] heads0 x := rfl
theorem elawMany_0 (n : Nat) (t0 : List (Ty.Den .str)) (t1 : Bool) (t4 : Bool) (t6 : List UInt8) (t7:Int) (t8:Int) : hlawMany_0 (n + 1) t0 t1 t4 t6 t7 t8 =
  (bif decide (t8 < (↑t0.length:Int)) then
 (bif decide (t8 < (6:Int)) then
 (gd [decide (inK .i64 (t8 + (1:Int))), decide (inK .i64 (t7 + (1:Int))), decide (t6.length + (kP1 ++ digits t8 ++ kP2 ++ digits (↑(cut (t0.getD t8.toNat Ty.str.dflt) ((100:Int))).length:Int) ++ [13, 10, 13, 10] ++ cut (t0.getD t8.toNat Ty.str.dflt) ((100:Int))).length ≤ 1099511627776), decide ((kP1 ++ digits t8 ++ kP2 ++ digits (↑(cut (t0.getD t8.toNat Ty.str.dflt) ((100:Int))).length:Int) ++ [13, 10, 13, 10]).length + (cut (t0.getD t8.toNat Ty.str.dflt) ((100:Int))).length ≤ 1099511627776), decide ((kP1 ++ digits t8 ++ kP2 ++ digits (↑(cut (t0.getD t8.toNat Ty.str.dflt) ((100:Int))).length:Int)).length + 4 ≤ 1099511627776), decide ((kP1 ++ digits t8 ++ kP2).length + (digits (↑(cut (t0.getD t8.toNat Ty.str.dflt) ((100:Int))).length:Int)).length ≤ 1099511627776), decide (Int.negSucc 9223372036854775807 ≤ (↑(cut (t0.getD t8.toNat Ty.str.dflt) ((100:Int))).length:Int)) && decide ((↑(cut (t0.getD t8.toNat Ty.str.dflt) ((100:Int))).length:Int) ≤ (9223372036854775807:Int)), decide ((kP1 ++ digits t8).length + 26 ≤ 1099511627776), decide (8 + (digits t8).length ≤ 1099511627776), decide (Int.negSucc 9223372036854775807 ≤ t8) && decide (t8 ≤ (9223372036854775807:Int)), decide (t8.toNat < t0.length), decide ((0:Int) ≤ t8), decide (t8 < (↑t0.length:Int))] (hlawMany_0 n (t0) (t1) (t4) (t6 ++ (kP1 ++ digits t8 ++ kP2 ++ digits (↑(cut (t0.getD t8.toNat Ty.str.dflt) ((100:Int))).length:Int) ++ [13, 10, 13, 10] ++ cut (t0.getD t8.toNat Ty.str.dflt) ((100:Int)))) (t7 + (1:Int)) (t8 + (1:Int))))
 else
 (bif t1 then
 (hlawMany_1 n (t0) (t4) (t6) (t7) ((0:Int)) ((0:Int)) ((0:Int)) ((0:Int)) ([]) ([]) ([]) ([]) ([]) ([]) ((0:Int)) ([]) ([]) ((0:Int)))
 else
 (gd [feedP (initX []) (t6, ())] (hlawMany_2 n (t0) (t4) (t7) ((feedN (initX []) (t6, ())).fst.fst) ((feedN (initX []) (t6, ())).fst.snd.fst) ((feedN (initX []) (t6, ())).fst.snd.snd.fst) ((feedN (initX []) (t6, ())).fst.snd.snd.snd.fst) ((feedN (initX []) (t6, ())).fst.snd.snd.snd.snd.fst) ((feedN (initX []) (t6, ())).fst.snd.snd.snd.snd.snd.fst.fst) ((feedN (initX []) (t6, ())).fst.snd.snd.snd.snd.snd.fst.snd.fst) ((feedN (initX []) (t6, ())).fst.snd.snd.snd.snd.snd.fst.snd.snd.fst) ((feedN (initX []) (t6, ())).fst.snd.snd.snd.snd.snd.fst.snd.snd.snd.fst) ((feedN (initX []) (t6, ())).fst.snd.snd.snd.snd.snd.fst.snd.snd.snd.snd.fst) ((feedN (initX []) (t6, ())).fst.snd.snd.snd.snd.snd.snd.fst) ((feedN (initX []) (t6, ())).fst.snd.snd.snd.snd.snd.snd.snd.fst) ((feedN (initX []) (t6, ())).snd.fst) ((0:Int))))))
  else
 (bif t1 then
 (hlawMany_1 n (t0) (t4) (t6) (t7) ((0:Int)) ((0:Int)) ((0:Int)) ((0:Int)) ([]) ([]) ([]) ([]) ([]) ([]) ((0:Int)) ([]) ([]) ((0:Int)))
 else
 (gd [feedP (initX []) (t6, ())] (hlawMany_2 n (t0) (t4) (t7) ((feedN (initX []) (t6, ())).fst.fst) ((feedN (initX []) (t6, ())).fst.snd.fst) ((feedN (initX []) (t6, ())).fst.snd.snd.fst) ((feedN (initX []) (t6, ())).fst.snd.snd.snd.fst) ((feedN (initX []) (t6, ())).fst.snd.snd.snd.snd.fst) ((feedN (initX []) (t6, ())).fst.snd.snd.snd.snd.snd.fst.fst) ((feedN (initX []) (t6, ())).fst.snd.snd.snd.snd.snd.fst.snd.fst) ((feedN (initX []) (t6, ())).fst.snd.snd.snd.snd.snd.fst.snd.snd.fst) ((feedN (initX []) (t6, ())).fst.snd.snd.snd.snd.snd.fst.snd.snd.snd.fst) ((feedN (initX []) (t6, ())).fst.snd.snd.snd.snd.snd.fst.snd.snd.snd.snd.fst) ((feedN (initX []) (t6, ())).fst.snd.snd.snd.snd.snd.snd.fst) ((feedN (initX []) (t6, ())).fst.snd.snd.snd.snd.snd.snd.snd.fst) ((feedN (initX []) (t6, ())).snd.fst) ((0:Int)))))) := by kernel_rfl
theorem elawMany_1 (n : Nat) (t0 : List (Ty.Den .str)) (t4 : Bool) (t6 : List UInt8) (t7:Int) (t10_0:Int) (t10_1:Int) (t10_2:Int) (t10_3:Int) (t10_4 : List UInt8) (t10_5 : List UInt8) (t10_6 : List UInt8) (t10_7 : List UInt8) (t10_8 : List (HeadD)) (t10_9 : List UInt8) (t10_10:Int) (t10_11 : List (Ty.Den ReqT)) (t11 : List (Ty.Den ReqT)) (t12:Int) : hlawMany_1 (n + 1) t0 t4 t6 t7 t10_0 t10_1 t10_2 t10_3 t10_4 t10_5 t10_6 t10_7 t10_8 t10_9 t10_10 t10_11 t11 t12 =
  (bif decide (t12 < (↑t6.length:Int)) then
 (gd [decide (inK .i64 (t12 + (1:Int))), decide ((2 * (t11.length + List.length (feedN (t10_0, t10_1, t10_2, t10_3, t10_4, (t10_5, t10_6, t10_7, t10_8, t10_9, ()), t10_10, t10_11, ()) (List.drop t12.toNat (List.take (t12 + (1:Int)).toNat t6), ())).snd.fst) + 400) * 88 ≤ 281474976710656), feedP (t10_0, t10_1, t10_2, t10_3, t10_4, (t10_5, t10_6, t10_7, t10_8, t10_9, ()), t10_10, t10_11, ()) (List.drop t12.toNat (List.take (t12 + (1:Int)).toNat t6), ()), decide ((0:Int) ≤ t12), decide (t12 ≤ t12 + (1:Int)), decide (t12 + (1:Int) ≤ (↑t6.length:Int)), decide (inK .i64 (t12 + (1:Int)))] (hlawMany_1 n (t0) (t4) (t6) (t7) ((feedN (t10_0, t10_1, t10_2, t10_3, t10_4, (t10_5, t10_6, t10_7, t10_8, t10_9, ()), t10_10, t10_11, ()) (List.drop t12.toNat (List.take (t12 + (1:Int)).toNat t6), ())).fst.fst) ((feedN (t10_0, t10_1, t10_2, t10_3, t10_4, (t10_5, t10_6, t10_7, t10_8, t10_9, ()), t10_10, t10_11, ()) (List.drop t12.toNat (List.take (t12 + (1:Int)).toNat t6), ())).fst.snd.fst) ((feedN (t10_0, t10_1, t10_2, t10_3, t10_4, (t10_5, t10_6, t10_7, t10_8, t10_9, ()), t10_10, t10_11, ()) (List.drop t12.toNat (List.take (t12 + (1:Int)).toNat t6), ())).fst.snd.snd.fst) ((feedN (t10_0, t10_1, t10_2, t10_3, t10_4, (t10_5, t10_6, t10_7, t10_8, t10_9, ()), t10_10, t10_11, ()) (List.drop t12.toNat (List.take (t12 + (1:Int)).toNat t6), ())).fst.snd.snd.snd.fst) ((feedN (t10_0, t10_1, t10_2, t10_3, t10_4, (t10_5, t10_6, t10_7, t10_8, t10_9, ()), t10_10, t10_11, ()) (List.drop t12.toNat (List.take (t12 + (1:Int)).toNat t6), ())).fst.snd.snd.snd.snd.fst) ((feedN (t10_0, t10_1, t10_2, t10_3, t10_4, (t10_5, t10_6, t10_7, t10_8, t10_9, ()), t10_10, t10_11, ()) (List.drop t12.toNat (List.take (t12 + (1:Int)).toNat t6), ())).fst.snd.snd.snd.snd.snd.fst.fst) ((feedN (t10_0, t10_1, t10_2, t10_3, t10_4, (t10_5, t10_6, t10_7, t10_8, t10_9, ()), t10_10, t10_11, ()) (List.drop t12.toNat (List.take (t12 + (1:Int)).toNat t6), ())).fst.snd.snd.snd.snd.snd.fst.snd.fst) ((feedN (t10_0, t10_1, t10_2, t10_3, t10_4, (t10_5, t10_6, t10_7, t10_8, t10_9, ()), t10_10, t10_11, ()) (List.drop t12.toNat (List.take (t12 + (1:Int)).toNat t6), ())).fst.snd.snd.snd.snd.snd.fst.snd.snd.fst) ((feedN (t10_0, t10_1, t10_2, t10_3, t10_4, (t10_5, t10_6, t10_7, t10_8, t10_9, ()), t10_10, t10_11, ()) (List.drop t12.toNat (List.take (t12 + (1:Int)).toNat t6), ())).fst.snd.snd.snd.snd.snd.fst.snd.snd.snd.fst) ((feedN (t10_0, t10_1, t10_2, t10_3, t10_4, (t10_5, t10_6, t10_7, t10_8, t10_9, ()), t10_10, t10_11, ()) (List.drop t12.toNat (List.take (t12 + (1:Int)).toNat t6), ())).fst.snd.snd.snd.snd.snd.fst.snd.snd.snd.snd.fst) ((feedN (t10_0, t10_1, t10_2, t10_3, t10_4, (t10_5, t10_6, t10_7, t10_8, t10_9, ()), t10_10, t10_11, ()) (List.drop t12.toNat (List.take (t12 + (1:Int)).toNat t6), ())).fst.snd.snd.snd.snd.snd.snd.fst) ((feedN (t10_0, t10_1, t10_2, t10_3, t10_4, (t10_5, t10_6, t10_7, t10_8, t10_9, ()), t10_10, t10_11, ()) (List.drop t12.toNat (List.take (t12 + (1:Int)).toNat t6), ())).fst.snd.snd.snd.snd.snd.snd.snd.fst) (t11 ++ (feedN (t10_0, t10_1, t10_2, t10_3, t10_4, (t10_5, t10_6, t10_7, t10_8, t10_9, ()), t10_10, t10_11, ()) (List.drop t12.toNat (List.take (t12 + (1:Int)).toNat t6), ())).snd.fst) (t12 + (1:Int))))
  else
 (hlawMany_2 n (t0) (t4) (t7) (t10_0) (t10_1) (t10_2) (t10_3) (t10_4) (t10_5) (t10_6) (t10_7) (t10_8) (t10_9) (t10_10) (t10_11) (t11) ((0:Int)))) := by kernel_rfl
theorem elawMany_2 (n : Nat) (t0 : List (Ty.Den .str)) (t4 : Bool) (t7:Int) (t10_0:Int) (t10_1:Int) (t10_2:Int) (t10_3:Int) (t10_4 : List UInt8) (t10_5 : List UInt8) (t10_6 : List UInt8) (t10_7 : List UInt8) (t10_8 : List (HeadD)) (t10_9 : List UInt8) (t10_10:Int) (t10_11 : List (Ty.Den ReqT)) (t11 : List (Ty.Den ReqT)) (t13:Int) : hlawMany_2 (n + 1) t0 t4 t7 t10_0 t10_1 t10_2 t10_3 t10_4 t10_5 t10_6 t10_7 t10_8 t10_9 t10_10 t10_11 t11 t13 =
  (bif decide (t13 < (↑t11.length:Int)) then
 (bif !(t11.getD t13.toNat (ReqT).dflt).snd.fst == [47, 111, 47, 107] ++ digits t13 then
 (gd [decide (4 + (digits t13).length ≤ 1099511627776), decide (Int.negSucc 9223372036854775807 ≤ t13) && decide (t13 ≤ (9223372036854775807:Int)), decide (t13.toNat < t11.length), decide ((0:Int) ≤ t13), decide (t13 < (↑t11.length:Int))] (some (false, ())))
 else
 (bif !(t11.getD t13.toNat (ReqT).dflt).snd.snd.snd.snd.fst == cut (t0.getD t13.toNat Ty.str.dflt) ((100:Int)) then
 (gd [decide (t13.toNat < t0.length), decide ((0:Int) ≤ t13), decide (t13 < (↑t0.length:Int)), decide (t13.toNat < t11.length), decide ((0:Int) ≤ t13), decide (t13 < (↑t11.length:Int)), decide (4 + (digits t13).length ≤ 1099511627776), decide (Int.negSucc 9223372036854775807 ≤ t13) && decide (t13 ≤ (9223372036854775807:Int)), decide (t13.toNat < t11.length), decide ((0:Int) ≤ t13), decide (t13 < (↑t11.length:Int))] (some (false, ())))
 else
 (bif !(t11.getD t13.toNat (ReqT).dflt).fst == [80, 85, 84] then
 (gd [decide (t13.toNat < t11.length), decide ((0:Int) ≤ t13), decide (t13 < (↑t11.length:Int)), decide (t13.toNat < t0.length), decide ((0:Int) ≤ t13), decide (t13 < (↑t0.length:Int)), decide (t13.toNat < t11.length), decide ((0:Int) ≤ t13), decide (t13 < (↑t11.length:Int)), decide (4 + (digits t13).length ≤ 1099511627776), decide (Int.negSucc 9223372036854775807 ≤ t13) && decide (t13 ≤ (9223372036854775807:Int)), decide (t13.toNat < t11.length), decide ((0:Int) ≤ t13), decide (t13 < (↑t11.length:Int))] (some (false, ())))
 else
 (gd [decide (inK .i64 (t13 + (1:Int))), decide (t13.toNat < t11.length), decide ((0:Int) ≤ t13), decide (t13 < (↑t11.length:Int)), decide (t13.toNat < t0.length), decide ((0:Int) ≤ t13), decide (t13 < (↑t0.length:Int)), decide (t13.toNat < t11.length), decide ((0:Int) ≤ t13), decide (t13 < (↑t11.length:Int)), decide (4 + (digits t13).length ≤ 1099511627776), decide (Int.negSucc 9223372036854775807 ≤ t13) && decide (t13 ≤ (9223372036854775807:Int)), decide (t13.toNat < t11.length), decide ((0:Int) ≤ t13), decide (t13 < (↑t11.length:Int))] (hlawMany_2 n (t0) (t4) (t7) (t10_0) (t10_1) (t10_2) (t10_3) (t10_4) (t10_5) (t10_6) (t10_7) (t10_8) (t10_9) (t10_10) (t10_11) (t11) (t13 + (1:Int)))))))
  else
 (bif (↑t11.length:Int) == t7 then
 (bif t10_1 == (0:Int) then
 (bif idleN (t10_0, t10_1, t10_2, t10_3, t10_4, (t10_5, t10_6, t10_7, t10_8, t10_9, ()), t10_10, t10_11, ()) then
 (some (true, ()))
 else
 (some (false, ())))
 else
 (some (false, ())))
 else
 (some (false, ())))) := by kernel_rfl

def reqK (i : Int) (b : List UInt8) : ReqD := ([80, 85, 84], [47, 111, 47, 107] ++ digits i, [], [(clB, digits (b.length : Int), ())], b, ())
def txtK (l : List (List UInt8)) : Nat → List UInt8
  | 0 => []
  | k + 1 => txtK l k ++ reqB (k : Int) (cut (l.getD k Ty.str.dflt) 100)
def rqK (l : List (List UInt8)) : Nat → List ReqD
  | 0 => []
  | k + 1 => rqK l k ++ [reqK (k : Int) (cut (l.getD k Ty.str.dflt) 100)]
theorem dig3 (k : Nat) (h : k ≤ 100) : (digits (k : Int)).length ≤ 3 := by
  have ho := List.all_eq_true.1 okL_all k (List.mem_range.2 (by omega))
  unfold okL at ho
  simp only [Bool.and_eq_true, decide_eq_true_eq] at ho
  exact ho.1.1.2
theorem cut100 (s : List UInt8) : (cut s 100).length ≤ 100 := cut_len s 100
theorem reqB_len (k : Nat) (hk : k ≤ 100) (b : List UInt8) (hb : b.length ≤ 100) : (reqB (k : Int) b).length ≤ 150 := by
  have h1 := dig3 k hk
  have h2 := dig3 b.length hb
  unfold reqB
  simp only [List.length_append, List.length_cons, List.length_nil]
  omega
theorem txtK_len (l : List (List UInt8)) : ∀ k : Nat, k ≤ 6 → (txtK l k).length ≤ 150 * k
  | 0, _ => Nat.le_refl _
  | k + 1, h => by
    have h1 := txtK_len l k (by omega)
    have h2 := reqB_len k (by omega) _ (cut100 (l.getD k Ty.str.dflt))
    unfold txtK
    simp only [List.length_append]
    omega
theorem rqK_len (l : List (List UInt8)) : ∀ k : Nat, (rqK l k).length = k
  | 0 => rfl
  | k + 1 => by
    unfold rqK
    rw [List.length_append, rqK_len l k]; rfl
theorem rqK_get (l : List (List UInt8)) (d : ReqD) : ∀ (k j : Nat), j < k → (rqK l k).getD j d = reqK (j : Int) (cut (l.getD j Ty.str.dflt) 100)
  | 0, j, h => by omega
  | k + 1, j, h => by
    have hl := rqK_len l k
    unfold rqK
    by_cases hj : j = k
    · subst hj
      have := getD_mid (rqK l j) [] (reqK (j : Int) (cut (l.getD j Ty.str.dflt) 100)) d
      rw [hl] at this
      exact this
    · have ih := rqK_get l d k j (by omega)
      rw [← ih]
      simp only [List.getD, List.getElem?_append_left (show j < (rqK l k).length by omega)]
theorem run_txt (l : List (List UInt8)) : ∀ k : Nat, k ≤ 6 → mrun (initX []) (txtK l k) = initX (rqK l k)
  | 0, _ => rfl
  | k + 1, h => by
    unfold txtK rqK
    rw [mrun_app, run_txt l k (by omega)]
    have hne : reqB (k : Int) (cut (l.getD k Ty.str.dflt) 100) ++ [] ≠ [] := by unfold reqB; simp
    have f := run_one _ (rqK l k) hne
    rw [one_k k (by omega) _ (cut100 _) []] at f
    rw [List.append_nil] at f
    exact f.1
theorem invX_cl {K : Nat} {x : ScanD} (i : InvX K x) : InvX K (clX x) := ⟨i.st0, i.st9, i.li0, i.li1, i.at0, i.at1, i.tx1, i.hs1, i.hs2, i.hs6, i.le0, i.le1, Nat.zero_le _⟩
theorem many_2 (l : List (List UInt8)) (K : Nat) (hK : K ≤ 6) (hKl : K ≤ l.length) (t4 : Bool) : ∀ (r j n : Nat), K = j + r → r < n →
    hlawMany_2 n l t4 (K : Int) 0 0 0 0 [] [] [] [] [] [] 0 [] (rqK l K) (j : Int) = some (true, ()) := by
  have hl := rqK_len l K
  have hl' : @List.length (Ty.Den ReqT) (rqK l K) = K := hl
  intro r
  induction r with
  | zero =>
    intro j n he hn
    obtain ⟨n, rfl⟩ : ∃ m, n = m + 1 := ⟨n - 1, by omega⟩
    rw [elawMany_2, cdF (by omega), ceT (by omega), ceT rfl, show idleN (initX []) = true from rfl, cT]
  | succ r ih =>
    intro j n he hn
    obtain ⟨n, rfl⟩ : ∃ m, n = m + 1 := ⟨n - 1, by omega⟩
    have hd := dig3 j (by omega)
    have ih' := ih (j + 1) n (by omega) (by omega)
    simp only [Int.natCast_add, Int.natCast_one] at ih'
    rw [elawMany_2, cdT (by omega), show (j : Int).toNat = j from rfl, rqK_get l _ K j (by omega)]
    unfold reqK
    dsimp only
    rw [nE, nE, nE]
    have hb : (decide (Int.negSucc 9223372036854775807 ≤ (j : Int)) && decide ((j : Int) ≤ (9223372036854775807 : Int))) = true := by
      rw [Bool.and_eq_true, decide_eq_true_eq, decide_eq_true_eq]; exact ⟨by omega, by omega⟩
    rw [gdT (inK_i64.2 ⟨by omega, by omega⟩), gdT (by omega), gdT (by omega), gdT (by omega), gdT (by omega), gdT (by omega), gdT (by omega), gdT (by omega), gdT (by omega), gdT (by omega), gdT (by omega), gdB hb, gdT (by omega), gdT (by omega), gdT (by omega), gN]
    exact ih'
theorem many_1 (l : List (List UInt8)) (K : Nat) (hK : K ≤ 6) (hKl : K ≤ l.length) (t4 : Bool) : ∀ (post pre : List UInt8) (n : Nat) (x : ScanD) (acc : List ReqD), txtK l K = pre ++ post → post.length + 10 < n → x = clX (mrun (initX []) pre) → acc = outX (mrun (initX []) pre) →
    hlawMany_1 n l t4 (txtK l K) (K : Int) x.1 x.2.1 x.2.2.1 x.2.2.2.1 x.2.2.2.2.1 x.2.2.2.2.2.1.1 x.2.2.2.2.2.1.2.1 x.2.2.2.2.2.1.2.2.1 x.2.2.2.2.2.1.2.2.2.1 x.2.2.2.2.2.1.2.2.2.2.1 x.2.2.2.2.2.2.1 x.2.2.2.2.2.2.2.1 acc (pre.length : Int) = some (true, ()) := by
  have htl := txtK_len l K hK
  intro post
  induction post with
  | nil =>
    intro pre n x acc he hn hx ha
    obtain ⟨n, rfl⟩ : ∃ m, n = m + 1 := ⟨n - 1, by omega⟩
    rw [List.append_nil] at he
    rw [← he, run_txt l K hK] at hx ha
    subst hx ha
    rw [elawMany_1, cdF (by rw [he]; omega)]
    exact many_2 l K hK hKl t4 K 0 n (by omega) (by omega)
  | cons c post ih =>
    intro pre n x acc he hn hx ha
    obtain ⟨n, rfl⟩ : ∃ m, n = m + 1 := ⟨n - 1, by omega⟩
    simp only [List.length_cons] at hn
    have hlen : (txtK l K).length = pre.length + post.length + 1 := by rw [he]; simp only [List.length_append, List.length_cons]; omega
    have hsl : List.drop pre.length (List.take (pre.length + 1) (txtK l K)) = [c] := by
      have := slice_mid pre [c] post
      rw [he]; exact this
    have hi : x.2.1 = 0 → InvX pre.length x := fun hz => by
      subst hx
      have := inv_run pre 0 (initX []) (fun _ => inv_init []) hz
      rw [Nat.zero_add] at this
      exact invX_cl this
    obtain ⟨hP, hN⟩ := feed_hid (feedS_n x [c] pre.length (by simp only [List.length_singleton]; omega) hi)
    rw [clrX_eq] at hN
    have htw := mrun_two (initX []) pre [c]
    rw [← hx, ← ha] at htw
    have ho := mrun_out (pre ++ [c]) (initX [])
    rw [htw.2] at ho
    simp only [List.length_append, List.length_singleton] at ho
    have h0 : (outX (initX [])).length = 0 := rfl
    have hb2 : acc.length + (outX (mrun x [c])).length ≤ pre.length + 1 := by omega
    obtain ⟨st, su, li, at', tx, ⟨m, p, q, hs, b, ⟨⟩⟩, le, ou, ⟨⟩⟩ := x
    have hb3 : acc.length + (outX (mrun (st, su, li, at', tx, (m, p, q, hs, b, ()), le, ou, ()) [c])).length ≤ pre.length + 1 := hb2
    dsimp only
    rw [elawMany_1, cdT (by omega), show (pre.length : Int).toNat = pre.length from rfl, show ((pre.length : Int) + 1).toNat = pre.length + 1 from rfl, hsl, hN]
    have ih' := ih (pre ++ [c]) n (clX (mrun (st, su, li, at', tx, (m, p, q, hs, b, ()), le, ou, ()) [c])) (acc ++ outX (mrun (st, su, li, at', tx, (m, p, q, hs, b, ()), le, ou, ()) [c])) (by rw [he]; simp) (by omega) htw.1.symm htw.2.symm
    rw [show ((pre ++ [c]).length : Int) = (pre.length : Int) + 1 by simp] at ih'
    rw [gdT (inK_i64.2 ⟨by omega, by omega⟩), gdT (show (2 * (acc.length + (outX (mrun (st, su, li, at', tx, (m, p, q, hs, b, ()), le, ou, ()) [c])).length) + 400) * 88 ≤ 281474976710656 by omega), gdB hP, gdT (by omega), gdT (by omega), gdT (by omega), gdT (inK_i64.2 ⟨by omega, by omega⟩), gN]
    exact ih'
theorem many_e (l : List (List UInt8)) (K : Nat) (hK : K ≤ 6) (hKl : K ≤ l.length) (t1 t4 : Bool) (n : Nat) (hn : 2000 < n) :
    (bif t1 then hlawMany_1 n l t4 (txtK l K) (K : Int) 0 0 0 0 [] [] [] [] [] [] 0 [] [] 0 else gd [feedP (initX []) (txtK l K, ())] (hlawMany_2 n l t4 (K : Int) (feedN (initX []) (txtK l K, ())).1.1 (feedN (initX []) (txtK l K, ())).1.2.1 (feedN (initX []) (txtK l K, ())).1.2.2.1 (feedN (initX []) (txtK l K, ())).1.2.2.2.1 (feedN (initX []) (txtK l K, ())).1.2.2.2.2.1 (feedN (initX []) (txtK l K, ())).1.2.2.2.2.2.1.1 (feedN (initX []) (txtK l K, ())).1.2.2.2.2.2.1.2.1 (feedN (initX []) (txtK l K, ())).1.2.2.2.2.2.1.2.2.1 (feedN (initX []) (txtK l K, ())).1.2.2.2.2.2.1.2.2.2.1 (feedN (initX []) (txtK l K, ())).1.2.2.2.2.2.1.2.2.2.2.1 (feedN (initX []) (txtK l K, ())).1.2.2.2.2.2.2.1 (feedN (initX []) (txtK l K, ())).1.2.2.2.2.2.2.2.1 (feedN (initX []) (txtK l K, ())).2.1 0)) = some (true, ()) := by
  have htl := txtK_len l K hK
  cases t1
  · obtain ⟨hP, hN⟩ := feed_hid (feedS_n (initX []) (txtK l K) 0 (by omega) (fun _ => inv_init []))
    rw [clrX_eq, run_txt l K hK] at hN
    rw [cF, gdB hP, gN, hN]
    exact many_2 l K hK hKl t4 K 0 n (by omega) (by omega)
  · rw [cT]
    exact many_1 l K hK hKl t4 (txtK l K) [] n (initX []) [] rfl (by omega) rfl rfl
theorem many_0 (l : List (List UInt8)) (t1 t4 : Bool) : ∀ (r i n : Nat), i + r = 6 → i ≤ l.length → r + 2001 < n → hlawMany_0 n l t1 t4 (txtK l i) (i : Int) (i : Int) = some (true, ()) := by
  intro r
  induction r with
  | zero =>
    intro i n he hi hn
    obtain ⟨n, rfl⟩ : ∃ m, n = m + 1 := ⟨n - 1, by omega⟩
    have e := many_e l i (by omega) hi t1 t4 n (by omega)
    rw [elawMany_0]
    by_cases h : (i : Int) < (l.length : Int)
    · rw [cdT h, cdF (by omega)]; exact e
    · rw [cdF h]; exact e
  | succ r ih =>
    intro i n he hi hn
    obtain ⟨n, rfl⟩ : ∃ m, n = m + 1 := ⟨n - 1, by omega⟩
    rw [elawMany_0]
    by_cases h : (i : Int) < (l.length : Int)
    · have htl := txtK_len l i (by omega)
      have hd := dig3 i (by omega)
      have hc := cut100 (l.getD i Ty.str.dflt)
      have hd2 := dig3 (cut (l.getD i Ty.str.dflt) 100).length hc
      have hb : (decide (Int.negSucc 9223372036854775807 ≤ (i : Int)) && decide ((i : Int) ≤ (9223372036854775807 : Int))) = true := by
        rw [Bool.and_eq_true, decide_eq_true_eq, decide_eq_true_eq]; exact ⟨by omega, by omega⟩
      have ih' := ih (i + 1) n (by omega) (by omega) (by omega)
      simp only [Int.natCast_add, Int.natCast_one] at ih'
      rw [cdT h, cdT (by omega), show (i : Int).toNat = i from rfl]
      have hb2 : (decide (Int.negSucc 9223372036854775807 ≤ ((cut (l.getD i Ty.str.dflt) 100).length : Int)) && decide (((cut (l.getD i Ty.str.dflt) 100).length : Int) ≤ (9223372036854775807 : Int))) = true := by
        rw [Bool.and_eq_true, decide_eq_true_eq, decide_eq_true_eq]; exact ⟨by omega, by omega⟩
      rw [gdT (inK_i64.2 ⟨by omega, by omega⟩), gdT (inK_i64.2 ⟨by omega, by omega⟩), gdT (by simp only [List.length_append, List.length_cons, List.length_nil]; omega), gdT (by simp only [List.length_append, List.length_cons, List.length_nil]; omega), gdT (by simp only [List.length_append, List.length_cons, List.length_nil]; omega), gdT (by simp only [List.length_append, List.length_cons, List.length_nil]; omega), gdB hb2, gdT (by simp only [List.length_append, List.length_cons, List.length_nil]; omega), gdT (by omega), gdB hb, gdT (by omega), gdT (by omega), gdT (by omega), gN]
      exact ih'
    · have e := many_e l i (by omega) hi t1 t4 n (by omega)
      rw [cdF h]; exact e
theorem lawMany_m (l : List (List UInt8)) (b : Bool) : olawMany (l, b, ()) = some (true, ()) := by
  rw [olawMany_g, elawMany_g]
  exact many_0 l b false 6 0 heads0 (by omega) (by omega) (by unfold heads0; omega)
theorem lawMany_n (x : DenL [.slice .str, .bool]) (hb : BdL [.slice .str, .bool] x) : olawMany x = some (true, ()) := by
  obtain ⟨l, b, ⟨⟩⟩ := x
  exact lawMany_m l b
theorem lawMany_c : PC 13 (ofO [.slice .str, .bool] [.bool] olawMany) := (pureO (envO_ok (l := [(21, trueS), (24, cutS), (25, digitsS)]) (o := [(35, feedS), (36, idleS)]) ⟨begun_c, cut_c, digits_c, trivial⟩ ⟨feed_c, idle_c, trivial⟩) gl_ne Tryz.func13 (by kernel_rfl) (by decide))
theorem lawMany_run {w : World} (hgl : GlW glC w) {args : Array Value} {x : DenL [.slice .str, .bool]} (hx : RdAll (fzW w) [.slice .str, .bool] x args.toList) (hb : BdL [.slice .str, .bool] x) : Calls Tryz.prog 13 args w fun e w' => e = .returned (.bool true) ∧ Same w w' :=
  law_calls lawMany_c (fun x hb => by
    have := lawMany_n x hb
    exact ⟨by show (olawMany x).isSome = true; rw [this]; rfl, by show (olawMany x).getD _ = _; rw [this]; rfl⟩) hgl hx hb
end Go.Proofs.YtpdbgpkedehpgaaGreatDoor
