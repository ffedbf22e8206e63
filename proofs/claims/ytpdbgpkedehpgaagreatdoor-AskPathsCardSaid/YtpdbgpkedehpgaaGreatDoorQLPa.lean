/-
  AskPaths: equations, as printed. No condition.
-/
import Derived.Test.YtpdbgpkedehpgaaGreatDoorA5
namespace Go.Proofs.YtpdbgpkedehpgaaGreatDoor
open Go Go.Eng Nice
set_option maxRecDepth 1000000
abbrev shlawPaths : List (Nat × List (Nat × Sh)) := [(7, [(0, (.one .sym)), (4, (.one .sym)), (6, (.one .sym)), (35, (.sli [.sym, .sym, .sym, .sym, .sym, .sym])), (36, (.one .sym)), (37, (.one .sym))])]
noncomputable def hlawPaths_0 (n : Nat) (t0 : List UInt8) (t4 : Bool) (t6 : List UInt8) (t35_0 : List UInt8) (t35_1 : List UInt8) (t35_2 : List UInt8) (t35_3 : List UInt8) (t35_4 : List UInt8) (t35_5 : List UInt8) (t36 : Int) (t37 : Int) : Option (DenL [.bool]) := rH Tryz.prog (envS [(21, trueS), (24, cutS), (37, ofS), (38, ofS), (44, isKeyS)]) (shOf shlawPaths) Tryz.f18 [.bool] n 0 [(0, sy (.string (bs t0))), (4, .bool t4), (6, sy (.string (bs t6))), (35, .slice (some ⟨9, 0, none⟩) 6 6), (36, sy (.int .i64 t36)), (37, sy (.int .i64 t37))] [.row [sy (.string (bs t35_0)), sy (.string (bs t35_1)), sy (.string (bs t35_2)), sy (.string (bs t35_3)), sy (.string (bs t35_4)), sy (.string (bs t35_5))] 9 false]
noncomputable def olawPaths (x : DenL [.str, .int .i64]) : Option (DenL [.bool]) := fO Tryz.prog (envS [(21, trueS), (24, cutS), (37, ofS), (38, ofS), (44, isKeyS)]) (shOf shlawPaths) Tryz.f18 [.str, .int .i64] [.bool] x
theorem elawPaths_g (N : Nat) (s : List UInt8) (wh : Int) : fON Tryz.prog (envS [(21, trueS), (24, cutS), (37, ofS), (38, ofS), (44, isKeyS)]) (shOf shlawPaths) Tryz.f18 [.str, .int .i64] [.bool] N (s, wh, ()) =
 (bif (wh.tmod ((7 : Int)) + (7 : Int)).tmod ((7 : Int)) == (0 : Int) then
  (gd [decide (2 + (cut s ((45 : Int))).length ≤ 1099511627776), decide (1 + (cut s ((45 : Int))).length ≤ 1099511627776), decide (3 + (cut s ((45 : Int))).length ≤ 1099511627776), decide (inK .i64 (wh.tmod ((7 : Int)) + (7 : Int)))] (hlawPaths_0 N (cut s ((45 : Int))) (false) (getW) (oW) (ooW) (ooW ++ cut s ((45 : Int))) ([47] ++ cut s ((45 : Int))) (oW ++ cut s ((45 : Int))) (cut s ((45 : Int))) ((6 : Int)) ((0 : Int))))
 else
  (bif (wh.tmod ((7 : Int)) + (7 : Int)).tmod ((7 : Int)) == (1 : Int) then
   (gd [decide (2 + (cut s ((45 : Int))).length ≤ 1099511627776), decide (1 + (cut s ((45 : Int))).length ≤ 1099511627776), decide (3 + (cut s ((45 : Int))).length ≤ 1099511627776), decide (inK .i64 (wh.tmod ((7 : Int)) + (7 : Int)))] (hlawPaths_0 N (cut s ((45 : Int))) (false) (headW) (oW) (ooW) (ooW ++ cut s ((45 : Int))) ([47] ++ cut s ((45 : Int))) (oW ++ cut s ((45 : Int))) (cut s ((45 : Int))) ((6 : Int)) ((0 : Int))))
  else
   (bif (wh.tmod ((7 : Int)) + (7 : Int)).tmod ((7 : Int)) == (2 : Int) then
    (gd [decide (2 + (cut s ((45 : Int))).length ≤ 1099511627776), decide (1 + (cut s ((45 : Int))).length ≤ 1099511627776), decide (3 + (cut s ((45 : Int))).length ≤ 1099511627776), decide (inK .i64 (wh.tmod ((7 : Int)) + (7 : Int)))] (hlawPaths_0 N (cut s ((45 : Int))) (false) (putW) (oW) (ooW) (ooW ++ cut s ((45 : Int))) ([47] ++ cut s ((45 : Int))) (oW ++ cut s ((45 : Int))) (cut s ((45 : Int))) ((6 : Int)) ((0 : Int))))
   else
    (bif (wh.tmod ((7 : Int)) + (7 : Int)).tmod ((7 : Int)) == (3 : Int) then
     (gd [decide (2 + (cut s ((45 : Int))).length ≤ 1099511627776), decide (1 + (cut s ((45 : Int))).length ≤ 1099511627776), decide (3 + (cut s ((45 : Int))).length ≤ 1099511627776), decide (inK .i64 (wh.tmod ((7 : Int)) + (7 : Int)))] (hlawPaths_0 N (cut s ((45 : Int))) (false) (delW) (oW) (ooW) (ooW ++ cut s ((45 : Int))) ([47] ++ cut s ((45 : Int))) (oW ++ cut s ((45 : Int))) (cut s ((45 : Int))) ((6 : Int)) ((0 : Int))))
    else
     (bif (wh.tmod ((7 : Int)) + (7 : Int)).tmod ((7 : Int)) == (4 : Int) then
      (gd [decide (2 + (cut s ((45 : Int))).length ≤ 1099511627776), decide (1 + (cut s ((45 : Int))).length ≤ 1099511627776), decide (3 + (cut s ((45 : Int))).length ≤ 1099511627776), decide (inK .i64 (wh.tmod ((7 : Int)) + (7 : Int)))] (hlawPaths_0 N (cut s ((45 : Int))) (false) ([80, 79, 83, 84]) (oW) (ooW) (ooW ++ cut s ((45 : Int))) ([47] ++ cut s ((45 : Int))) (oW ++ cut s ((45 : Int))) (cut s ((45 : Int))) ((6 : Int)) ((0 : Int))))
     else
      (bif (wh.tmod ((7 : Int)) + (7 : Int)).tmod ((7 : Int)) == (5 : Int) then
       (gd [decide (2 + (cut s ((45 : Int))).length ≤ 1099511627776), decide (1 + (cut s ((45 : Int))).length ≤ 1099511627776), decide (3 + (cut s ((45 : Int))).length ≤ 1099511627776), decide (inK .i64 (wh.tmod ((7 : Int)) + (7 : Int)))] (hlawPaths_0 N (cut s ((45 : Int))) (false) ([103, 101, 116]) (oW) (ooW) (ooW ++ cut s ((45 : Int))) ([47] ++ cut s ((45 : Int))) (oW ++ cut s ((45 : Int))) (cut s ((45 : Int))) ((6 : Int)) ((0 : Int))))
      else
       (gd [decide (2 + (cut s ((45 : Int))).length ≤ 1099511627776), decide (1 + (cut s ((45 : Int))).length ≤ 1099511627776), decide (3 + (cut s ((45 : Int))).length ≤ 1099511627776), decide (inK .i64 (wh.tmod ((7 : Int)) + (7 : Int))), (wh.tmod ((7 : Int)) + (7 : Int)).tmod ((7 : Int)) == (6 : Int)] (hlawPaths_0 N (cut s ((45 : Int))) (false) ([]) (oW) (ooW) (ooW ++ cut s ((45 : Int))) ([47] ++ cut s ((45 : Int))) (oW ++ cut s ((45 : Int))) (cut s ((45 : Int))) ((6 : Int)) ((0 : Int)))))))))) := by kernel_rfl
theorem olawPaths_g (x : DenL [.str, .int .i64]) : olawPaths x = fON Tryz.prog (envS [(21, trueS), (24, cutS), (37, ofS), (38, ofS), (44, isKeyS)]) (shOf shlawPaths) Tryz.f18 [.str, .int .i64] [.bool] heads0 x := rfl
theorem elawPaths_0 (n : Nat) (t0 : List UInt8) (t4 : Bool) (t6 : List UInt8) (t35_0 : List UInt8) (t35_1 : List UInt8) (t35_2 : List UInt8) (t35_3 : List UInt8) (t35_4 : List UInt8) (t35_5 : List UInt8) (t36 : Int) (t37 : Int) : hlawPaths_0 (n + 1) t0 t4 t6 t35_0 t35_1 t35_2 t35_3 t35_4 t35_5 t36 t37 =
 (bif decide (t37 < t36) then
  (bif t37 == (0 : Int) then
   (gd [ofP (t6, t35_0, [], [], [], ()), ofP (t6, t35_0, [], [], [], ())] (bif !((ofN (t6, t35_0, [], [], [], ())).fst.fst == (ofN (t6, t35_0, [], [], [], ())).fst.fst && ((ofN (t6, t35_0, [], [], [], ())).fst.snd.fst == (ofN (t6, t35_0, [], [], [], ())).fst.snd.fst && ((ofN (t6, t35_0, [], [], [], ())).fst.snd.snd.fst == (ofN (t6, t35_0, [], [], [], ())).fst.snd.snd.fst && ((ofN (t6, t35_0, [], [], [], ())).fst.snd.snd.snd.fst == (ofN (t6, t35_0, [], [], [], ())).fst.snd.snd.snd.fst && ((ofN (t6, t35_0, [], [], [], ())).fst.snd.snd.snd.snd.fst == (ofN (t6, t35_0, [], [], [], ())).fst.snd.snd.snd.snd.fst && ((ofN (t6, t35_0, [], [], [], ())).fst.snd.snd.snd.snd.snd.fst == (ofN (t6, t35_0, [], [], [], ())).fst.snd.snd.snd.snd.snd.fst && ((ofN (t6, t35_0, [], [], [], ())).fst.snd.snd.snd.snd.snd.snd.fst == (ofN (t6, t35_0, [], [], [], ())).fst.snd.snd.snd.snd.snd.snd.fst && ((ofN (t6, t35_0, [], [], [], ())).fst.snd.snd.snd.snd.snd.snd.snd.fst == (ofN (t6, t35_0, [], [], [], ())).fst.snd.snd.snd.snd.snd.snd.snd.fst && ((ofN (t6, t35_0, [], [], [], ())).fst.snd.snd.snd.snd.snd.snd.snd.snd.fst == (ofN (t6, t35_0, [], [], [], ())).fst.snd.snd.snd.snd.snd.snd.snd.snd.fst && ((ofN (t6, t35_0, [], [], [], ())).fst.snd.snd.snd.snd.snd.snd.snd.snd.snd.fst == (ofN (t6, t35_0, [], [], [], ())).fst.snd.snd.snd.snd.snd.snd.snd.snd.snd.fst && true)))))))))) then
    (some (false, ()))
   else
    (bif (ofN (t6, t35_0, [], [], [], ())).snd != (ofN (t6, t35_0, [], [], [], ())).snd then
     (some (false, ()))
    else
     (gd [decide (inK .i64 (t37 + (1 : Int)))] (hlawPaths_0 n (t0) (t4) (t6) (t35_0) (t35_1) (t35_2) (t35_3) (t35_4) (t35_5) (t36) (t37 + (1 : Int)))))))
  else
   (bif t37 == (1 : Int) then
    (gd [ofP (t6, t35_1, [], [], [], ()), ofP (t6, t35_1, [], [], [], ())] (bif !((ofN (t6, t35_1, [], [], [], ())).fst.fst == (ofN (t6, t35_1, [], [], [], ())).fst.fst && ((ofN (t6, t35_1, [], [], [], ())).fst.snd.fst == (ofN (t6, t35_1, [], [], [], ())).fst.snd.fst && ((ofN (t6, t35_1, [], [], [], ())).fst.snd.snd.fst == (ofN (t6, t35_1, [], [], [], ())).fst.snd.snd.fst && ((ofN (t6, t35_1, [], [], [], ())).fst.snd.snd.snd.fst == (ofN (t6, t35_1, [], [], [], ())).fst.snd.snd.snd.fst && ((ofN (t6, t35_1, [], [], [], ())).fst.snd.snd.snd.snd.fst == (ofN (t6, t35_1, [], [], [], ())).fst.snd.snd.snd.snd.fst && ((ofN (t6, t35_1, [], [], [], ())).fst.snd.snd.snd.snd.snd.fst == (ofN (t6, t35_1, [], [], [], ())).fst.snd.snd.snd.snd.snd.fst && ((ofN (t6, t35_1, [], [], [], ())).fst.snd.snd.snd.snd.snd.snd.fst == (ofN (t6, t35_1, [], [], [], ())).fst.snd.snd.snd.snd.snd.snd.fst && ((ofN (t6, t35_1, [], [], [], ())).fst.snd.snd.snd.snd.snd.snd.snd.fst == (ofN (t6, t35_1, [], [], [], ())).fst.snd.snd.snd.snd.snd.snd.snd.fst && ((ofN (t6, t35_1, [], [], [], ())).fst.snd.snd.snd.snd.snd.snd.snd.snd.fst == (ofN (t6, t35_1, [], [], [], ())).fst.snd.snd.snd.snd.snd.snd.snd.snd.fst && ((ofN (t6, t35_1, [], [], [], ())).fst.snd.snd.snd.snd.snd.snd.snd.snd.snd.fst == (ofN (t6, t35_1, [], [], [], ())).fst.snd.snd.snd.snd.snd.snd.snd.snd.snd.fst && true)))))))))) then
     (some (false, ()))
    else
     (bif (ofN (t6, t35_1, [], [], [], ())).snd != (ofN (t6, t35_1, [], [], [], ())).snd then
      (some (false, ()))
     else
      (gd [decide (inK .i64 (t37 + (1 : Int)))] (hlawPaths_0 n (t0) (t4) (t6) (t35_0) (t35_1) (t35_2) (t35_3) (t35_4) (t35_5) (t36) (t37 + (1 : Int)))))))
   else
    (bif t37 == (2 : Int) then
     (gd [ofP (t6, t35_2, [], [], [], ()), ofP (t6, t35_2, [], [], [], ())] (bif !((ofN (t6, t35_2, [], [], [], ())).fst.fst == (ofN (t6, t35_2, [], [], [], ())).fst.fst && ((ofN (t6, t35_2, [], [], [], ())).fst.snd.fst == (ofN (t6, t35_2, [], [], [], ())).fst.snd.fst && ((ofN (t6, t35_2, [], [], [], ())).fst.snd.snd.fst == (ofN (t6, t35_2, [], [], [], ())).fst.snd.snd.fst && ((ofN (t6, t35_2, [], [], [], ())).fst.snd.snd.snd.fst == (ofN (t6, t35_2, [], [], [], ())).fst.snd.snd.snd.fst && ((ofN (t6, t35_2, [], [], [], ())).fst.snd.snd.snd.snd.fst == (ofN (t6, t35_2, [], [], [], ())).fst.snd.snd.snd.snd.fst && ((ofN (t6, t35_2, [], [], [], ())).fst.snd.snd.snd.snd.snd.fst == (ofN (t6, t35_2, [], [], [], ())).fst.snd.snd.snd.snd.snd.fst && ((ofN (t6, t35_2, [], [], [], ())).fst.snd.snd.snd.snd.snd.snd.fst == (ofN (t6, t35_2, [], [], [], ())).fst.snd.snd.snd.snd.snd.snd.fst && ((ofN (t6, t35_2, [], [], [], ())).fst.snd.snd.snd.snd.snd.snd.snd.fst == (ofN (t6, t35_2, [], [], [], ())).fst.snd.snd.snd.snd.snd.snd.snd.fst && ((ofN (t6, t35_2, [], [], [], ())).fst.snd.snd.snd.snd.snd.snd.snd.snd.fst == (ofN (t6, t35_2, [], [], [], ())).fst.snd.snd.snd.snd.snd.snd.snd.snd.fst && ((ofN (t6, t35_2, [], [], [], ())).fst.snd.snd.snd.snd.snd.snd.snd.snd.snd.fst == (ofN (t6, t35_2, [], [], [], ())).fst.snd.snd.snd.snd.snd.snd.snd.snd.snd.fst && true)))))))))) then
      (some (false, ()))
     else
      (bif (ofN (t6, t35_2, [], [], [], ())).snd != (ofN (t6, t35_2, [], [], [], ())).snd then
       (some (false, ()))
      else
       (gd [decide (inK .i64 (t37 + (1 : Int)))] (hlawPaths_0 n (t0) (t4) (t6) (t35_0) (t35_1) (t35_2) (t35_3) (t35_4) (t35_5) (t36) (t37 + (1 : Int)))))))
    else
     (bif t37 == (3 : Int) then
      (gd [ofP (t6, t35_3, [], [], [], ()), ofP (t6, t35_3, [], [], [], ())] (bif !((ofN (t6, t35_3, [], [], [], ())).fst.fst == (ofN (t6, t35_3, [], [], [], ())).fst.fst && ((ofN (t6, t35_3, [], [], [], ())).fst.snd.fst == (ofN (t6, t35_3, [], [], [], ())).fst.snd.fst && ((ofN (t6, t35_3, [], [], [], ())).fst.snd.snd.fst == (ofN (t6, t35_3, [], [], [], ())).fst.snd.snd.fst && ((ofN (t6, t35_3, [], [], [], ())).fst.snd.snd.snd.fst == (ofN (t6, t35_3, [], [], [], ())).fst.snd.snd.snd.fst && ((ofN (t6, t35_3, [], [], [], ())).fst.snd.snd.snd.snd.fst == (ofN (t6, t35_3, [], [], [], ())).fst.snd.snd.snd.snd.fst && ((ofN (t6, t35_3, [], [], [], ())).fst.snd.snd.snd.snd.snd.fst == (ofN (t6, t35_3, [], [], [], ())).fst.snd.snd.snd.snd.snd.fst && ((ofN (t6, t35_3, [], [], [], ())).fst.snd.snd.snd.snd.snd.snd.fst == (ofN (t6, t35_3, [], [], [], ())).fst.snd.snd.snd.snd.snd.snd.fst && ((ofN (t6, t35_3, [], [], [], ())).fst.snd.snd.snd.snd.snd.snd.snd.fst == (ofN (t6, t35_3, [], [], [], ())).fst.snd.snd.snd.snd.snd.snd.snd.fst && ((ofN (t6, t35_3, [], [], [], ())).fst.snd.snd.snd.snd.snd.snd.snd.snd.fst == (ofN (t6, t35_3, [], [], [], ())).fst.snd.snd.snd.snd.snd.snd.snd.snd.fst && ((ofN (t6, t35_3, [], [], [], ())).fst.snd.snd.snd.snd.snd.snd.snd.snd.snd.fst == (ofN (t6, t35_3, [], [], [], ())).fst.snd.snd.snd.snd.snd.snd.snd.snd.snd.fst && true)))))))))) then
       (some (false, ()))
      else
       (bif (ofN (t6, t35_3, [], [], [], ())).snd != (ofN (t6, t35_3, [], [], [], ())).snd then
        (some (false, ()))
       else
        (gd [decide (inK .i64 (t37 + (1 : Int)))] (hlawPaths_0 n (t0) (t4) (t6) (t35_0) (t35_1) (t35_2) (t35_3) (t35_4) (t35_5) (t36) (t37 + (1 : Int)))))))
     else
      (bif t37 == (4 : Int) then
       (gd [ofP (t6, t35_4, [], [], [], ()), ofP (t6, t35_4, [], [], [], ())] (bif !((ofN (t6, t35_4, [], [], [], ())).fst.fst == (ofN (t6, t35_4, [], [], [], ())).fst.fst && ((ofN (t6, t35_4, [], [], [], ())).fst.snd.fst == (ofN (t6, t35_4, [], [], [], ())).fst.snd.fst && ((ofN (t6, t35_4, [], [], [], ())).fst.snd.snd.fst == (ofN (t6, t35_4, [], [], [], ())).fst.snd.snd.fst && ((ofN (t6, t35_4, [], [], [], ())).fst.snd.snd.snd.fst == (ofN (t6, t35_4, [], [], [], ())).fst.snd.snd.snd.fst && ((ofN (t6, t35_4, [], [], [], ())).fst.snd.snd.snd.snd.fst == (ofN (t6, t35_4, [], [], [], ())).fst.snd.snd.snd.snd.fst && ((ofN (t6, t35_4, [], [], [], ())).fst.snd.snd.snd.snd.snd.fst == (ofN (t6, t35_4, [], [], [], ())).fst.snd.snd.snd.snd.snd.fst && ((ofN (t6, t35_4, [], [], [], ())).fst.snd.snd.snd.snd.snd.snd.fst == (ofN (t6, t35_4, [], [], [], ())).fst.snd.snd.snd.snd.snd.snd.fst && ((ofN (t6, t35_4, [], [], [], ())).fst.snd.snd.snd.snd.snd.snd.snd.fst == (ofN (t6, t35_4, [], [], [], ())).fst.snd.snd.snd.snd.snd.snd.snd.fst && ((ofN (t6, t35_4, [], [], [], ())).fst.snd.snd.snd.snd.snd.snd.snd.snd.fst == (ofN (t6, t35_4, [], [], [], ())).fst.snd.snd.snd.snd.snd.snd.snd.snd.fst && ((ofN (t6, t35_4, [], [], [], ())).fst.snd.snd.snd.snd.snd.snd.snd.snd.snd.fst == (ofN (t6, t35_4, [], [], [], ())).fst.snd.snd.snd.snd.snd.snd.snd.snd.snd.fst && true)))))))))) then
        (some (false, ()))
       else
        (bif (ofN (t6, t35_4, [], [], [], ())).snd != (ofN (t6, t35_4, [], [], [], ())).snd then
         (some (false, ()))
        else
         (gd [decide (inK .i64 (t37 + (1 : Int)))] (hlawPaths_0 n (t0) (t4) (t6) (t35_0) (t35_1) (t35_2) (t35_3) (t35_4) (t35_5) (t36) (t37 + (1 : Int)))))))
      else
       (gd [ofP (t6, t35_5, [], [], [], ()), ofP (t6, t35_5, [], [], [], ()), t37 == (5 : Int)] (bif !((ofN (t6, t35_5, [], [], [], ())).fst.fst == (ofN (t6, t35_5, [], [], [], ())).fst.fst && ((ofN (t6, t35_5, [], [], [], ())).fst.snd.fst == (ofN (t6, t35_5, [], [], [], ())).fst.snd.fst && ((ofN (t6, t35_5, [], [], [], ())).fst.snd.snd.fst == (ofN (t6, t35_5, [], [], [], ())).fst.snd.snd.fst && ((ofN (t6, t35_5, [], [], [], ())).fst.snd.snd.snd.fst == (ofN (t6, t35_5, [], [], [], ())).fst.snd.snd.snd.fst && ((ofN (t6, t35_5, [], [], [], ())).fst.snd.snd.snd.snd.fst == (ofN (t6, t35_5, [], [], [], ())).fst.snd.snd.snd.snd.fst && ((ofN (t6, t35_5, [], [], [], ())).fst.snd.snd.snd.snd.snd.fst == (ofN (t6, t35_5, [], [], [], ())).fst.snd.snd.snd.snd.snd.fst && ((ofN (t6, t35_5, [], [], [], ())).fst.snd.snd.snd.snd.snd.snd.fst == (ofN (t6, t35_5, [], [], [], ())).fst.snd.snd.snd.snd.snd.snd.fst && ((ofN (t6, t35_5, [], [], [], ())).fst.snd.snd.snd.snd.snd.snd.snd.fst == (ofN (t6, t35_5, [], [], [], ())).fst.snd.snd.snd.snd.snd.snd.snd.fst && ((ofN (t6, t35_5, [], [], [], ())).fst.snd.snd.snd.snd.snd.snd.snd.snd.fst == (ofN (t6, t35_5, [], [], [], ())).fst.snd.snd.snd.snd.snd.snd.snd.snd.fst && ((ofN (t6, t35_5, [], [], [], ())).fst.snd.snd.snd.snd.snd.snd.snd.snd.snd.fst == (ofN (t6, t35_5, [], [], [], ())).fst.snd.snd.snd.snd.snd.snd.snd.snd.snd.fst && true)))))))))) then
        (some (false, ()))
       else
        (bif (ofN (t6, t35_5, [], [], [], ())).snd != (ofN (t6, t35_5, [], [], [], ())).snd then
         (some (false, ()))
        else
         (gd [decide (inK .i64 (t37 + (1 : Int)))] (hlawPaths_0 n (t0) (t4) (t6) (t35_0) (t35_1) (t35_2) (t35_3) (t35_4) (t35_5) (t36) (t37 + (1 : Int))))))))))))
 else
  (gd [ofP (getW, ooW ++ t0, [], [], [], ()), decide (3 + t0.length ≤ 1099511627776)] (bif (ofN (getW, ooW ++ t0, [], [], [], ())).snd == (0 : Int) then
   (bif (ofN (getW, ooW ++ t0, [], [], [], ())).fst.fst == (1 : Int) then
    (bif (ofN (getW, ooW ++ t0, [], [], [], ())).fst.snd.fst == t0 then
     (bif isKey t0 then
      (gd [bndS t0] (some (true, ())))
     else
      (gd [bndS t0] (some (false, ()))))
    else
     (bif isKey t0 then
      (gd [bndS t0] (some (false, ())))
     else
      (gd [bndS t0] (some (true, ())))))
   else
    (bif isKey t0 then
     (gd [bndS t0] (some (false, ())))
    else
     (gd [bndS t0] (some (true, ())))))
  else
   (bif isKey t0 then
    (gd [bndS t0] (some (false, ())))
   else
    (gd [bndS t0] (some (true, ()))))))) := by kernel_rfl
end Go.Proofs.YtpdbgpkedehpgaaGreatDoor
