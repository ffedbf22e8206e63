/-
  AskParts: equations, as printed. No condition.
-/
import Derived.Test.YtpdbgpkedehpgaaGreatDoorA5
namespace Go.Proofs.YtpdbgpkedehpgaaGreatDoor
open Go Go.Eng Nice
set_option maxRecDepth 1000000
abbrev shlawParts : List (Nat × List (Nat × Sh)) := [(8, [(0, (.one (.dat (.int .i64)))), (8, (.one .sym)), (10, (.sli [.sym, .sym, .sym, .sym, .sym, .sym])), (11, (.one .sym)), (12, (.one .sym))])]
noncomputable def hlawParts_0 (n : Nat) (t0 : List (Ty.Den (.int .i64))) (t8 : Bool) (t10_0 : List UInt8) (t10_1 : List UInt8) (t10_2 : List UInt8) (t10_3 : List UInt8) (t10_4 : List UInt8) (t10_5 : List UInt8) (t11 : List UInt8) (t12 : Int) : Option (DenL [.bool]) := rH Tryz.prog (envS [(21, trueS), (24, cutS), (25, digitsS), (37, ofS), (38, ofS)]) (shOf shlawParts) Tryz.f19 [.bool] n 0 [(0, dt 9), (8, .bool t8), (10, .slice (some ⟨10, 0, none⟩) 6 6), (11, sy (.string (bs t11))), (12, sy (.int .i64 t12))] [.dat (.int .i64) t0, .row [sy (.string (bs t10_0)), sy (.string (bs t10_1)), sy (.string (bs t10_2)), sy (.string (bs t10_3)), sy (.string (bs t10_4)), sy (.string (bs t10_5))] 9 false]
noncomputable def olawParts (x : DenL [.slice (.int .i64), .str, .str, .int .i64]) : Option (DenL [.bool]) := fO Tryz.prog (envS [(21, trueS), (24, cutS), (25, digitsS), (37, ofS), (38, ofS)]) (shOf shlawParts) Tryz.f19 [.slice (.int .i64), .str, .str, .int .i64] [.bool] x
theorem elawParts_g (N : Nat) (od : List Int) (pr af : List UInt8) (mo : Int) : fON Tryz.prog (envS [(21, trueS), (24, cutS), (25, digitsS), (37, ofS), (38, ofS)]) (shOf shlawParts) Tryz.f19 [.slice (.int .i64), .str, .str, .int .i64] [.bool] N (od, pr, af, mo, ()) =
 (gd [decide (4 + (digits mo).length ≤ 1099511627776), decide (Int.negSucc 9223372036854775807 ≤ mo) && decide (mo ≤ (9223372036854775807 : Int)), decide (6 + (cut af ((41 : Int))).length ≤ 1099511627776), decide (7 + (cut pr ((41 : Int))).length ≤ 1099511627776)] (hlawParts_0 N (od) (false) (ePre ++ cut pr ((41 : Int))) (eAft ++ cut af ((41 : Int))) (eMax ++ digits mo) ([118, 101, 114, 115, 105, 111, 110, 115, 61, 49]) ([]) ([120, 61, 49]) ([]) ((0 : Int)))) := by kernel_rfl
theorem olawParts_g (x : DenL [.slice (.int .i64), .str, .str, .int .i64]) : olawParts x = fON Tryz.prog (envS [(21, trueS), (24, cutS), (25, digitsS), (37, ofS), (38, ofS)]) (shOf shlawParts) Tryz.f19 [.slice (.int .i64), .str, .str, .int .i64] [.bool] heads0 x := rfl
theorem elawParts_0 (n : Nat) (t0 : List (Ty.Den (.int .i64))) (t8 : Bool) (t10_0 : List UInt8) (t10_1 : List UInt8) (t10_2 : List UInt8) (t10_3 : List UInt8) (t10_4 : List UInt8) (t10_5 : List UInt8) (t11 : List UInt8) (t12 : Int) : hlawParts_0 (n + 1) t0 t8 t10_0 t10_1 t10_2 t10_3 t10_4 t10_5 t11 t12 =
 (bif decide (t12 < (↑t0.length : Int)) then
  (bif decide (t12 < (5 : Int)) then
   (bif decide (t12 > (0 : Int)) then
    (gd [decide (t11.length + 1 ≤ 1099511627776)] (bif (Int.tmod (t0.getD t12.toNat (Ty.int IntKind.i64).dflt) ((6 : Int)) + (6 : Int)).tmod ((6 : Int)) == (0 : Int) then
     (gd [decide (inK .i64 (t12 + (1 : Int))), decide ((t11 ++ [38]).length + t10_0.length ≤ 1099511627776), decide (inK .i64 (Int.tmod (t0.getD t12.toNat (Ty.int IntKind.i64).dflt) ((6 : Int)) + (6 : Int))), decide (t12.toNat < t0.length), decide ((0 : Int) ≤ t12), decide (t12 < (↑t0.length : Int))] (hlawParts_0 n (t0) (t8) (t10_0) (t10_1) (t10_2) (t10_3) (t10_4) (t10_5) (t11 ++ [38] ++ t10_0) (t12 + (1 : Int))))
    else
     (bif (Int.tmod (t0.getD t12.toNat (Ty.int IntKind.i64).dflt) ((6 : Int)) + (6 : Int)).tmod ((6 : Int)) == (1 : Int) then
      (gd [decide (inK .i64 (t12 + (1 : Int))), decide ((t11 ++ [38]).length + t10_1.length ≤ 1099511627776), decide (inK .i64 (Int.tmod (t0.getD t12.toNat (Ty.int IntKind.i64).dflt) ((6 : Int)) + (6 : Int))), decide (t12.toNat < t0.length), decide ((0 : Int) ≤ t12), decide (t12 < (↑t0.length : Int))] (hlawParts_0 n (t0) (t8) (t10_0) (t10_1) (t10_2) (t10_3) (t10_4) (t10_5) (t11 ++ [38] ++ t10_1) (t12 + (1 : Int))))
     else
      (bif (Int.tmod (t0.getD t12.toNat (Ty.int IntKind.i64).dflt) ((6 : Int)) + (6 : Int)).tmod ((6 : Int)) == (2 : Int) then
       (gd [decide (inK .i64 (t12 + (1 : Int))), decide ((t11 ++ [38]).length + t10_2.length ≤ 1099511627776), decide (inK .i64 (Int.tmod (t0.getD t12.toNat (Ty.int IntKind.i64).dflt) ((6 : Int)) + (6 : Int))), decide (t12.toNat < t0.length), decide ((0 : Int) ≤ t12), decide (t12 < (↑t0.length : Int))] (hlawParts_0 n (t0) (t8) (t10_0) (t10_1) (t10_2) (t10_3) (t10_4) (t10_5) (t11 ++ [38] ++ t10_2) (t12 + (1 : Int))))
      else
       (bif (Int.tmod (t0.getD t12.toNat (Ty.int IntKind.i64).dflt) ((6 : Int)) + (6 : Int)).tmod ((6 : Int)) == (3 : Int) then
        (gd [decide (inK .i64 (t12 + (1 : Int))), decide ((t11 ++ [38]).length + t10_3.length ≤ 1099511627776), decide (inK .i64 (Int.tmod (t0.getD t12.toNat (Ty.int IntKind.i64).dflt) ((6 : Int)) + (6 : Int))), decide (t12.toNat < t0.length), decide ((0 : Int) ≤ t12), decide (t12 < (↑t0.length : Int))] (hlawParts_0 n (t0) (t8) (t10_0) (t10_1) (t10_2) (t10_3) (t10_4) (t10_5) (t11 ++ [38] ++ t10_3) (t12 + (1 : Int))))
       else
        (bif (Int.tmod (t0.getD t12.toNat (Ty.int IntKind.i64).dflt) ((6 : Int)) + (6 : Int)).tmod ((6 : Int)) == (4 : Int) then
         (gd [decide (inK .i64 (t12 + (1 : Int))), decide ((t11 ++ [38]).length + t10_4.length ≤ 1099511627776), decide (inK .i64 (Int.tmod (t0.getD t12.toNat (Ty.int IntKind.i64).dflt) ((6 : Int)) + (6 : Int))), decide (t12.toNat < t0.length), decide ((0 : Int) ≤ t12), decide (t12 < (↑t0.length : Int))] (hlawParts_0 n (t0) (t8) (t10_0) (t10_1) (t10_2) (t10_3) (t10_4) (t10_5) (t11 ++ [38] ++ t10_4) (t12 + (1 : Int))))
        else
         (gd [decide (inK .i64 (t12 + (1 : Int))), decide ((t11 ++ [38]).length + t10_5.length ≤ 1099511627776), decide (inK .i64 (Int.tmod (t0.getD t12.toNat (Ty.int IntKind.i64).dflt) ((6 : Int)) + (6 : Int))), decide (t12.toNat < t0.length), decide ((0 : Int) ≤ t12), decide (t12 < (↑t0.length : Int)), (Int.tmod (t0.getD t12.toNat (Ty.int IntKind.i64).dflt) ((6 : Int)) + (6 : Int)).tmod ((6 : Int)) == (5 : Int)] (hlawParts_0 n (t0) (t8) (t10_0) (t10_1) (t10_2) (t10_3) (t10_4) (t10_5) (t11 ++ [38] ++ t10_5) (t12 + (1 : Int))))))))))
   else
    (bif (Int.tmod (t0.getD t12.toNat (Ty.int IntKind.i64).dflt) ((6 : Int)) + (6 : Int)).tmod ((6 : Int)) == (0 : Int) then
     (gd [decide (inK .i64 (t12 + (1 : Int))), decide (t11.length + t10_0.length ≤ 1099511627776), decide (inK .i64 (Int.tmod (t0.getD t12.toNat (Ty.int IntKind.i64).dflt) ((6 : Int)) + (6 : Int))), decide (t12.toNat < t0.length), decide ((0 : Int) ≤ t12), decide (t12 < (↑t0.length : Int))] (hlawParts_0 n (t0) (t8) (t10_0) (t10_1) (t10_2) (t10_3) (t10_4) (t10_5) (t11 ++ t10_0) (t12 + (1 : Int))))
    else
     (bif (Int.tmod (t0.getD t12.toNat (Ty.int IntKind.i64).dflt) ((6 : Int)) + (6 : Int)).tmod ((6 : Int)) == (1 : Int) then
      (gd [decide (inK .i64 (t12 + (1 : Int))), decide (t11.length + t10_1.length ≤ 1099511627776), decide (inK .i64 (Int.tmod (t0.getD t12.toNat (Ty.int IntKind.i64).dflt) ((6 : Int)) + (6 : Int))), decide (t12.toNat < t0.length), decide ((0 : Int) ≤ t12), decide (t12 < (↑t0.length : Int))] (hlawParts_0 n (t0) (t8) (t10_0) (t10_1) (t10_2) (t10_3) (t10_4) (t10_5) (t11 ++ t10_1) (t12 + (1 : Int))))
     else
      (bif (Int.tmod (t0.getD t12.toNat (Ty.int IntKind.i64).dflt) ((6 : Int)) + (6 : Int)).tmod ((6 : Int)) == (2 : Int) then
       (gd [decide (inK .i64 (t12 + (1 : Int))), decide (t11.length + t10_2.length ≤ 1099511627776), decide (inK .i64 (Int.tmod (t0.getD t12.toNat (Ty.int IntKind.i64).dflt) ((6 : Int)) + (6 : Int))), decide (t12.toNat < t0.length), decide ((0 : Int) ≤ t12), decide (t12 < (↑t0.length : Int))] (hlawParts_0 n (t0) (t8) (t10_0) (t10_1) (t10_2) (t10_3) (t10_4) (t10_5) (t11 ++ t10_2) (t12 + (1 : Int))))
      else
       (bif (Int.tmod (t0.getD t12.toNat (Ty.int IntKind.i64).dflt) ((6 : Int)) + (6 : Int)).tmod ((6 : Int)) == (3 : Int) then
        (gd [decide (inK .i64 (t12 + (1 : Int))), decide (t11.length + t10_3.length ≤ 1099511627776), decide (inK .i64 (Int.tmod (t0.getD t12.toNat (Ty.int IntKind.i64).dflt) ((6 : Int)) + (6 : Int))), decide (t12.toNat < t0.length), decide ((0 : Int) ≤ t12), decide (t12 < (↑t0.length : Int))] (hlawParts_0 n (t0) (t8) (t10_0) (t10_1) (t10_2) (t10_3) (t10_4) (t10_5) (t11 ++ t10_3) (t12 + (1 : Int))))
       else
        (bif (Int.tmod (t0.getD t12.toNat (Ty.int IntKind.i64).dflt) ((6 : Int)) + (6 : Int)).tmod ((6 : Int)) == (4 : Int) then
         (gd [decide (inK .i64 (t12 + (1 : Int))), decide (t11.length + t10_4.length ≤ 1099511627776), decide (inK .i64 (Int.tmod (t0.getD t12.toNat (Ty.int IntKind.i64).dflt) ((6 : Int)) + (6 : Int))), decide (t12.toNat < t0.length), decide ((0 : Int) ≤ t12), decide (t12 < (↑t0.length : Int))] (hlawParts_0 n (t0) (t8) (t10_0) (t10_1) (t10_2) (t10_3) (t10_4) (t10_5) (t11 ++ t10_4) (t12 + (1 : Int))))
        else
         (gd [decide (inK .i64 (t12 + (1 : Int))), decide (t11.length + t10_5.length ≤ 1099511627776), decide (inK .i64 (Int.tmod (t0.getD t12.toNat (Ty.int IntKind.i64).dflt) ((6 : Int)) + (6 : Int))), decide (t12.toNat < t0.length), decide ((0 : Int) ≤ t12), decide (t12 < (↑t0.length : Int)), (Int.tmod (t0.getD t12.toNat (Ty.int IntKind.i64).dflt) ((6 : Int)) + (6 : Int)).tmod ((6 : Int)) == (5 : Int)] (hlawParts_0 n (t0) (t8) (t10_0) (t10_1) (t10_2) (t10_3) (t10_4) (t10_5) (t11 ++ t10_5) (t12 + (1 : Int))))))))))
  else
   (gd [ofP (getW, oW, t11, [], [], ()), ofP (getW, oW, t11, [], [], ())] (bif (ofN (getW, oW, t11, [], [], ())).fst.fst == (ofN (getW, oW, t11, [], [], ())).fst.fst && ((ofN (getW, oW, t11, [], [], ())).fst.snd.fst == (ofN (getW, oW, t11, [], [], ())).fst.snd.fst && ((ofN (getW, oW, t11, [], [], ())).fst.snd.snd.fst == (ofN (getW, oW, t11, [], [], ())).fst.snd.snd.fst && ((ofN (getW, oW, t11, [], [], ())).fst.snd.snd.snd.fst == (ofN (getW, oW, t11, [], [], ())).fst.snd.snd.snd.fst && ((ofN (getW, oW, t11, [], [], ())).fst.snd.snd.snd.snd.fst == (ofN (getW, oW, t11, [], [], ())).fst.snd.snd.snd.snd.fst && ((ofN (getW, oW, t11, [], [], ())).fst.snd.snd.snd.snd.snd.fst == (ofN (getW, oW, t11, [], [], ())).fst.snd.snd.snd.snd.snd.fst && ((ofN (getW, oW, t11, [], [], ())).fst.snd.snd.snd.snd.snd.snd.fst == (ofN (getW, oW, t11, [], [], ())).fst.snd.snd.snd.snd.snd.snd.fst && ((ofN (getW, oW, t11, [], [], ())).fst.snd.snd.snd.snd.snd.snd.snd.fst == (ofN (getW, oW, t11, [], [], ())).fst.snd.snd.snd.snd.snd.snd.snd.fst && ((ofN (getW, oW, t11, [], [], ())).fst.snd.snd.snd.snd.snd.snd.snd.snd.fst == (ofN (getW, oW, t11, [], [], ())).fst.snd.snd.snd.snd.snd.snd.snd.snd.fst && ((ofN (getW, oW, t11, [], [], ())).fst.snd.snd.snd.snd.snd.snd.snd.snd.snd.fst == (ofN (getW, oW, t11, [], [], ())).fst.snd.snd.snd.snd.snd.snd.snd.snd.snd.fst && true))))))))) then
    (bif (ofN (getW, oW, t11, [], [], ())).snd == (ofN (getW, oW, t11, [], [], ())).snd then
     (bif (ofN (getW, oW, t11, [], [], ())).snd == (0 : Int) then
      (some (true, ()))
     else
      (bif (ofN (getW, oW, t11, [], [], ())).snd == (400 : Int) then
       (some (true, ()))
      else
       (some (false, ()))))
    else
     (some (false, ())))
   else
    (some (false, ())))))
 else
  (gd [ofP (getW, oW, t11, [], [], ()), ofP (getW, oW, t11, [], [], ())] (bif (ofN (getW, oW, t11, [], [], ())).fst.fst == (ofN (getW, oW, t11, [], [], ())).fst.fst && ((ofN (getW, oW, t11, [], [], ())).fst.snd.fst == (ofN (getW, oW, t11, [], [], ())).fst.snd.fst && ((ofN (getW, oW, t11, [], [], ())).fst.snd.snd.fst == (ofN (getW, oW, t11, [], [], ())).fst.snd.snd.fst && ((ofN (getW, oW, t11, [], [], ())).fst.snd.snd.snd.fst == (ofN (getW, oW, t11, [], [], ())).fst.snd.snd.snd.fst && ((ofN (getW, oW, t11, [], [], ())).fst.snd.snd.snd.snd.fst == (ofN (getW, oW, t11, [], [], ())).fst.snd.snd.snd.snd.fst && ((ofN (getW, oW, t11, [], [], ())).fst.snd.snd.snd.snd.snd.fst == (ofN (getW, oW, t11, [], [], ())).fst.snd.snd.snd.snd.snd.fst && ((ofN (getW, oW, t11, [], [], ())).fst.snd.snd.snd.snd.snd.snd.fst == (ofN (getW, oW, t11, [], [], ())).fst.snd.snd.snd.snd.snd.snd.fst && ((ofN (getW, oW, t11, [], [], ())).fst.snd.snd.snd.snd.snd.snd.snd.fst == (ofN (getW, oW, t11, [], [], ())).fst.snd.snd.snd.snd.snd.snd.snd.fst && ((ofN (getW, oW, t11, [], [], ())).fst.snd.snd.snd.snd.snd.snd.snd.snd.fst == (ofN (getW, oW, t11, [], [], ())).fst.snd.snd.snd.snd.snd.snd.snd.snd.fst && ((ofN (getW, oW, t11, [], [], ())).fst.snd.snd.snd.snd.snd.snd.snd.snd.snd.fst == (ofN (getW, oW, t11, [], [], ())).fst.snd.snd.snd.snd.snd.snd.snd.snd.snd.fst && true))))))))) then
   (bif (ofN (getW, oW, t11, [], [], ())).snd == (ofN (getW, oW, t11, [], [], ())).snd then
    (bif (ofN (getW, oW, t11, [], [], ())).snd == (0 : Int) then
     (some (true, ()))
    else
     (bif (ofN (getW, oW, t11, [], [], ())).snd == (400 : Int) then
      (some (true, ()))
     else
      (some (false, ()))))
   else
    (some (false, ())))
  else
   (some (false, ()))))) := by kernel_rfl
end Go.Proofs.YtpdbgpkedehpgaaGreatDoor
