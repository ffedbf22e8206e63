/-
  armariumlaw15.AskVersion: the plain law and the contract of the function. No condition.
-/
import Derived.Test.YtpdbgpkedehpgaaGreatDoorCA
import Derived.Test.YtpdbgpkedehpgaaGreatDoorPVer
import Derived.Test.YtpdbgpkedehpgaaGreatDoorEng11
import Derived.Test.YtpdbgpkedehpgaaGreatDoorBegC
namespace Go.Proofs.YtpdbgpkedehpgaaGreatDoor
open Go Go.Eng Nice
set_option maxRecDepth 1000000
abbrev shlawV : List (Nat × List (Nat × Sh)) := []
noncomputable def olawV (x : DenL [.int .i64, .str]) : Option (DenL [.bool]) := fO Tryz.prog (envS [(21, trueS), (24, cutS), (25, digitsS), (37, ofVS), (38, ofVS)]) (shOf shlawV) Tryz.f20 [.int .i64, .str] [.bool] x
set_option maxHeartbeats 2000000 in
theorem elawV_g (N : Nat) (n : Int) (s : List UInt8) : fON Tryz.prog (envS [(21, trueS), (24, cutS), (25, digitsS), (37, ofVS), (38, ofVS)]) (shOf shlawV) Tryz.f20 [.int .i64, .str] [.bool] N (n, s, ()) =
  (gd [true && true && (true && bndS ([118, 101, 114, 115, 105, 111, 110, 61] ++ cut s ((3 : Int)) ++ digits n)), true && true && (true && bndS ([118, 101, 114, 115, 105, 111, 110, 61] ++ cut s ((3 : Int)) ++ digits n)), decide (([118, 101, 114, 115, 105, 111, 110, 61] ++ cut s ((3 : Int))).length + (digits n).length ≤ 1099511627776), decide (Int.negSucc 9223372036854775807 ≤ n) && decide (n ≤ (9223372036854775807 : Int)), decide (8 + (cut s ((3 : Int))).length ≤ 1099511627776), true && true && (true && bndS ([118, 101, 114, 115, 105, 111, 110, 61] ++ digits n)), decide (8 + (digits n).length ≤ 1099511627776), decide (Int.negSucc 9223372036854775807 ≤ n) && decide (n ≤ (9223372036854775807 : Int))] (bif (askV ([118, 101, 114, 115, 105, 111, 110, 61] ++ digits n)).snd == (0 : Int) then
    (bif decide (n ≥ (1 : Int)) then
      (bif decide (n ≤ (1099511627776 : Int)) then
        (bif (askV ([118, 101, 114, 115, 105, 111, 110, 61] ++ digits n)).snd != (0 : Int) then
          (bif (askV ([118, 101, 114, 115, 105, 111, 110, 61] ++ cut s ((3 : Int)) ++ digits n)).fst.fst == (askV ([118, 101, 114, 115, 105, 111, 110, 61] ++ cut s ((3 : Int)) ++ digits n)).fst.fst && ((askV ([118, 101, 114, 115, 105, 111, 110, 61] ++ cut s ((3 : Int)) ++ digits n)).fst.snd.fst == (askV ([118, 101, 114, 115, 105, 111, 110, 61] ++ cut s ((3 : Int)) ++ digits n)).fst.snd.fst && ((askV ([118, 101, 114, 115, 105, 111, 110, 61] ++ cut s ((3 : Int)) ++ digits n)).fst.snd.snd.fst == (askV ([118, 101, 114, 115, 105, 111, 110, 61] ++ cut s ((3 : Int)) ++ digits n)).fst.snd.snd.fst && ((askV ([118, 101, 114, 115, 105, 111, 110, 61] ++ cut s ((3 : Int)) ++ digits n)).fst.snd.snd.snd.fst == (askV ([118, 101, 114, 115, 105, 111, 110, 61] ++ cut s ((3 : Int)) ++ digits n)).fst.snd.snd.snd.fst && ((askV ([118, 101, 114, 115, 105, 111, 110, 61] ++ cut s ((3 : Int)) ++ digits n)).fst.snd.snd.snd.snd.fst == (askV ([118, 101, 114, 115, 105, 111, 110, 61] ++ cut s ((3 : Int)) ++ digits n)).fst.snd.snd.snd.snd.fst && ((askV ([118, 101, 114, 115, 105, 111, 110, 61] ++ cut s ((3 : Int)) ++ digits n)).fst.snd.snd.snd.snd.snd.fst == (askV ([118, 101, 114, 115, 105, 111, 110, 61] ++ cut s ((3 : Int)) ++ digits n)).fst.snd.snd.snd.snd.snd.fst && ((askV ([118, 101, 114, 115, 105, 111, 110, 61] ++ cut s ((3 : Int)) ++ digits n)).fst.snd.snd.snd.snd.snd.snd.fst == (askV ([118, 101, 114, 115, 105, 111, 110, 61] ++ cut s ((3 : Int)) ++ digits n)).fst.snd.snd.snd.snd.snd.snd.fst && ((askV ([118, 101, 114, 115, 105, 111, 110, 61] ++ cut s ((3 : Int)) ++ digits n)).fst.snd.snd.snd.snd.snd.snd.snd.fst == (askV ([118, 101, 114, 115, 105, 111, 110, 61] ++ cut s ((3 : Int)) ++ digits n)).fst.snd.snd.snd.snd.snd.snd.snd.fst && ((askV ([118, 101, 114, 115, 105, 111, 110, 61] ++ cut s ((3 : Int)) ++ digits n)).fst.snd.snd.snd.snd.snd.snd.snd.snd.fst == (askV ([118, 101, 114, 115, 105, 111, 110, 61] ++ cut s ((3 : Int)) ++ digits n)).fst.snd.snd.snd.snd.snd.snd.snd.snd.fst && ((askV ([118, 101, 114, 115, 105, 111, 110, 61] ++ cut s ((3 : Int)) ++ digits n)).fst.snd.snd.snd.snd.snd.snd.snd.snd.snd.fst == (askV ([118, 101, 114, 115, 105, 111, 110, 61] ++ cut s ((3 : Int)) ++ digits n)).fst.snd.snd.snd.snd.snd.snd.snd.snd.snd.fst && true))))))))) then
            (bif (askV ([118, 101, 114, 115, 105, 111, 110, 61] ++ cut s ((3 : Int)) ++ digits n)).snd == (askV ([118, 101, 114, 115, 105, 111, 110, 61] ++ cut s ((3 : Int)) ++ digits n)).snd then
              (some (true, PUnit.unit))
            else
              (some (false, PUnit.unit)))
          else
            (some (false, PUnit.unit)))
        else
          (bif (askV ([118, 101, 114, 115, 105, 111, 110, 61] ++ digits n)).fst.snd.snd.fst == n then
            (bif (askV ([118, 101, 114, 115, 105, 111, 110, 61] ++ cut s ((3 : Int)) ++ digits n)).fst.fst == (askV ([118, 101, 114, 115, 105, 111, 110, 61] ++ cut s ((3 : Int)) ++ digits n)).fst.fst && ((askV ([118, 101, 114, 115, 105, 111, 110, 61] ++ cut s ((3 : Int)) ++ digits n)).fst.snd.fst == (askV ([118, 101, 114, 115, 105, 111, 110, 61] ++ cut s ((3 : Int)) ++ digits n)).fst.snd.fst && ((askV ([118, 101, 114, 115, 105, 111, 110, 61] ++ cut s ((3 : Int)) ++ digits n)).fst.snd.snd.fst == (askV ([118, 101, 114, 115, 105, 111, 110, 61] ++ cut s ((3 : Int)) ++ digits n)).fst.snd.snd.fst && ((askV ([118, 101, 114, 115, 105, 111, 110, 61] ++ cut s ((3 : Int)) ++ digits n)).fst.snd.snd.snd.fst == (askV ([118, 101, 114, 115, 105, 111, 110, 61] ++ cut s ((3 : Int)) ++ digits n)).fst.snd.snd.snd.fst && ((askV ([118, 101, 114, 115, 105, 111, 110, 61] ++ cut s ((3 : Int)) ++ digits n)).fst.snd.snd.snd.snd.fst == (askV ([118, 101, 114, 115, 105, 111, 110, 61] ++ cut s ((3 : Int)) ++ digits n)).fst.snd.snd.snd.snd.fst && ((askV ([118, 101, 114, 115, 105, 111, 110, 61] ++ cut s ((3 : Int)) ++ digits n)).fst.snd.snd.snd.snd.snd.fst == (askV ([118, 101, 114, 115, 105, 111, 110, 61] ++ cut s ((3 : Int)) ++ digits n)).fst.snd.snd.snd.snd.snd.fst && ((askV ([118, 101, 114, 115, 105, 111, 110, 61] ++ cut s ((3 : Int)) ++ digits n)).fst.snd.snd.snd.snd.snd.snd.fst == (askV ([118, 101, 114, 115, 105, 111, 110, 61] ++ cut s ((3 : Int)) ++ digits n)).fst.snd.snd.snd.snd.snd.snd.fst && ((askV ([118, 101, 114, 115, 105, 111, 110, 61] ++ cut s ((3 : Int)) ++ digits n)).fst.snd.snd.snd.snd.snd.snd.snd.fst == (askV ([118, 101, 114, 115, 105, 111, 110, 61] ++ cut s ((3 : Int)) ++ digits n)).fst.snd.snd.snd.snd.snd.snd.snd.fst && ((askV ([118, 101, 114, 115, 105, 111, 110, 61] ++ cut s ((3 : Int)) ++ digits n)).fst.snd.snd.snd.snd.snd.snd.snd.snd.fst == (askV ([118, 101, 114, 115, 105, 111, 110, 61] ++ cut s ((3 : Int)) ++ digits n)).fst.snd.snd.snd.snd.snd.snd.snd.snd.fst && ((askV ([118, 101, 114, 115, 105, 111, 110, 61] ++ cut s ((3 : Int)) ++ digits n)).fst.snd.snd.snd.snd.snd.snd.snd.snd.snd.fst == (askV ([118, 101, 114, 115, 105, 111, 110, 61] ++ cut s ((3 : Int)) ++ digits n)).fst.snd.snd.snd.snd.snd.snd.snd.snd.snd.fst && true))))))))) then
              (bif (askV ([118, 101, 114, 115, 105, 111, 110, 61] ++ cut s ((3 : Int)) ++ digits n)).snd == (askV ([118, 101, 114, 115, 105, 111, 110, 61] ++ cut s ((3 : Int)) ++ digits n)).snd then
                (some (true, PUnit.unit))
              else
                (some (false, PUnit.unit)))
            else
              (some (false, PUnit.unit)))
          else
            (some (false, PUnit.unit))))
      else
        (some (false, PUnit.unit)))
    else
      (some (false, PUnit.unit)))
  else
    (bif decide (n ≥ (1 : Int)) then
      (bif decide (n ≤ (1099511627776 : Int)) then
        (some (false, PUnit.unit))
      else
        (bif (askV ([118, 101, 114, 115, 105, 111, 110, 61] ++ digits n)).snd != (0 : Int) then
          (bif (askV ([118, 101, 114, 115, 105, 111, 110, 61] ++ cut s ((3 : Int)) ++ digits n)).fst.fst == (askV ([118, 101, 114, 115, 105, 111, 110, 61] ++ cut s ((3 : Int)) ++ digits n)).fst.fst && ((askV ([118, 101, 114, 115, 105, 111, 110, 61] ++ cut s ((3 : Int)) ++ digits n)).fst.snd.fst == (askV ([118, 101, 114, 115, 105, 111, 110, 61] ++ cut s ((3 : Int)) ++ digits n)).fst.snd.fst && ((askV ([118, 101, 114, 115, 105, 111, 110, 61] ++ cut s ((3 : Int)) ++ digits n)).fst.snd.snd.fst == (askV ([118, 101, 114, 115, 105, 111, 110, 61] ++ cut s ((3 : Int)) ++ digits n)).fst.snd.snd.fst && ((askV ([118, 101, 114, 115, 105, 111, 110, 61] ++ cut s ((3 : Int)) ++ digits n)).fst.snd.snd.snd.fst == (askV ([118, 101, 114, 115, 105, 111, 110, 61] ++ cut s ((3 : Int)) ++ digits n)).fst.snd.snd.snd.fst && ((askV ([118, 101, 114, 115, 105, 111, 110, 61] ++ cut s ((3 : Int)) ++ digits n)).fst.snd.snd.snd.snd.fst == (askV ([118, 101, 114, 115, 105, 111, 110, 61] ++ cut s ((3 : Int)) ++ digits n)).fst.snd.snd.snd.snd.fst && ((askV ([118, 101, 114, 115, 105, 111, 110, 61] ++ cut s ((3 : Int)) ++ digits n)).fst.snd.snd.snd.snd.snd.fst == (askV ([118, 101, 114, 115, 105, 111, 110, 61] ++ cut s ((3 : Int)) ++ digits n)).fst.snd.snd.snd.snd.snd.fst && ((askV ([118, 101, 114, 115, 105, 111, 110, 61] ++ cut s ((3 : Int)) ++ digits n)).fst.snd.snd.snd.snd.snd.snd.fst == (askV ([118, 101, 114, 115, 105, 111, 110, 61] ++ cut s ((3 : Int)) ++ digits n)).fst.snd.snd.snd.snd.snd.snd.fst && ((askV ([118, 101, 114, 115, 105, 111, 110, 61] ++ cut s ((3 : Int)) ++ digits n)).fst.snd.snd.snd.snd.snd.snd.snd.fst == (askV ([118, 101, 114, 115, 105, 111, 110, 61] ++ cut s ((3 : Int)) ++ digits n)).fst.snd.snd.snd.snd.snd.snd.snd.fst && ((askV ([118, 101, 114, 115, 105, 111, 110, 61] ++ cut s ((3 : Int)) ++ digits n)).fst.snd.snd.snd.snd.snd.snd.snd.snd.fst == (askV ([118, 101, 114, 115, 105, 111, 110, 61] ++ cut s ((3 : Int)) ++ digits n)).fst.snd.snd.snd.snd.snd.snd.snd.snd.fst && ((askV ([118, 101, 114, 115, 105, 111, 110, 61] ++ cut s ((3 : Int)) ++ digits n)).fst.snd.snd.snd.snd.snd.snd.snd.snd.snd.fst == (askV ([118, 101, 114, 115, 105, 111, 110, 61] ++ cut s ((3 : Int)) ++ digits n)).fst.snd.snd.snd.snd.snd.snd.snd.snd.snd.fst && true))))))))) then
            (bif (askV ([118, 101, 114, 115, 105, 111, 110, 61] ++ cut s ((3 : Int)) ++ digits n)).snd == (askV ([118, 101, 114, 115, 105, 111, 110, 61] ++ cut s ((3 : Int)) ++ digits n)).snd then
              (some (true, PUnit.unit))
            else
              (some (false, PUnit.unit)))
          else
            (some (false, PUnit.unit)))
        else
          (bif (askV ([118, 101, 114, 115, 105, 111, 110, 61] ++ digits n)).fst.snd.snd.fst == n then
            (bif (askV ([118, 101, 114, 115, 105, 111, 110, 61] ++ cut s ((3 : Int)) ++ digits n)).fst.fst == (askV ([118, 101, 114, 115, 105, 111, 110, 61] ++ cut s ((3 : Int)) ++ digits n)).fst.fst && ((askV ([118, 101, 114, 115, 105, 111, 110, 61] ++ cut s ((3 : Int)) ++ digits n)).fst.snd.fst == (askV ([118, 101, 114, 115, 105, 111, 110, 61] ++ cut s ((3 : Int)) ++ digits n)).fst.snd.fst && ((askV ([118, 101, 114, 115, 105, 111, 110, 61] ++ cut s ((3 : Int)) ++ digits n)).fst.snd.snd.fst == (askV ([118, 101, 114, 115, 105, 111, 110, 61] ++ cut s ((3 : Int)) ++ digits n)).fst.snd.snd.fst && ((askV ([118, 101, 114, 115, 105, 111, 110, 61] ++ cut s ((3 : Int)) ++ digits n)).fst.snd.snd.snd.fst == (askV ([118, 101, 114, 115, 105, 111, 110, 61] ++ cut s ((3 : Int)) ++ digits n)).fst.snd.snd.snd.fst && ((askV ([118, 101, 114, 115, 105, 111, 110, 61] ++ cut s ((3 : Int)) ++ digits n)).fst.snd.snd.snd.snd.fst == (askV ([118, 101, 114, 115, 105, 111, 110, 61] ++ cut s ((3 : Int)) ++ digits n)).fst.snd.snd.snd.snd.fst && ((askV ([118, 101, 114, 115, 105, 111, 110, 61] ++ cut s ((3 : Int)) ++ digits n)).fst.snd.snd.snd.snd.snd.fst == (askV ([118, 101, 114, 115, 105, 111, 110, 61] ++ cut s ((3 : Int)) ++ digits n)).fst.snd.snd.snd.snd.snd.fst && ((askV ([118, 101, 114, 115, 105, 111, 110, 61] ++ cut s ((3 : Int)) ++ digits n)).fst.snd.snd.snd.snd.snd.snd.fst == (askV ([118, 101, 114, 115, 105, 111, 110, 61] ++ cut s ((3 : Int)) ++ digits n)).fst.snd.snd.snd.snd.snd.snd.fst && ((askV ([118, 101, 114, 115, 105, 111, 110, 61] ++ cut s ((3 : Int)) ++ digits n)).fst.snd.snd.snd.snd.snd.snd.snd.fst == (askV ([118, 101, 114, 115, 105, 111, 110, 61] ++ cut s ((3 : Int)) ++ digits n)).fst.snd.snd.snd.snd.snd.snd.snd.fst && ((askV ([118, 101, 114, 115, 105, 111, 110, 61] ++ cut s ((3 : Int)) ++ digits n)).fst.snd.snd.snd.snd.snd.snd.snd.snd.fst == (askV ([118, 101, 114, 115, 105, 111, 110, 61] ++ cut s ((3 : Int)) ++ digits n)).fst.snd.snd.snd.snd.snd.snd.snd.snd.fst && ((askV ([118, 101, 114, 115, 105, 111, 110, 61] ++ cut s ((3 : Int)) ++ digits n)).fst.snd.snd.snd.snd.snd.snd.snd.snd.snd.fst == (askV ([118, 101, 114, 115, 105, 111, 110, 61] ++ cut s ((3 : Int)) ++ digits n)).fst.snd.snd.snd.snd.snd.snd.snd.snd.snd.fst && true))))))))) then
              (bif (askV ([118, 101, 114, 115, 105, 111, 110, 61] ++ cut s ((3 : Int)) ++ digits n)).snd == (askV ([118, 101, 114, 115, 105, 111, 110, 61] ++ cut s ((3 : Int)) ++ digits n)).snd then
                (some (true, PUnit.unit))
              else
                (some (false, PUnit.unit)))
            else
              (some (false, PUnit.unit)))
          else
            (some (false, PUnit.unit)))))
    else
      (bif (askV ([118, 101, 114, 115, 105, 111, 110, 61] ++ digits n)).snd != (0 : Int) then
        (bif (askV ([118, 101, 114, 115, 105, 111, 110, 61] ++ cut s ((3 : Int)) ++ digits n)).fst.fst == (askV ([118, 101, 114, 115, 105, 111, 110, 61] ++ cut s ((3 : Int)) ++ digits n)).fst.fst && ((askV ([118, 101, 114, 115, 105, 111, 110, 61] ++ cut s ((3 : Int)) ++ digits n)).fst.snd.fst == (askV ([118, 101, 114, 115, 105, 111, 110, 61] ++ cut s ((3 : Int)) ++ digits n)).fst.snd.fst && ((askV ([118, 101, 114, 115, 105, 111, 110, 61] ++ cut s ((3 : Int)) ++ digits n)).fst.snd.snd.fst == (askV ([118, 101, 114, 115, 105, 111, 110, 61] ++ cut s ((3 : Int)) ++ digits n)).fst.snd.snd.fst && ((askV ([118, 101, 114, 115, 105, 111, 110, 61] ++ cut s ((3 : Int)) ++ digits n)).fst.snd.snd.snd.fst == (askV ([118, 101, 114, 115, 105, 111, 110, 61] ++ cut s ((3 : Int)) ++ digits n)).fst.snd.snd.snd.fst && ((askV ([118, 101, 114, 115, 105, 111, 110, 61] ++ cut s ((3 : Int)) ++ digits n)).fst.snd.snd.snd.snd.fst == (askV ([118, 101, 114, 115, 105, 111, 110, 61] ++ cut s ((3 : Int)) ++ digits n)).fst.snd.snd.snd.snd.fst && ((askV ([118, 101, 114, 115, 105, 111, 110, 61] ++ cut s ((3 : Int)) ++ digits n)).fst.snd.snd.snd.snd.snd.fst == (askV ([118, 101, 114, 115, 105, 111, 110, 61] ++ cut s ((3 : Int)) ++ digits n)).fst.snd.snd.snd.snd.snd.fst && ((askV ([118, 101, 114, 115, 105, 111, 110, 61] ++ cut s ((3 : Int)) ++ digits n)).fst.snd.snd.snd.snd.snd.snd.fst == (askV ([118, 101, 114, 115, 105, 111, 110, 61] ++ cut s ((3 : Int)) ++ digits n)).fst.snd.snd.snd.snd.snd.snd.fst && ((askV ([118, 101, 114, 115, 105, 111, 110, 61] ++ cut s ((3 : Int)) ++ digits n)).fst.snd.snd.snd.snd.snd.snd.snd.fst == (askV ([118, 101, 114, 115, 105, 111, 110, 61] ++ cut s ((3 : Int)) ++ digits n)).fst.snd.snd.snd.snd.snd.snd.snd.fst && ((askV ([118, 101, 114, 115, 105, 111, 110, 61] ++ cut s ((3 : Int)) ++ digits n)).fst.snd.snd.snd.snd.snd.snd.snd.snd.fst == (askV ([118, 101, 114, 115, 105, 111, 110, 61] ++ cut s ((3 : Int)) ++ digits n)).fst.snd.snd.snd.snd.snd.snd.snd.snd.fst && ((askV ([118, 101, 114, 115, 105, 111, 110, 61] ++ cut s ((3 : Int)) ++ digits n)).fst.snd.snd.snd.snd.snd.snd.snd.snd.snd.fst == (askV ([118, 101, 114, 115, 105, 111, 110, 61] ++ cut s ((3 : Int)) ++ digits n)).fst.snd.snd.snd.snd.snd.snd.snd.snd.snd.fst && true))))))))) then
          (bif (askV ([118, 101, 114, 115, 105, 111, 110, 61] ++ cut s ((3 : Int)) ++ digits n)).snd == (askV ([118, 101, 114, 115, 105, 111, 110, 61] ++ cut s ((3 : Int)) ++ digits n)).snd then
            (some (true, PUnit.unit))
          else
            (some (false, PUnit.unit)))
        else
          (some (false, PUnit.unit)))
      else
        (bif (askV ([118, 101, 114, 115, 105, 111, 110, 61] ++ digits n)).fst.snd.snd.fst == n then
          (bif (askV ([118, 101, 114, 115, 105, 111, 110, 61] ++ cut s ((3 : Int)) ++ digits n)).fst.fst == (askV ([118, 101, 114, 115, 105, 111, 110, 61] ++ cut s ((3 : Int)) ++ digits n)).fst.fst && ((askV ([118, 101, 114, 115, 105, 111, 110, 61] ++ cut s ((3 : Int)) ++ digits n)).fst.snd.fst == (askV ([118, 101, 114, 115, 105, 111, 110, 61] ++ cut s ((3 : Int)) ++ digits n)).fst.snd.fst && ((askV ([118, 101, 114, 115, 105, 111, 110, 61] ++ cut s ((3 : Int)) ++ digits n)).fst.snd.snd.fst == (askV ([118, 101, 114, 115, 105, 111, 110, 61] ++ cut s ((3 : Int)) ++ digits n)).fst.snd.snd.fst && ((askV ([118, 101, 114, 115, 105, 111, 110, 61] ++ cut s ((3 : Int)) ++ digits n)).fst.snd.snd.snd.fst == (askV ([118, 101, 114, 115, 105, 111, 110, 61] ++ cut s ((3 : Int)) ++ digits n)).fst.snd.snd.snd.fst && ((askV ([118, 101, 114, 115, 105, 111, 110, 61] ++ cut s ((3 : Int)) ++ digits n)).fst.snd.snd.snd.snd.fst == (askV ([118, 101, 114, 115, 105, 111, 110, 61] ++ cut s ((3 : Int)) ++ digits n)).fst.snd.snd.snd.snd.fst && ((askV ([118, 101, 114, 115, 105, 111, 110, 61] ++ cut s ((3 : Int)) ++ digits n)).fst.snd.snd.snd.snd.snd.fst == (askV ([118, 101, 114, 115, 105, 111, 110, 61] ++ cut s ((3 : Int)) ++ digits n)).fst.snd.snd.snd.snd.snd.fst && ((askV ([118, 101, 114, 115, 105, 111, 110, 61] ++ cut s ((3 : Int)) ++ digits n)).fst.snd.snd.snd.snd.snd.snd.fst == (askV ([118, 101, 114, 115, 105, 111, 110, 61] ++ cut s ((3 : Int)) ++ digits n)).fst.snd.snd.snd.snd.snd.snd.fst && ((askV ([118, 101, 114, 115, 105, 111, 110, 61] ++ cut s ((3 : Int)) ++ digits n)).fst.snd.snd.snd.snd.snd.snd.snd.fst == (askV ([118, 101, 114, 115, 105, 111, 110, 61] ++ cut s ((3 : Int)) ++ digits n)).fst.snd.snd.snd.snd.snd.snd.snd.fst && ((askV ([118, 101, 114, 115, 105, 111, 110, 61] ++ cut s ((3 : Int)) ++ digits n)).fst.snd.snd.snd.snd.snd.snd.snd.snd.fst == (askV ([118, 101, 114, 115, 105, 111, 110, 61] ++ cut s ((3 : Int)) ++ digits n)).fst.snd.snd.snd.snd.snd.snd.snd.snd.fst && ((askV ([118, 101, 114, 115, 105, 111, 110, 61] ++ cut s ((3 : Int)) ++ digits n)).fst.snd.snd.snd.snd.snd.snd.snd.snd.snd.fst == (askV ([118, 101, 114, 115, 105, 111, 110, 61] ++ cut s ((3 : Int)) ++ digits n)).fst.snd.snd.snd.snd.snd.snd.snd.snd.snd.fst && true))))))))) then
            (bif (askV ([118, 101, 114, 115, 105, 111, 110, 61] ++ cut s ((3 : Int)) ++ digits n)).snd == (askV ([118, 101, 114, 115, 105, 111, 110, 61] ++ cut s ((3 : Int)) ++ digits n)).snd then
              (some (true, PUnit.unit))
            else
              (some (false, PUnit.unit)))
          else
            (some (false, PUnit.unit)))
        else
          (some (false, PUnit.unit))))))) := by kernel_rfl
theorem olawV_g (x : DenL [.int .i64, .str]) : olawV x = fON Tryz.prog (envS [(21, trueS), (24, cutS), (25, digitsS), (37, ofVS), (38, ofVS)]) (shOf shlawV) Tryz.f20 [.int .i64, .str] [.bool] heads0 x := rfl

theorem digits_len (n : Int) : (digits n).length ≤ 21 := by
  unfold digits digs
  split
  · have := digsF_len 20 (-n).toNat []
    simp only [List.length_cons, List.length_nil] at this ⊢; omega
  · have := digsF_len 20 n.toNat []
    simp only [List.length_nil] at this ⊢; omega
theorem cut_len (s : List UInt8) (n : Int) : (cut s n).length ≤ n.toNat := by
  unfold cut; rw [List.length_take]; omega
theorem lawV_n (x : DenL [.int .i64, .str]) (hb : BdL [.int .i64, .str] x) : olawV x = some (true, ()) := by
  obtain ⟨n, s, ⟨⟩⟩ := x
  obtain ⟨hn, -, -⟩ := hb
  have h0 : -9223372036854775808 ≤ n := hn.1
  have h1 : n ≤ 9223372036854775807 := hn.2
  obtain ⟨v1, v2⟩ := version_law h0 h1
  have l1 := digits_len n
  have l2 : (cut s 3).length ≤ 3 := cut_len s 3
  rw [olawV_g, elawV_g]
  rw [show ([118, 101, 114, 115, 105, 111, 110, 61] : List UInt8) = vPre from rfl]
  have hl : vPre.length = 8 := rfl
  have b1 : bndS (vPre ++ cut s 3 ++ digits n) = true := decide_eq_true (by simp only [List.length_append, hl]; omega)
  have b2 : bndS (vPre ++ digits n) = true := decide_eq_true (by simp only [List.length_append, hl]; omega)
  generalize askV (vPre ++ cut s 3 ++ digits n) = B
  generalize askV (vPre ++ digits n) = A at v1 v2
  simp only [b1, b2, beq_self_eq_true, Bool.and_true, Bool.true_and, cond_true, List.length_append, hl]
  have hnn : (decide (Int.negSucc 9223372036854775807 ≤ n) && decide (n ≤ (9223372036854775807 : Int))) = true := by
    rw [Bool.and_eq_true, decide_eq_true_eq, decide_eq_true_eq]; exact ⟨h0, h1⟩
  rw [gdB rfl, gdB rfl, gdT (by omega), gdB hnn, gdT (by omega), gdB rfl, gdT (by omega), gdB hnn, gd_nil]
  by_cases hA : A.2 = 0
  · obtain ⟨g1, g2⟩ := v1.1 hA
    have g3 := v2 hA
    simp only [hA, g3, beq_self_eq_true, cond_true, bne_self_eq_false, cond_false, show decide (n ≥ 1) = true from decide_eq_true g1, show decide (n ≤ 1099511627776) = true from decide_eq_true g2]
  · have hA2 : (A.2 == (0 : Int)) = false := by simpa using hA
    have hA3 : (A.2 != (0 : Int)) = true := by simpa using hA
    have g : ¬ (1 ≤ n ∧ n ≤ 1099511627776) := fun h => hA (v1.2 h)
    simp only [hA2, hA3, cond_false, cond_true]
    by_cases g1 : n ≥ 1
    · have g2 : ¬ n ≤ 1099511627776 := fun h => g ⟨g1, h⟩
      simp only [show decide (n ≥ 1) = true from decide_eq_true g1, show decide (n ≤ 1099511627776) = false from decide_eq_false g2, cond_true, cond_false]
    · simp only [show decide (n ≥ 1) = false from decide_eq_false g1, cond_true, cond_false]
theorem begun_c : PC 21 trueS := pure_true begun15_run
theorem lawV_c : PC 20 (ofO [.int .i64, .str] [.bool] olawV) := (pureO (envS_ok (l := [(21, trueS), (24, cutS), (25, digitsS), (37, ofVS), (38, ofVS)]) ⟨begun_c, cut_c, digits_c, aOf_c, rOf_c, trivial⟩) gl_ne Tryz.func20 (by kernel_rfl) (by decide))
theorem lawV_run {w : World} (hgl : GlW glC w) {args : Array Value} {x : DenL [.int .i64, .str]} (hx : RdAll (fzW w) [.int .i64, .str] x args.toList) (hb : BdL [.int .i64, .str] x) : Calls Tryz.prog 20 args w fun e w' => e = .returned (.bool true) ∧ Same w w' :=
  law_calls lawV_c (fun x hb => by
    have := lawV_n x hb
    exact ⟨by show (olawV x).isSome = true; rw [this]; rfl, by show (olawV x).getD _ = _; rw [this]; rfl⟩) hgl hx hb
end Go.Proofs.YtpdbgpkedehpgaaGreatDoor
