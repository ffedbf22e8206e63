/-
  The functions of asks, as equations (printed by a program). No condition.
-/
import Derived.Test.YtpdbgpkedehpgaaGreatDoorLib15
namespace Go.Proofs.YtpdbgpkedehpgaaGreatDoor
open Go Go.Eng Nice
set_option maxRecDepth 1000000
abbrev shkeyCh : List (Nat × List (Nat × Sh)) := []
noncomputable def okeyCh (x : DenL [.byte]) : Option (DenL [.bool]) := fO Tryz.prog (envS []) (shOf shkeyCh) Tryz.f113 [.byte] [.bool] x
theorem ekeyCh_g (N : Nat) (x0 : UInt8) : fON Tryz.prog (envS []) (shOf shkeyCh) Tryz.f113 [.byte] [.bool] N (x0, ()) =
  (bif decide ((↑x0.toNat : Int) ≥ (97 : Int)) then
    (bif decide ((↑x0.toNat : Int) ≤ (122 : Int)) then
      (some (true, PUnit.unit))
    else
      (bif decide ((↑x0.toNat : Int) ≥ (48 : Int)) then
        (bif decide ((↑x0.toNat : Int) ≤ (57 : Int)) then
          (some (true, PUnit.unit))
        else
          (bif (↑x0.toNat : Int) == (46 : Int) then
            (some (true, PUnit.unit))
          else
            (bif (↑x0.toNat : Int) == (45 : Int) then
              (some (true, PUnit.unit))
            else
              (bif (↑x0.toNat : Int) == (95 : Int) then
                (some (true, PUnit.unit))
              else
                (bif (↑x0.toNat : Int) == (47 : Int) then
                  (some (true, PUnit.unit))
                else
                  (some (false, PUnit.unit)))))))
      else
        (bif (↑x0.toNat : Int) == (46 : Int) then
          (some (true, PUnit.unit))
        else
          (bif (↑x0.toNat : Int) == (45 : Int) then
            (some (true, PUnit.unit))
          else
            (bif (↑x0.toNat : Int) == (95 : Int) then
              (some (true, PUnit.unit))
            else
              (bif (↑x0.toNat : Int) == (47 : Int) then
                (some (true, PUnit.unit))
              else
                (some (false, PUnit.unit))))))))
  else
    (bif decide ((↑x0.toNat : Int) ≥ (48 : Int)) then
      (bif decide ((↑x0.toNat : Int) ≤ (57 : Int)) then
        (some (true, PUnit.unit))
      else
        (bif (↑x0.toNat : Int) == (46 : Int) then
          (some (true, PUnit.unit))
        else
          (bif (↑x0.toNat : Int) == (45 : Int) then
            (some (true, PUnit.unit))
          else
            (bif (↑x0.toNat : Int) == (95 : Int) then
              (some (true, PUnit.unit))
            else
              (bif (↑x0.toNat : Int) == (47 : Int) then
                (some (true, PUnit.unit))
              else
                (some (false, PUnit.unit)))))))
    else
      (bif (↑x0.toNat : Int) == (46 : Int) then
        (some (true, PUnit.unit))
      else
        (bif (↑x0.toNat : Int) == (45 : Int) then
          (some (true, PUnit.unit))
        else
          (bif (↑x0.toNat : Int) == (95 : Int) then
            (some (true, PUnit.unit))
          else
            (bif (↑x0.toNat : Int) == (47 : Int) then
              (some (true, PUnit.unit))
            else
              (some (false, PUnit.unit)))))))) := by kernel_rfl
theorem ekeyCh (x0 : UInt8) : okeyCh (x0, ()) =
  (bif decide ((↑x0.toNat : Int) ≥ (97 : Int)) then
    (bif decide ((↑x0.toNat : Int) ≤ (122 : Int)) then
      (some (true, PUnit.unit))
    else
      (bif decide ((↑x0.toNat : Int) ≥ (48 : Int)) then
        (bif decide ((↑x0.toNat : Int) ≤ (57 : Int)) then
          (some (true, PUnit.unit))
        else
          (bif (↑x0.toNat : Int) == (46 : Int) then
            (some (true, PUnit.unit))
          else
            (bif (↑x0.toNat : Int) == (45 : Int) then
              (some (true, PUnit.unit))
            else
              (bif (↑x0.toNat : Int) == (95 : Int) then
                (some (true, PUnit.unit))
              else
                (bif (↑x0.toNat : Int) == (47 : Int) then
                  (some (true, PUnit.unit))
                else
                  (some (false, PUnit.unit)))))))
      else
        (bif (↑x0.toNat : Int) == (46 : Int) then
          (some (true, PUnit.unit))
        else
          (bif (↑x0.toNat : Int) == (45 : Int) then
            (some (true, PUnit.unit))
          else
            (bif (↑x0.toNat : Int) == (95 : Int) then
              (some (true, PUnit.unit))
            else
              (bif (↑x0.toNat : Int) == (47 : Int) then
                (some (true, PUnit.unit))
              else
                (some (false, PUnit.unit))))))))
  else
    (bif decide ((↑x0.toNat : Int) ≥ (48 : Int)) then
      (bif decide ((↑x0.toNat : Int) ≤ (57 : Int)) then
        (some (true, PUnit.unit))
      else
        (bif (↑x0.toNat : Int) == (46 : Int) then
          (some (true, PUnit.unit))
        else
          (bif (↑x0.toNat : Int) == (45 : Int) then
            (some (true, PUnit.unit))
          else
            (bif (↑x0.toNat : Int) == (95 : Int) then
              (some (true, PUnit.unit))
            else
              (bif (↑x0.toNat : Int) == (47 : Int) then
                (some (true, PUnit.unit))
              else
                (some (false, PUnit.unit)))))))
    else
      (bif (↑x0.toNat : Int) == (46 : Int) then
        (some (true, PUnit.unit))
      else
        (bif (↑x0.toNat : Int) == (45 : Int) then
          (some (true, PUnit.unit))
        else
          (bif (↑x0.toNat : Int) == (95 : Int) then
            (some (true, PUnit.unit))
          else
            (bif (↑x0.toNat : Int) == (47 : Int) then
              (some (true, PUnit.unit))
            else
              (some (false, PUnit.unit)))))))) := ekeyCh_g heads0 x0
abbrev shdKey : List (Nat × List (Nat × Sh)) := [(2, [(0, (.one .sym)), (2, (.one .sym)), (5, (.one .sym)), (6, (.one .sym))])]
noncomputable def hdKey_0 (n : Nat) (t0 : List UInt8) (t2 : Bool) (t5 : Int) (t6 : Int) : Option (DenL [.bool]) := rH Tryz.prog (envS [(113, keyChS)]) (shOf shdKey) Tryz.f79 [.bool] n 0 [(0, sy (.string (bs t0))), (2, .bool t2), (5, sy (.int .i64 t5)), (6, sy (.int .i64 t6))] []
noncomputable def odKey (x : DenL [.str]) : Option (DenL [.bool]) := fO Tryz.prog (envS [(113, keyChS)]) (shOf shdKey) Tryz.f79 [.str] [.bool] x
theorem edKey_g (N : Nat) (x0 : List UInt8) : fON Tryz.prog (envS [(113, keyChS)]) (shOf shdKey) Tryz.f79 [.str] [.bool] N (x0, ()) =
  (hdKey_0 N (x0) (false) ((↑x0.length : Int)) ((0 : Int))) := by kernel_rfl
theorem edKey (x0 : List UInt8) : odKey (x0, ()) =
  (hdKey_0 heads0 (x0) (false) ((↑x0.length : Int)) ((0 : Int))) := edKey_g heads0 x0
theorem edKey_0 (n : Nat) (t0 : List UInt8) (t2 : Bool) (t5 : Int) (t6 : Int) : hdKey_0 (n + 1) t0 t2 t5 t6 =
  (bif decide (t6 < t5) then
    (bif keyCh (UInt8.ofNat (↑(t0.getD t6.toNat 0).toNat : Int).toNat) then
      (gd [decide (inK IntKind.i64 (t6 + (1 : Int))), decide (inK IntKind.u8 (↑(t0.getD t6.toNat 0).toNat : Int)), decide ((0 : Int) ≤ t6), decide (t6 < (↑t0.length : Int))] (hdKey_0 n (t0) (t2) (t5) (t6 + (1 : Int))))
    else
      (gd [decide (inK IntKind.u8 (↑(t0.getD t6.toNat 0).toNat : Int)), decide ((0 : Int) ≤ t6), decide (t6 < (↑t0.length : Int))] (some (false, PUnit.unit))))
  else
    (bif decide ((↑t0.length : Int) ≥ (1 : Int)) then
      (bif decide ((↑t0.length : Int) ≤ (40 : Int)) then
        (some (true, PUnit.unit))
      else
        (some (false, PUnit.unit)))
    else
      (some (false, PUnit.unit)))) := by kernel_rfl
abbrev shrKey : List (Nat × List (Nat × Sh)) := [(2, [(0, (.one .sym)), (2, (.one .sym)), (3, (.one .sym))])]
noncomputable def hrKey_0 (n : Nat) (t0 : List UInt8) (t2 : Bool) (t3 : Int) : Option (DenL [.bool]) := rH Tryz.prog (envS []) (shOf shrKey) Tryz.f44 [.bool] n 0 [(0, sy (.string (bs t0))), (2, .bool t2), (3, sy (.int .i64 t3))] []
noncomputable def orKey (x : DenL [.str]) : Option (DenL [.bool]) := fO Tryz.prog (envS []) (shOf shrKey) Tryz.f44 [.str] [.bool] x
theorem erKey_g (N : Nat) (x0 : List UInt8) : fON Tryz.prog (envS []) (shOf shrKey) Tryz.f44 [.str] [.bool] N (x0, ()) =
  (hrKey_0 N (x0) (false) ((0 : Int))) := by kernel_rfl
theorem erKey (x0 : List UInt8) : orKey (x0, ()) =
  (hrKey_0 heads0 (x0) (false) ((0 : Int))) := erKey_g heads0 x0
theorem erKey_0 (n : Nat) (t0 : List UInt8) (t2 : Bool) (t3 : Int) : hrKey_0 (n + 1) t0 t2 t3 =
  (bif decide (t3 < (↑t0.length : Int)) then
    (gd [decide ((0 : Int) ≤ t3), decide (t3 < (↑t0.length : Int))] (bif decide ((↑(t0.getD t3.toNat 0).toNat : Int) < (97 : Int)) then
      (bif decide ((↑(t0.getD t3.toNat 0).toNat : Int) < (48 : Int)) then
        (bif (↑(t0.getD t3.toNat 0).toNat : Int) != (46 : Int) then
          (bif (↑(t0.getD t3.toNat 0).toNat : Int) != (45 : Int) then
            (bif (↑(t0.getD t3.toNat 0).toNat : Int) != (95 : Int) then
              (bif (↑(t0.getD t3.toNat 0).toNat : Int) != (47 : Int) then
                (some (false, PUnit.unit))
              else
                (gd [decide (inK IntKind.i64 (t3 + (1 : Int)))] (hrKey_0 n (t0) (t2) (t3 + (1 : Int)))))
            else
              (gd [decide (inK IntKind.i64 (t3 + (1 : Int)))] (hrKey_0 n (t0) (t2) (t3 + (1 : Int)))))
          else
            (gd [decide (inK IntKind.i64 (t3 + (1 : Int)))] (hrKey_0 n (t0) (t2) (t3 + (1 : Int)))))
        else
          (gd [decide (inK IntKind.i64 (t3 + (1 : Int)))] (hrKey_0 n (t0) (t2) (t3 + (1 : Int)))))
      else
        (bif decide ((↑(t0.getD t3.toNat 0).toNat : Int) > (57 : Int)) then
          (bif (↑(t0.getD t3.toNat 0).toNat : Int) != (46 : Int) then
            (bif (↑(t0.getD t3.toNat 0).toNat : Int) != (45 : Int) then
              (bif (↑(t0.getD t3.toNat 0).toNat : Int) != (95 : Int) then
                (bif (↑(t0.getD t3.toNat 0).toNat : Int) != (47 : Int) then
                  (some (false, PUnit.unit))
                else
                  (gd [decide (inK IntKind.i64 (t3 + (1 : Int)))] (hrKey_0 n (t0) (t2) (t3 + (1 : Int)))))
              else
                (gd [decide (inK IntKind.i64 (t3 + (1 : Int)))] (hrKey_0 n (t0) (t2) (t3 + (1 : Int)))))
            else
              (gd [decide (inK IntKind.i64 (t3 + (1 : Int)))] (hrKey_0 n (t0) (t2) (t3 + (1 : Int)))))
          else
            (gd [decide (inK IntKind.i64 (t3 + (1 : Int)))] (hrKey_0 n (t0) (t2) (t3 + (1 : Int)))))
        else
          (gd [decide (inK IntKind.i64 (t3 + (1 : Int)))] (hrKey_0 n (t0) (t2) (t3 + (1 : Int))))))
    else
      (bif decide ((↑(t0.getD t3.toNat 0).toNat : Int) > (122 : Int)) then
        (bif decide ((↑(t0.getD t3.toNat 0).toNat : Int) < (48 : Int)) then
          (bif (↑(t0.getD t3.toNat 0).toNat : Int) != (46 : Int) then
            (bif (↑(t0.getD t3.toNat 0).toNat : Int) != (45 : Int) then
              (bif (↑(t0.getD t3.toNat 0).toNat : Int) != (95 : Int) then
                (bif (↑(t0.getD t3.toNat 0).toNat : Int) != (47 : Int) then
                  (some (false, PUnit.unit))
                else
                  (gd [decide (inK IntKind.i64 (t3 + (1 : Int)))] (hrKey_0 n (t0) (t2) (t3 + (1 : Int)))))
              else
                (gd [decide (inK IntKind.i64 (t3 + (1 : Int)))] (hrKey_0 n (t0) (t2) (t3 + (1 : Int)))))
            else
              (gd [decide (inK IntKind.i64 (t3 + (1 : Int)))] (hrKey_0 n (t0) (t2) (t3 + (1 : Int)))))
          else
            (gd [decide (inK IntKind.i64 (t3 + (1 : Int)))] (hrKey_0 n (t0) (t2) (t3 + (1 : Int)))))
        else
          (bif decide ((↑(t0.getD t3.toNat 0).toNat : Int) > (57 : Int)) then
            (bif (↑(t0.getD t3.toNat 0).toNat : Int) != (46 : Int) then
              (bif (↑(t0.getD t3.toNat 0).toNat : Int) != (45 : Int) then
                (bif (↑(t0.getD t3.toNat 0).toNat : Int) != (95 : Int) then
                  (bif (↑(t0.getD t3.toNat 0).toNat : Int) != (47 : Int) then
                    (some (false, PUnit.unit))
                  else
                    (gd [decide (inK IntKind.i64 (t3 + (1 : Int)))] (hrKey_0 n (t0) (t2) (t3 + (1 : Int)))))
                else
                  (gd [decide (inK IntKind.i64 (t3 + (1 : Int)))] (hrKey_0 n (t0) (t2) (t3 + (1 : Int)))))
              else
                (gd [decide (inK IntKind.i64 (t3 + (1 : Int)))] (hrKey_0 n (t0) (t2) (t3 + (1 : Int)))))
            else
              (gd [decide (inK IntKind.i64 (t3 + (1 : Int)))] (hrKey_0 n (t0) (t2) (t3 + (1 : Int)))))
          else
            (gd [decide (inK IntKind.i64 (t3 + (1 : Int)))] (hrKey_0 n (t0) (t2) (t3 + (1 : Int))))))
      else
        (gd [decide (inK IntKind.i64 (t3 + (1 : Int)))] (hrKey_0 n (t0) (t2) (t3 + (1 : Int)))))))
  else
    (bif decide ((↑t0.length : Int) ≥ (1 : Int)) then
      (bif decide ((↑t0.length : Int) ≤ (40 : Int)) then
        (some (true, PUnit.unit))
      else
        (some (false, PUnit.unit)))
    else
      (some (false, PUnit.unit)))) := by kernel_rfl
abbrev shanum : List (Nat × List (Nat × Sh)) := []
noncomputable def oanum (x : DenL [.str, .int .i64, .int .i64, .int .i64]) : Option (DenL [.int .i64, .bool]) := fO Tryz.prog (envS [(114, idxFS 115), (116, parseS)]) (shOf shanum) Tryz.f80 [.str, .int .i64, .int .i64, .int .i64] [.int .i64, .bool] x
theorem eanum_g (N : Nat) (x0 : List UInt8) (x1 x2 x3 : Int) : fON Tryz.prog (envS [(114, idxFS 115), (116, parseS)]) (shOf shanum) Tryz.f80 [.str, .int .i64, .int .i64, .int .i64] [.int .i64, .bool] N (x0, x1, x2, x3, ()) =
  (bif decide (idxF x0 ≥ (0 : Int)) then
    (gd [bndS x0 && (decide ((10 : Int) = (10 : Int)) && decide ((64 : Int) = (64 : Int)))] (some ((intN x0).fst, false, PUnit.unit)))
  else
    (gd [bndS x0 && (decide ((10 : Int) = (10 : Int)) && decide ((64 : Int) = (64 : Int)))] (bif (intN x0).snd then
      (bif decide ((↑x0.length : Int) ≤ x1) then
        (bif decide ((intN x0).fst ≥ x2) then
          (bif decide ((intN x0).fst ≤ x3) then
            (some ((intN x0).fst, true, PUnit.unit))
          else
            (some ((intN x0).fst, false, PUnit.unit)))
        else
          (some ((intN x0).fst, false, PUnit.unit)))
      else
        (some ((intN x0).fst, false, PUnit.unit)))
    else
      (some ((intN x0).fst, false, PUnit.unit))))) := by kernel_rfl
theorem eanum (x0 : List UInt8) (x1 x2 x3 : Int) : oanum (x0, x1, x2, x3, ()) =
  (bif decide (idxF x0 ≥ (0 : Int)) then
    (gd [bndS x0 && (decide ((10 : Int) = (10 : Int)) && decide ((64 : Int) = (64 : Int)))] (some ((intN x0).fst, false, PUnit.unit)))
  else
    (gd [bndS x0 && (decide ((10 : Int) = (10 : Int)) && decide ((64 : Int) = (64 : Int)))] (bif (intN x0).snd then
      (bif decide ((↑x0.length : Int) ≤ x1) then
        (bif decide ((intN x0).fst ≥ x2) then
          (bif decide ((intN x0).fst ≤ x3) then
            (some ((intN x0).fst, true, PUnit.unit))
          else
            (some ((intN x0).fst, false, PUnit.unit)))
        else
          (some ((intN x0).fst, false, PUnit.unit)))
      else
        (some ((intN x0).fst, false, PUnit.unit)))
    else
      (some ((intN x0).fst, false, PUnit.unit))))) := eanum_g heads0 x0 x1 x2 x3
abbrev shhp : List (Nat × List (Nat × Sh)) := []
noncomputable def ohp (x : DenL [.str, .str]) : Option (DenL [.bool]) := fO Tryz.prog (envS []) (shOf shhp) Tryz.f75 [.str, .str] [.bool] x
theorem ehp_g (N : Nat) (x0 x1 : List UInt8) : fON Tryz.prog (envS []) (shOf shhp) Tryz.f75 [.str, .str] [.bool] N (x0, x1, ()) =
  (bif decide ((↑x0.length : Int) ≥ (↑x1.length : Int)) then
    (bif List.take (↑x1.length : Int).toNat x0 == x1 then
      (gd [decide ((↑x1.length : Int) ≤ (↑x0.length : Int))] (some (true, PUnit.unit)))
    else
      (gd [decide ((↑x1.length : Int) ≤ (↑x0.length : Int))] (some (false, PUnit.unit))))
  else
    (some (false, PUnit.unit))) := by kernel_rfl
theorem ehp (x0 x1 : List UInt8) : ohp (x0, x1, ()) =
  (bif decide ((↑x0.length : Int) ≥ (↑x1.length : Int)) then
    (bif List.take (↑x1.length : Int).toNat x0 == x1 then
      (gd [decide ((↑x1.length : Int) ≤ (↑x0.length : Int))] (some (true, PUnit.unit)))
    else
      (gd [decide ((↑x1.length : Int) ≤ (↑x0.length : Int))] (some (false, PUnit.unit))))
  else
    (some (false, PUnit.unit))) := ehp_g heads0 x0 x1
abbrev shcp : List (Nat × List (Nat × Sh)) := []
noncomputable def ocp (x : DenL [.str, .str]) : Option (DenL [.str, .bool]) := fO Tryz.prog (envS [(75, hasPreS)]) (shOf shcp) Tryz.f119 [.str, .str] [.str, .bool] x
theorem ecp_g (N : Nat) (x0 x1 : List UInt8) : fON Tryz.prog (envS [(75, hasPreS)]) (shOf shcp) Tryz.f119 [.str, .str] [.str, .bool] N (x0, x1, ()) =
  (bif hasPre x0 x1 then
    (gd [decide ((↑x1.length : Int) ≤ (↑x0.length : Int))] (some (List.drop (↑x1.length : Int).toNat x0, true, PUnit.unit)))
  else
    (some (x0, false, PUnit.unit))) := by kernel_rfl
theorem ecp (x0 x1 : List UInt8) : ocp (x0, x1, ()) =
  (bif hasPre x0 x1 then
    (gd [decide ((↑x1.length : Int) ≤ (↑x0.length : Int))] (some (List.drop (↑x1.length : Int).toNat x0, true, PUnit.unit)))
  else
    (some (x0, false, PUnit.unit))) := ecp_g heads0 x0 x1
abbrev shrdigits : List (Nat × List (Nat × Sh)) := [(2, [(0, (.one .sym)), (2, (.one .sym)), (3, (.one .sym))])]
noncomputable def hrdigits_0 (n : Nat) (t0 : Int) (t2 : List UInt8) (t3 : List UInt8) : Option (DenL [.str]) := rH Tryz.prog (envS []) (shOf shrdigits) Tryz.f46 [.str] n 0 [(0, sy (.int .u64 t0)), (2, sy (.string (bs t2))), (3, sy (.string (bs t3)))] []
noncomputable def ordigits (x : DenL [.int .u64]) : Option (DenL [.str]) := fO Tryz.prog (envS []) (shOf shrdigits) Tryz.f46 [.int .u64] [.str] x
theorem erdigits_g (N : Nat) (x0 : Int) : fON Tryz.prog (envS []) (shOf shrdigits) Tryz.f46 [.int .u64] [.str] N (x0, ()) =
  (hrdigits_0 N (x0) ([]) ([])) := by kernel_rfl
theorem erdigits (x0 : Int) : ordigits (x0, ()) =
  (hrdigits_0 heads0 (x0) ([]) ([])) := erdigits_g heads0 x0
theorem erdigits_0 (n : Nat) (t0 : Int) (t2 : List UInt8) (t3 : List UInt8) : hrdigits_0 (n + 1) t0 t2 t3 =
  (gd [decide ([UInt8.ofNat (IntKind.u8.wrap (IntKind.u64.wrap ((48 : Int) + t0.tmod ((10 : Int))))).toNat].length + t3.length ≤ 1099511627776)] (bif IntKind.u64.wrap (t0.tdiv ((10 : Int))) == (0 : Int) then
    (some ([UInt8.ofNat (IntKind.u8.wrap (IntKind.u64.wrap ((48 : Int) + t0.tmod ((10 : Int))))).toNat] ++ t3, PUnit.unit))
  else
    (hrdigits_0 n (IntKind.u64.wrap (t0.tdiv ((10 : Int)))) (t2) ([UInt8.ofNat (IntKind.u8.wrap (IntKind.u64.wrap ((48 : Int) + t0.tmod ((10 : Int))))).toNat] ++ t3)))) := by kernel_rfl
abbrev shrDigits : List (Nat × List (Nat × Sh)) := []
noncomputable def orDigits (x : DenL [.int .i64]) : Option (DenL [.str]) := fO Tryz.prog (envS [(46, digsS)]) (shOf shrDigits) Tryz.f25 [.int .i64] [.str] x
theorem erDigits_g (N : Nat) (x0 : Int) : fON Tryz.prog (envS [(46, digsS)]) (shOf shrDigits) Tryz.f25 [.int .i64] [.str] N (x0, ()) =
  (bif decide (x0 < (0 : Int)) then
    (gd [decide (1 + (digs (IntKind.u64.wrap (IntKind.u64.wrap ((0 : Int) - (x0 + (1 : Int))) + (1 : Int)))).length ≤ 1099511627776), decide ((0 : Int) ≤ IntKind.u64.wrap (IntKind.u64.wrap ((0 : Int) - (x0 + (1 : Int))) + (1 : Int))) && decide (IntKind.u64.wrap (IntKind.u64.wrap ((0 : Int) - (x0 + (1 : Int))) + (1 : Int)) < (18446744073709551616 : Int)), decide (inK IntKind.i64 ((0 : Int) - (x0 + (1 : Int)))), decide (inK IntKind.i64 (x0 + (1 : Int)))] (some ([45] ++ digs (IntKind.u64.wrap (IntKind.u64.wrap ((0 : Int) - (x0 + (1 : Int))) + (1 : Int))), PUnit.unit)))
  else
    (gd [decide ((0 : Int) ≤ IntKind.u64.wrap x0) && decide (IntKind.u64.wrap x0 < (18446744073709551616 : Int))] (some (digs (IntKind.u64.wrap x0), PUnit.unit)))) := by kernel_rfl
theorem erDigits (x0 : Int) : orDigits (x0, ()) =
  (bif decide (x0 < (0 : Int)) then
    (gd [decide (1 + (digs (IntKind.u64.wrap (IntKind.u64.wrap ((0 : Int) - (x0 + (1 : Int))) + (1 : Int)))).length ≤ 1099511627776), decide ((0 : Int) ≤ IntKind.u64.wrap (IntKind.u64.wrap ((0 : Int) - (x0 + (1 : Int))) + (1 : Int))) && decide (IntKind.u64.wrap (IntKind.u64.wrap ((0 : Int) - (x0 + (1 : Int))) + (1 : Int)) < (18446744073709551616 : Int)), decide (inK IntKind.i64 ((0 : Int) - (x0 + (1 : Int)))), decide (inK IntKind.i64 (x0 + (1 : Int)))] (some ([45] ++ digs (IntKind.u64.wrap (IntKind.u64.wrap ((0 : Int) - (x0 + (1 : Int))) + (1 : Int))), PUnit.unit)))
  else
    (gd [decide ((0 : Int) ≤ IntKind.u64.wrap x0) && decide (IntKind.u64.wrap x0 < (18446744073709551616 : Int))] (some (digs (IntKind.u64.wrap x0), PUnit.unit)))) := erDigits_g heads0 x0
end Go.Proofs.YtpdbgpkedehpgaaGreatDoor
