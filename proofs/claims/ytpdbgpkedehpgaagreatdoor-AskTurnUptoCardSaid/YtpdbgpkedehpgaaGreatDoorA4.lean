/-
  Part of the proof: QT QC QD QO. No condition.
-/
import Derived.Test.YtpdbgpkedehpgaaGreatDoorSym
import Derived.Test.YtpdbgpkedehpgaaGreatDoorA1
namespace Go.Proofs.YtpdbgpkedehpgaaGreatDoor
open Go Go.Eng Nice
set_option maxRecDepth 1000000
abbrev shwhole : List (Nat × List (Nat × Sh)) := []
noncomputable def owhole (x : DenL [.f64, .f64, .f64]) : Option (DenL [.bool]) := fO Tryz.prog (envS [(263, archS)]) (shOf shwhole) Tryz.f234 [.f64, .f64, .f64] [.bool] x
theorem ewhole_g (N : Nat) (x0 x1 x2 : Nat) : fON Tryz.prog (envS [(263, archS)]) (shOf shwhole) Tryz.f234 [.f64, .f64, .f64] [.bool] N (x0, x1, x2, ()) =
  (bif fRel BinOp.geq FloatKind.f64 x0 x1 then
    (bif fRel BinOp.leq FloatKind.f64 x0 x2 then
      (bif fRel BinOp.eql FloatKind.f64 x0 (truncW x0) then
        (gd [finW x0] (some (true, ())))
      else
        (gd [finW x0] (some (false, ()))))
    else
      (some (false, ())))
  else
    (some (false, ()))) := by kernel_rfl
theorem owhole_g (x : DenL [.f64, .f64, .f64]) : owhole x = fON Tryz.prog (envS [(263, archS)]) (shOf shwhole) Tryz.f234 [.f64, .f64, .f64] [.bool] heads0 x := rfl

abbrev shgmay : List (Nat × List (Nat × Sh)) := []
noncomputable def ogmay (x : DenL [.cx]) : Option (DenL [.bool]) := fO Tryz.prog (envS [(234, wholeS)]) (shOf shgmay) Tryz.f187 [.cx] [.bool] x
theorem egmay_g (N : Nat) (x0 : Nat × Nat) : fON Tryz.prog (envS [(234, wholeS)]) (shOf shgmay) Tryz.f187 [.cx] [.bool] N (x0, ()) =
  (bif wholeW x0.fst 0 4679237813814689792 then
    (bif wholeW x0.snd 0 4679237813814689792 then
      (gd [finW x0.snd, finW x0.fst] (some (true, ())))
    else
      (gd [finW x0.snd, finW x0.fst] (some (false, ()))))
  else
    (gd [finW x0.fst] (some (false, ())))) := by kernel_rfl
theorem ogmay_g (x : DenL [.cx]) : ogmay x = fON Tryz.prog (envS [(234, wholeS)]) (shOf shgmay) Tryz.f187 [.cx] [.bool] heads0 x := rfl

abbrev shgread : List (Nat × List (Nat × Sh)) := [(5, [(0, (.one .sym)), (2, (.one .any)), (3, (.one .sym)), (4, (.obj [.sym, .sym])), (12, (.one .sym)), (13, (.one .sym))])]
noncomputable def hgread_0 (n : Nat) (t0 : List UInt8) (t3 : Bool) (t4_0 : Int) (t4_1 : Int) (t12 : Int) (t13 : Int) : Option (DenL [.cx, .bool]) := rH Tryz.prog (envS [(187, mayS)]) (shOf shgread) Tryz.f118 [.cx, .bool] n 0 [(0, sy (.string (bs t0))), (2, Value.complex FloatKind.f64 0 0), (3, .bool t3), (4, .pointer (some ⟨9, 0, none⟩)), (12, sy (.int .i64 t12)), (13, sy (.int .i64 t13))] [.row [sy (.int .i64 t4_0), sy (.int .i64 t4_1)] 239 false]
noncomputable def ogread (x : DenL [.str]) : Option (DenL [.cx, .bool]) := fO Tryz.prog (envS [(187, mayS)]) (shOf shgread) Tryz.f118 [.str] [.cx, .bool] x
theorem egread_g (N : Nat) (x0 : List UInt8) : fON Tryz.prog (envS [(187, mayS)]) (shOf shgread) Tryz.f118 [.str] [.cx, .bool] N (x0, ()) =
  (bif (↑x0.length : Int) != (8 : Int) then
    (some ((0, 0), false, ()))
  else
    (hgread_0 N (x0) (false) ((0 : Int)) ((0 : Int)) ((↑x0.length : Int)) ((0 : Int)))) := by kernel_rfl
theorem ogread_g (x : DenL [.str]) : ogread x = fON Tryz.prog (envS [(187, mayS)]) (shOf shgread) Tryz.f118 [.str] [.cx, .bool] heads0 x := rfl

theorem egread_0 (n : Nat) (t0 : List UInt8) (t3 : Bool) (t4_0 : Int) (t4_1 : Int) (t12 : Int) (t13 : Int) : hgread_0 (n + 1) t0 t3 t4_0 t4_1 t12 t13 =
  (bif decide (t13 < t12) then
    (gd [decide (inK .i64 (↑(t0.getD t13.toNat 0).toNat : Int)), decide ((0 : Int) ≤ t13), decide (t13 < (↑t0.length : Int))] (bif decide ((↑(t0.getD t13.toNat 0).toNat : Int) ≥ (48 : Int)) then
      (bif decide ((↑(t0.getD t13.toNat 0).toNat : Int) ≤ (57 : Int)) then
        (gd [decide (inK .i64 ((↑(t0.getD t13.toNat 0).toNat : Int) - (48 : Int)))] (bif t13.tdiv ((4 : Int)) == (0 : Int) then
          (bif t13.tdiv ((4 : Int)) == (0 : Int) then
            (gd [decide (inK .i64 (t13 + (1 : Int))), decide (inK .i64 (t4_0 * (16 : Int) + ((↑(t0.getD t13.toNat 0).toNat : Int) - (48 : Int)))), decide (inK .i64 (t4_0 * (16 : Int))), decide (inK .i64 (t13.tdiv ((4 : Int)))), decide (inK .i64 (t13.tdiv ((4 : Int))))] (hgread_0 n (t0) (t3) (t4_0 * (16 : Int) + ((↑(t0.getD t13.toNat 0).toNat : Int) - (48 : Int))) (t4_1) (t12) (t13 + (1 : Int))))
          else
            (gd [decide (inK .i64 (t13 + (1 : Int))), decide (inK .i64 (t4_0 * (16 : Int) + ((↑(t0.getD t13.toNat 0).toNat : Int) - (48 : Int)))), decide (inK .i64 (t4_0 * (16 : Int))), decide (inK .i64 (t13.tdiv ((4 : Int)))), decide (inK .i64 (t13.tdiv ((4 : Int)))), t13.tdiv ((4 : Int)) == (1 : Int)] (hgread_0 n (t0) (t3) (t4_0) (t4_0 * (16 : Int) + ((↑(t0.getD t13.toNat 0).toNat : Int) - (48 : Int))) (t12) (t13 + (1 : Int)))))
        else
          (gd [t13.tdiv ((4 : Int)) == (1 : Int)] (bif t13.tdiv ((4 : Int)) == (0 : Int) then
            (gd [decide (inK .i64 (t13 + (1 : Int))), decide (inK .i64 (t4_1 * (16 : Int) + ((↑(t0.getD t13.toNat 0).toNat : Int) - (48 : Int)))), decide (inK .i64 (t4_1 * (16 : Int))), decide (inK .i64 (t13.tdiv ((4 : Int)))), decide (inK .i64 (t13.tdiv ((4 : Int))))] (hgread_0 n (t0) (t3) (t4_1 * (16 : Int) + ((↑(t0.getD t13.toNat 0).toNat : Int) - (48 : Int))) (t4_1) (t12) (t13 + (1 : Int))))
          else
            (gd [decide (inK .i64 (t13 + (1 : Int))), decide (inK .i64 (t4_1 * (16 : Int) + ((↑(t0.getD t13.toNat 0).toNat : Int) - (48 : Int)))), decide (inK .i64 (t4_1 * (16 : Int))), decide (inK .i64 (t13.tdiv ((4 : Int)))), decide (inK .i64 (t13.tdiv ((4 : Int)))), t13.tdiv ((4 : Int)) == (1 : Int)] (hgread_0 n (t0) (t3) (t4_0) (t4_1 * (16 : Int) + ((↑(t0.getD t13.toNat 0).toNat : Int) - (48 : Int))) (t12) (t13 + (1 : Int))))))))
      else
        (bif decide ((↑(t0.getD t13.toNat 0).toNat : Int) ≥ (97 : Int)) then
          (bif decide ((↑(t0.getD t13.toNat 0).toNat : Int) ≤ (102 : Int)) then
            (gd [decide (inK .i64 ((↑(t0.getD t13.toNat 0).toNat : Int) - (87 : Int)))] (bif t13.tdiv ((4 : Int)) == (0 : Int) then
              (bif t13.tdiv ((4 : Int)) == (0 : Int) then
                (gd [decide (inK .i64 (t13 + (1 : Int))), decide (inK .i64 (t4_0 * (16 : Int) + ((↑(t0.getD t13.toNat 0).toNat : Int) - (87 : Int)))), decide (inK .i64 (t4_0 * (16 : Int))), decide (inK .i64 (t13.tdiv ((4 : Int)))), decide (inK .i64 (t13.tdiv ((4 : Int))))] (hgread_0 n (t0) (t3) (t4_0 * (16 : Int) + ((↑(t0.getD t13.toNat 0).toNat : Int) - (87 : Int))) (t4_1) (t12) (t13 + (1 : Int))))
              else
                (gd [decide (inK .i64 (t13 + (1 : Int))), decide (inK .i64 (t4_0 * (16 : Int) + ((↑(t0.getD t13.toNat 0).toNat : Int) - (87 : Int)))), decide (inK .i64 (t4_0 * (16 : Int))), decide (inK .i64 (t13.tdiv ((4 : Int)))), decide (inK .i64 (t13.tdiv ((4 : Int)))), t13.tdiv ((4 : Int)) == (1 : Int)] (hgread_0 n (t0) (t3) (t4_0) (t4_0 * (16 : Int) + ((↑(t0.getD t13.toNat 0).toNat : Int) - (87 : Int))) (t12) (t13 + (1 : Int)))))
            else
              (gd [t13.tdiv ((4 : Int)) == (1 : Int)] (bif t13.tdiv ((4 : Int)) == (0 : Int) then
                (gd [decide (inK .i64 (t13 + (1 : Int))), decide (inK .i64 (t4_1 * (16 : Int) + ((↑(t0.getD t13.toNat 0).toNat : Int) - (87 : Int)))), decide (inK .i64 (t4_1 * (16 : Int))), decide (inK .i64 (t13.tdiv ((4 : Int)))), decide (inK .i64 (t13.tdiv ((4 : Int))))] (hgread_0 n (t0) (t3) (t4_1 * (16 : Int) + ((↑(t0.getD t13.toNat 0).toNat : Int) - (87 : Int))) (t4_1) (t12) (t13 + (1 : Int))))
              else
                (gd [decide (inK .i64 (t13 + (1 : Int))), decide (inK .i64 (t4_1 * (16 : Int) + ((↑(t0.getD t13.toNat 0).toNat : Int) - (87 : Int)))), decide (inK .i64 (t4_1 * (16 : Int))), decide (inK .i64 (t13.tdiv ((4 : Int)))), decide (inK .i64 (t13.tdiv ((4 : Int)))), t13.tdiv ((4 : Int)) == (1 : Int)] (hgread_0 n (t0) (t3) (t4_0) (t4_1 * (16 : Int) + ((↑(t0.getD t13.toNat 0).toNat : Int) - (87 : Int))) (t12) (t13 + (1 : Int))))))))
          else
            (some ((0, 0), false, ())))
        else
          (some ((0, 0), false, ()))))
    else
      (bif decide ((↑(t0.getD t13.toNat 0).toNat : Int) ≥ (97 : Int)) then
        (bif decide ((↑(t0.getD t13.toNat 0).toNat : Int) ≤ (102 : Int)) then
          (gd [decide (inK .i64 ((↑(t0.getD t13.toNat 0).toNat : Int) - (87 : Int)))] (bif t13.tdiv ((4 : Int)) == (0 : Int) then
            (bif t13.tdiv ((4 : Int)) == (0 : Int) then
              (gd [decide (inK .i64 (t13 + (1 : Int))), decide (inK .i64 (t4_0 * (16 : Int) + ((↑(t0.getD t13.toNat 0).toNat : Int) - (87 : Int)))), decide (inK .i64 (t4_0 * (16 : Int))), decide (inK .i64 (t13.tdiv ((4 : Int)))), decide (inK .i64 (t13.tdiv ((4 : Int))))] (hgread_0 n (t0) (t3) (t4_0 * (16 : Int) + ((↑(t0.getD t13.toNat 0).toNat : Int) - (87 : Int))) (t4_1) (t12) (t13 + (1 : Int))))
            else
              (gd [decide (inK .i64 (t13 + (1 : Int))), decide (inK .i64 (t4_0 * (16 : Int) + ((↑(t0.getD t13.toNat 0).toNat : Int) - (87 : Int)))), decide (inK .i64 (t4_0 * (16 : Int))), decide (inK .i64 (t13.tdiv ((4 : Int)))), decide (inK .i64 (t13.tdiv ((4 : Int)))), t13.tdiv ((4 : Int)) == (1 : Int)] (hgread_0 n (t0) (t3) (t4_0) (t4_0 * (16 : Int) + ((↑(t0.getD t13.toNat 0).toNat : Int) - (87 : Int))) (t12) (t13 + (1 : Int)))))
          else
            (gd [t13.tdiv ((4 : Int)) == (1 : Int)] (bif t13.tdiv ((4 : Int)) == (0 : Int) then
              (gd [decide (inK .i64 (t13 + (1 : Int))), decide (inK .i64 (t4_1 * (16 : Int) + ((↑(t0.getD t13.toNat 0).toNat : Int) - (87 : Int)))), decide (inK .i64 (t4_1 * (16 : Int))), decide (inK .i64 (t13.tdiv ((4 : Int)))), decide (inK .i64 (t13.tdiv ((4 : Int))))] (hgread_0 n (t0) (t3) (t4_1 * (16 : Int) + ((↑(t0.getD t13.toNat 0).toNat : Int) - (87 : Int))) (t4_1) (t12) (t13 + (1 : Int))))
            else
              (gd [decide (inK .i64 (t13 + (1 : Int))), decide (inK .i64 (t4_1 * (16 : Int) + ((↑(t0.getD t13.toNat 0).toNat : Int) - (87 : Int)))), decide (inK .i64 (t4_1 * (16 : Int))), decide (inK .i64 (t13.tdiv ((4 : Int)))), decide (inK .i64 (t13.tdiv ((4 : Int)))), t13.tdiv ((4 : Int)) == (1 : Int)] (hgread_0 n (t0) (t3) (t4_0) (t4_1 * (16 : Int) + ((↑(t0.getD t13.toNat 0).toNat : Int) - (87 : Int))) (t12) (t13 + (1 : Int))))))))
        else
          (some ((0, 0), false, ())))
      else
        (some ((0, 0), false, ())))))
  else
    (bif mayW (FloatKind.f64.nearest t4_0) (FloatKind.f64.nearest t4_1) then
      (gd [finW (FloatKind.f64.nearest t4_0) && finW (FloatKind.f64.nearest t4_1)] (some ((FloatKind.f64.nearest t4_0, FloatKind.f64.nearest t4_1), true, ())))
    else
      (gd [finW (FloatKind.f64.nearest t4_0) && finW (FloatKind.f64.nearest t4_1)] (some ((0, 0), false, ()))))) := by kernel_rfl
abbrev shrread : List (Nat × List (Nat × Sh)) := [(5, [(0, (.one .sym)), (2, (.obj [.sym, .sym])), (3, (.one .sym)), (4, (.obj [.sym, .sym])), (5, (.one .sym))])]
noncomputable def hrread_0 (n : Nat) (t0 : List UInt8) (t2_0 : Int) (t2_1 : Int) (t3 : Bool) (t4_0 : Int) (t4_1 : Int) (t5 : Int) : Option (DenL [ZT, .bool]) := rH Tryz.prog (envS []) (shOf shrread) Tryz.f62 [ZT, .bool] n 0 [(0, sy (.string (bs t0))), (2, .pointer (some ⟨9, 0, none⟩)), (3, .bool t3), (4, .pointer (some ⟨10, 0, none⟩)), (5, sy (.int .i64 t5))] [.row [sy (.int .i64 t2_0), sy (.int .i64 t2_1)] 93 false, .row [sy (.int .i64 t4_0), sy (.int .i64 t4_1)] 123 false]
noncomputable def orread (x : DenL [.str]) : Option (DenL [ZT, .bool]) := fO Tryz.prog (envS []) (shOf shrread) Tryz.f62 [.str] [ZT, .bool] x
theorem erread_g (N : Nat) (x0 : List UInt8) : fON Tryz.prog (envS []) (shOf shrread) Tryz.f62 [.str] [ZT, .bool] N (x0, ()) =
  (bif (↑x0.length : Int) != (8 : Int) then
    (some (((0 : Int), (0 : Int), ()), false, ()))
  else
    (hrread_0 N (x0) ((0 : Int)) ((0 : Int)) (false) ((0 : Int)) ((0 : Int)) ((0 : Int)))) := by kernel_rfl
theorem orread_g (x : DenL [.str]) : orread x = fON Tryz.prog (envS []) (shOf shrread) Tryz.f62 [.str] [ZT, .bool] heads0 x := rfl

theorem erread_0 (n : Nat) (t0 : List UInt8) (t2_0 : Int) (t2_1 : Int) (t3 : Bool) (t4_0 : Int) (t4_1 : Int) (t5 : Int) : hrread_0 (n + 1) t0 t2_0 t2_1 t3 t4_0 t4_1 t5 =
  (bif decide (t5 < (8 : Int)) then
    (gd [decide (inK .i64 (↑(t0.getD t5.toNat 0).toNat : Int)), decide ((0 : Int) ≤ t5), decide (t5 < (↑t0.length : Int))] (bif decide ((↑(t0.getD t5.toNat 0).toNat : Int) ≥ (48 : Int)) then
      (bif decide ((↑(t0.getD t5.toNat 0).toNat : Int) ≤ (57 : Int)) then
        (gd [decide (inK .i64 ((↑(t0.getD t5.toNat 0).toNat : Int) - (48 : Int)))] (bif t5.tdiv ((4 : Int)) == (0 : Int) then
          (bif t5.tdiv ((4 : Int)) == (0 : Int) then
            (gd [decide (inK .i64 (t5 + (1 : Int))), decide (inK .i64 (t4_0 * (16 : Int) + ((↑(t0.getD t5.toNat 0).toNat : Int) - (48 : Int)))), decide (inK .i64 (t4_0 * (16 : Int))), decide (inK .i64 (t5.tdiv ((4 : Int)))), decide (inK .i64 (t5.tdiv ((4 : Int))))] (hrread_0 n (t0) (t2_0) (t2_1) (t3) (t4_0 * (16 : Int) + ((↑(t0.getD t5.toNat 0).toNat : Int) - (48 : Int))) (t4_1) (t5 + (1 : Int))))
          else
            (gd [decide (inK .i64 (t5 + (1 : Int))), decide (inK .i64 (t4_0 * (16 : Int) + ((↑(t0.getD t5.toNat 0).toNat : Int) - (48 : Int)))), decide (inK .i64 (t4_0 * (16 : Int))), decide (inK .i64 (t5.tdiv ((4 : Int)))), decide (inK .i64 (t5.tdiv ((4 : Int)))), t5.tdiv ((4 : Int)) == (1 : Int)] (hrread_0 n (t0) (t2_0) (t2_1) (t3) (t4_0) (t4_0 * (16 : Int) + ((↑(t0.getD t5.toNat 0).toNat : Int) - (48 : Int))) (t5 + (1 : Int)))))
        else
          (gd [t5.tdiv ((4 : Int)) == (1 : Int)] (bif t5.tdiv ((4 : Int)) == (0 : Int) then
            (gd [decide (inK .i64 (t5 + (1 : Int))), decide (inK .i64 (t4_1 * (16 : Int) + ((↑(t0.getD t5.toNat 0).toNat : Int) - (48 : Int)))), decide (inK .i64 (t4_1 * (16 : Int))), decide (inK .i64 (t5.tdiv ((4 : Int)))), decide (inK .i64 (t5.tdiv ((4 : Int))))] (hrread_0 n (t0) (t2_0) (t2_1) (t3) (t4_1 * (16 : Int) + ((↑(t0.getD t5.toNat 0).toNat : Int) - (48 : Int))) (t4_1) (t5 + (1 : Int))))
          else
            (gd [decide (inK .i64 (t5 + (1 : Int))), decide (inK .i64 (t4_1 * (16 : Int) + ((↑(t0.getD t5.toNat 0).toNat : Int) - (48 : Int)))), decide (inK .i64 (t4_1 * (16 : Int))), decide (inK .i64 (t5.tdiv ((4 : Int)))), decide (inK .i64 (t5.tdiv ((4 : Int)))), t5.tdiv ((4 : Int)) == (1 : Int)] (hrread_0 n (t0) (t2_0) (t2_1) (t3) (t4_0) (t4_1 * (16 : Int) + ((↑(t0.getD t5.toNat 0).toNat : Int) - (48 : Int))) (t5 + (1 : Int))))))))
      else
        (bif decide ((↑(t0.getD t5.toNat 0).toNat : Int) ≥ (97 : Int)) then
          (bif decide ((↑(t0.getD t5.toNat 0).toNat : Int) ≤ (102 : Int)) then
            (gd [decide (inK .i64 ((↑(t0.getD t5.toNat 0).toNat : Int) - (87 : Int)))] (bif t5.tdiv ((4 : Int)) == (0 : Int) then
              (bif t5.tdiv ((4 : Int)) == (0 : Int) then
                (gd [decide (inK .i64 (t5 + (1 : Int))), decide (inK .i64 (t4_0 * (16 : Int) + ((↑(t0.getD t5.toNat 0).toNat : Int) - (87 : Int)))), decide (inK .i64 (t4_0 * (16 : Int))), decide (inK .i64 (t5.tdiv ((4 : Int)))), decide (inK .i64 (t5.tdiv ((4 : Int))))] (hrread_0 n (t0) (t2_0) (t2_1) (t3) (t4_0 * (16 : Int) + ((↑(t0.getD t5.toNat 0).toNat : Int) - (87 : Int))) (t4_1) (t5 + (1 : Int))))
              else
                (gd [decide (inK .i64 (t5 + (1 : Int))), decide (inK .i64 (t4_0 * (16 : Int) + ((↑(t0.getD t5.toNat 0).toNat : Int) - (87 : Int)))), decide (inK .i64 (t4_0 * (16 : Int))), decide (inK .i64 (t5.tdiv ((4 : Int)))), decide (inK .i64 (t5.tdiv ((4 : Int)))), t5.tdiv ((4 : Int)) == (1 : Int)] (hrread_0 n (t0) (t2_0) (t2_1) (t3) (t4_0) (t4_0 * (16 : Int) + ((↑(t0.getD t5.toNat 0).toNat : Int) - (87 : Int))) (t5 + (1 : Int)))))
            else
              (gd [t5.tdiv ((4 : Int)) == (1 : Int)] (bif t5.tdiv ((4 : Int)) == (0 : Int) then
                (gd [decide (inK .i64 (t5 + (1 : Int))), decide (inK .i64 (t4_1 * (16 : Int) + ((↑(t0.getD t5.toNat 0).toNat : Int) - (87 : Int)))), decide (inK .i64 (t4_1 * (16 : Int))), decide (inK .i64 (t5.tdiv ((4 : Int)))), decide (inK .i64 (t5.tdiv ((4 : Int))))] (hrread_0 n (t0) (t2_0) (t2_1) (t3) (t4_1 * (16 : Int) + ((↑(t0.getD t5.toNat 0).toNat : Int) - (87 : Int))) (t4_1) (t5 + (1 : Int))))
              else
                (gd [decide (inK .i64 (t5 + (1 : Int))), decide (inK .i64 (t4_1 * (16 : Int) + ((↑(t0.getD t5.toNat 0).toNat : Int) - (87 : Int)))), decide (inK .i64 (t4_1 * (16 : Int))), decide (inK .i64 (t5.tdiv ((4 : Int)))), decide (inK .i64 (t5.tdiv ((4 : Int)))), t5.tdiv ((4 : Int)) == (1 : Int)] (hrread_0 n (t0) (t2_0) (t2_1) (t3) (t4_0) (t4_1 * (16 : Int) + ((↑(t0.getD t5.toNat 0).toNat : Int) - (87 : Int))) (t5 + (1 : Int))))))))
          else
            (some (((0 : Int), (0 : Int), ()), false, ())))
        else
          (some (((0 : Int), (0 : Int), ()), false, ()))))
    else
      (bif decide ((↑(t0.getD t5.toNat 0).toNat : Int) ≥ (97 : Int)) then
        (bif decide ((↑(t0.getD t5.toNat 0).toNat : Int) ≤ (102 : Int)) then
          (gd [decide (inK .i64 ((↑(t0.getD t5.toNat 0).toNat : Int) - (87 : Int)))] (bif t5.tdiv ((4 : Int)) == (0 : Int) then
            (bif t5.tdiv ((4 : Int)) == (0 : Int) then
              (gd [decide (inK .i64 (t5 + (1 : Int))), decide (inK .i64 (t4_0 * (16 : Int) + ((↑(t0.getD t5.toNat 0).toNat : Int) - (87 : Int)))), decide (inK .i64 (t4_0 * (16 : Int))), decide (inK .i64 (t5.tdiv ((4 : Int)))), decide (inK .i64 (t5.tdiv ((4 : Int))))] (hrread_0 n (t0) (t2_0) (t2_1) (t3) (t4_0 * (16 : Int) + ((↑(t0.getD t5.toNat 0).toNat : Int) - (87 : Int))) (t4_1) (t5 + (1 : Int))))
            else
              (gd [decide (inK .i64 (t5 + (1 : Int))), decide (inK .i64 (t4_0 * (16 : Int) + ((↑(t0.getD t5.toNat 0).toNat : Int) - (87 : Int)))), decide (inK .i64 (t4_0 * (16 : Int))), decide (inK .i64 (t5.tdiv ((4 : Int)))), decide (inK .i64 (t5.tdiv ((4 : Int)))), t5.tdiv ((4 : Int)) == (1 : Int)] (hrread_0 n (t0) (t2_0) (t2_1) (t3) (t4_0) (t4_0 * (16 : Int) + ((↑(t0.getD t5.toNat 0).toNat : Int) - (87 : Int))) (t5 + (1 : Int)))))
          else
            (gd [t5.tdiv ((4 : Int)) == (1 : Int)] (bif t5.tdiv ((4 : Int)) == (0 : Int) then
              (gd [decide (inK .i64 (t5 + (1 : Int))), decide (inK .i64 (t4_1 * (16 : Int) + ((↑(t0.getD t5.toNat 0).toNat : Int) - (87 : Int)))), decide (inK .i64 (t4_1 * (16 : Int))), decide (inK .i64 (t5.tdiv ((4 : Int)))), decide (inK .i64 (t5.tdiv ((4 : Int))))] (hrread_0 n (t0) (t2_0) (t2_1) (t3) (t4_1 * (16 : Int) + ((↑(t0.getD t5.toNat 0).toNat : Int) - (87 : Int))) (t4_1) (t5 + (1 : Int))))
            else
              (gd [decide (inK .i64 (t5 + (1 : Int))), decide (inK .i64 (t4_1 * (16 : Int) + ((↑(t0.getD t5.toNat 0).toNat : Int) - (87 : Int)))), decide (inK .i64 (t4_1 * (16 : Int))), decide (inK .i64 (t5.tdiv ((4 : Int)))), decide (inK .i64 (t5.tdiv ((4 : Int)))), t5.tdiv ((4 : Int)) == (1 : Int)] (hrread_0 n (t0) (t2_0) (t2_1) (t3) (t4_0) (t4_1 * (16 : Int) + ((↑(t0.getD t5.toNat 0).toNat : Int) - (87 : Int))) (t5 + (1 : Int))))))))
        else
          (some (((0 : Int), (0 : Int), ()), false, ())))
      else
        (some (((0 : Int), (0 : Int), ()), false, ())))))
  else
    (bif decide (t4_0 ≥ (65521 : Int)) then
      (some (((0 : Int), (0 : Int), ()), false, ()))
    else
      (bif decide (t4_1 ≥ (65521 : Int)) then
        (some (((0 : Int), (0 : Int), ()), false, ()))
      else
        (some ((t4_0, t4_1, ()), true, ()))))) := by kernel_rfl

end Go.Proofs.YtpdbgpkedehpgaaGreatDoor
namespace Go.Proofs.YtpdbgpkedehpgaaGreatDoor
open Go Go.Eng Nice
set_option maxRecDepth 1000000
abbrev shaconds : List (Nat × List (Nat × Sh)) := []
noncomputable def oaconds (x : DenL [ReqT]) : Option (DenL [.int .i64, .str, .bool]) := fO Tryz.prog (envS [(29, valueS), (119, cutPreS), (186, cutSufT), (118, gReadS)]) (shOf shaconds) Tryz.f81 [ReqT] [.int .i64, .str, .bool] x
theorem eaconds_g (N : Nat) (x0 x1 x2 : List UInt8) (x3 : List (List UInt8 × List UInt8 × Unit)) (x4 : List UInt8) : fON Tryz.prog (envS [(29, valueS), (119, cutPreS), (186, cutSufT), (118, gReadS)]) (shOf shaconds) Tryz.f81 [ReqT] [.int .i64, .str, .bool] N ((x0, x1, x2, x3, x4, ()), ()) =
 (bif (valueN x3 inmW).snd then
  (gd [valueP x3 inmW] (bif (valueN x3 imW).snd then
   (gd [valueP x3 imW] (some ((0 : Int), [], false, ())))
  else
   (gd [valueP x3 imW] (bif (valueN x3 inmW).fst == [42] then
    (some ((1 : Int), [], true, ()))
   else
    (some ((1 : Int), [], false, ()))))))
 else
  (gd [valueP x3 inmW] (bif (valueN x3 imW).snd then
   (gd [bndS (cutPre (valueN x3 imW).fst [34]).fst, valueP x3 imW] (bif (gRead (cutSuf (cutPre (valueN x3 imW).fst [34]).fst [34]).fst).snd then
    (bif (cutPre (valueN x3 imW).fst [34]).snd then
     (bif (cutPre (valueN x3 imW).fst [34]).snd then
      (bif (cutSuf (cutPre (valueN x3 imW).fst [34]).fst [34]).snd then
       (bif (cutSuf (cutPre (valueN x3 imW).fst [34]).fst [34]).snd then
        (some ((2 : Int), (cutSuf (cutPre (valueN x3 imW).fst [34]).fst [34]).fst, true, ()))
       else
        (some ((2 : Int), (cutSuf (cutPre (valueN x3 imW).fst [34]).fst [34]).fst, false, ())))
      else
       (bif (cutSuf (cutPre (valueN x3 imW).fst [34]).fst [34]).snd then
        (none)
       else
        (some ((2 : Int), (cutSuf (cutPre (valueN x3 imW).fst [34]).fst [34]).fst, false, ()))))
     else
      (some ((2 : Int), (cutSuf (cutPre (valueN x3 imW).fst [34]).fst [34]).fst, false, ())))
    else
     (bif (cutPre (valueN x3 imW).fst [34]).snd then
      (none)
     else
      (some ((2 : Int), (cutSuf (cutPre (valueN x3 imW).fst [34]).fst [34]).fst, false, ()))))
   else
    (bif (cutPre (valueN x3 imW).fst [34]).snd then
     (bif (cutPre (valueN x3 imW).fst [34]).snd then
      (bif (cutSuf (cutPre (valueN x3 imW).fst [34]).fst [34]).snd then
       (bif (cutSuf (cutPre (valueN x3 imW).fst [34]).fst [34]).snd then
        (some ((2 : Int), (cutSuf (cutPre (valueN x3 imW).fst [34]).fst [34]).fst, false, ()))
       else
        (some ((2 : Int), (cutSuf (cutPre (valueN x3 imW).fst [34]).fst [34]).fst, false, ())))
      else
       (bif (cutSuf (cutPre (valueN x3 imW).fst [34]).fst [34]).snd then
        (none)
       else
        (some ((2 : Int), (cutSuf (cutPre (valueN x3 imW).fst [34]).fst [34]).fst, false, ()))))
     else
      (some ((2 : Int), (cutSuf (cutPre (valueN x3 imW).fst [34]).fst [34]).fst, false, ())))
    else
     (bif (cutPre (valueN x3 imW).fst [34]).snd then
      (none)
     else
      (some ((2 : Int), (cutSuf (cutPre (valueN x3 imW).fst [34]).fst [34]).fst, false, ()))))))
  else
   (gd [valueP x3 imW] (some ((0 : Int), [], true, ())))))) := by kernel_rfl
theorem oaconds_g (x : DenL [ReqT]) : oaconds x = fON Tryz.prog (envS [(29, valueS), (119, cutPreS), (186, cutSufT), (118, gReadS)]) (shOf shaconds) Tryz.f81 [ReqT] [.int .i64, .str, .bool] heads0 x := rfl
abbrev shrconds : List (Nat × List (Nat × Sh)) := []
noncomputable def orconds (x : DenL [ReqT, AskT]) : Option (DenL [AskT, .int .i64]) := fO Tryz.prog (envS [(30, valueS), (62, rReadS)]) (shOf shrconds) Tryz.f56 [ReqT, AskT] [AskT, .int .i64] x
theorem erconds_g (N : Nat) (x0 x1 x2 : List UInt8) (x3 : List (List UInt8 × List UInt8 × Unit)) (x4 : List UInt8) (x5 : Ty.Den AskT) : fON Tryz.prog (envS [(30, valueS), (62, rReadS)]) (shOf shrconds) Tryz.f56 [ReqT, AskT] [AskT, .int .i64] N ((x0, x1, x2, x3, x4, ()), x5, ()) =
 (bif (valueN x3 inmW).snd then
  (gd [valueP x3 inmW] (bif (valueN x3 imW).snd then
   (gd [valueP x3 imW] (some (zAsk, (400 : Int), ())))
  else
   (gd [valueP x3 imW] (bif !(valueN x3 inmW).fst == [42] then
    (some (zAsk, (400 : Int), ()))
   else
    (some ((x5.fst, x5.snd.fst, x5.snd.snd.fst, x5.snd.snd.snd.fst, (1 : Int), x5.snd.snd.snd.snd.snd), (0 : Int), ()))))))
 else
  (gd [valueP x3 inmW] (bif (valueN x3 imW).snd then
   (gd [valueP x3 imW] (bif (↑(valueN x3 imW).fst.length : Int) != (10 : Int) then
    (some (zAsk, (400 : Int), ()))
   else
    (bif (↑((valueN x3 imW).fst.getD 0 0).toNat : Int) != (34 : Int) then
     (gd [decide ((0 : Int) < (↑(valueN x3 imW).fst.length : Int))] (some (zAsk, (400 : Int), ())))
    else
     (bif (↑((valueN x3 imW).fst.getD ((↑(valueN x3 imW).fst.length : Int) - (1 : Int)).toNat 0).toNat : Int) != (34 : Int) then
      (gd [decide ((0 : Int) ≤ (↑(valueN x3 imW).fst.length : Int) - (1 : Int)), decide ((↑(valueN x3 imW).fst.length : Int) - (1 : Int) < (↑(valueN x3 imW).fst.length : Int)), decide (inK .i64 ((↑(valueN x3 imW).fst.length : Int) - (1 : Int))), decide ((0 : Int) < (↑(valueN x3 imW).fst.length : Int))] (some (zAsk, (400 : Int), ())))
     else
      (gd [decide ((0 : Int) ≤ (↑(valueN x3 imW).fst.length : Int) - (1 : Int)), decide ((↑(valueN x3 imW).fst.length : Int) - (1 : Int) < (↑(valueN x3 imW).fst.length : Int)), decide (inK .i64 ((↑(valueN x3 imW).fst.length : Int) - (1 : Int))), decide ((0 : Int) < (↑(valueN x3 imW).fst.length : Int))] (bif (rRead (List.drop 1 (List.take ((↑(valueN x3 imW).fst.length : Int) - (1 : Int)).toNat (valueN x3 imW).fst))).snd then
       (gd [decide ((1 : Int) ≤ (↑(valueN x3 imW).fst.length : Int) - (1 : Int)), decide ((↑(valueN x3 imW).fst.length : Int) - (1 : Int) ≤ (↑(valueN x3 imW).fst.length : Int)), decide (inK .i64 ((↑(valueN x3 imW).fst.length : Int) - (1 : Int))), decide ((1 : Int) ≤ (↑(valueN x3 imW).fst.length : Int) - (1 : Int)), decide ((↑(valueN x3 imW).fst.length : Int) - (1 : Int) ≤ (↑(valueN x3 imW).fst.length : Int)), decide (inK .i64 ((↑(valueN x3 imW).fst.length : Int) - (1 : Int)))] (some ((x5.fst, x5.snd.fst, x5.snd.snd.fst, x5.snd.snd.snd.fst, (2 : Int), List.drop 1 (List.take ((↑(valueN x3 imW).fst.length : Int) - (1 : Int)).toNat (valueN x3 imW).fst), x5.snd.snd.snd.snd.snd.snd), (0 : Int), ())))
      else
       (gd [decide ((1 : Int) ≤ (↑(valueN x3 imW).fst.length : Int) - (1 : Int)), decide ((↑(valueN x3 imW).fst.length : Int) - (1 : Int) ≤ (↑(valueN x3 imW).fst.length : Int)), decide (inK .i64 ((↑(valueN x3 imW).fst.length : Int) - (1 : Int)))] (some (zAsk, (400 : Int), ())))))))))
  else
   (gd [valueP x3 imW] (some (x5, (0 : Int), ())))))) := by kernel_rfl
theorem orconds_g (x : DenL [ReqT, AskT]) : orconds x = fON Tryz.prog (envS [(30, valueS), (62, rReadS)]) (shOf shrconds) Tryz.f56 [ReqT, AskT] [AskT, .int .i64] heads0 x := rfl
abbrev shakeyed : List (Nat × List (Nat × Sh)) := []
noncomputable def oakeyed (x : DenL [AskT, ReqT]) : Option (DenL [AskT, .bool]) := fO Tryz.prog (envS [(79, isKeyS), (80, numS), (81, condsS), (119, cutPreS)]) (shOf shakeyed) Tryz.f54 [AskT, ReqT] [AskT, .bool] x
theorem eakeyed_g (N : Nat) (x0 : Ty.Den AskT) (x1 x2 x3 : List UInt8) (x4 : List (List UInt8 × List UInt8 × Unit)) (x5 : List UInt8) : fON Tryz.prog (envS [(79, isKeyS), (80, numS), (81, condsS), (119, cutPreS)]) (shOf shakeyed) Tryz.f54 [AskT, ReqT] [AskT, .bool] N (x0, (x1, x2, x3, x4, x5, ()), ()) =
 (bif isKey x0.snd.fst then
  (gd [bndS x0.snd.fst] (bif x1 == putW then
   (bif (condsN x4).snd.snd then
    (gd [condsP x4] (bif x3 == [] then
     (some (((2 : Int), x0.snd.fst, x0.snd.snd.fst, x5, (condsN x4).fst, (condsN x4).snd.fst, x0.snd.snd.snd.snd.snd.snd), true, ()))
    else
     (some (((2 : Int), x0.snd.fst, x0.snd.snd.fst, x5, (condsN x4).fst, (condsN x4).snd.fst, x0.snd.snd.snd.snd.snd.snd), false, ()))))
   else
    (gd [condsP x4] (some (((2 : Int), x0.snd.fst, x0.snd.snd.fst, x5, (condsN x4).fst, (condsN x4).snd.fst, x0.snd.snd.snd.snd.snd.snd), false, ()))))
  else
   (bif x1 == delW then
    (bif x3 == [] then
     (some (((3 : Int), x0.snd), true, ()))
    else
     (bif (numN (cutPre x3 vPre).fst (↑(cutPre x3 vPre).fst.length : Int) ((1 : Int)) ((1099511627776 : Int))).snd then
      (gd [bndS (cutPre x3 vPre).fst] (bif (cutPre x3 vPre).snd then
       (bif (cutPre x3 vPre).snd then
        (bif (↑((cutPre x3 vPre).fst.getD 0 0).toNat : Int) != (48 : Int) then
         (gd [decide ((0 : Int) < (↑(cutPre x3 vPre).fst.length : Int))] (some (((3 : Int), x0.snd.fst, (numN (cutPre x3 vPre).fst (↑(cutPre x3 vPre).fst.length : Int) ((1 : Int)) ((1099511627776 : Int))).fst, x0.snd.snd.snd), true, ())))
        else
         (gd [decide ((0 : Int) < (↑(cutPre x3 vPre).fst.length : Int))] (some (((3 : Int), x0.snd.fst, (numN (cutPre x3 vPre).fst (↑(cutPre x3 vPre).fst.length : Int) ((1 : Int)) ((1099511627776 : Int))).fst, x0.snd.snd.snd), false, ()))))
       else
        (some (((3 : Int), x0.snd.fst, (numN (cutPre x3 vPre).fst (↑(cutPre x3 vPre).fst.length : Int) ((1 : Int)) ((1099511627776 : Int))).fst, x0.snd.snd.snd), false, ())))
      else
       (bif (cutPre x3 vPre).snd then
        (none)
       else
        (some (((3 : Int), x0.snd.fst, (numN (cutPre x3 vPre).fst (↑(cutPre x3 vPre).fst.length : Int) ((1 : Int)) ((1099511627776 : Int))).fst, x0.snd.snd.snd), false, ())))))
     else
      (gd [bndS (cutPre x3 vPre).fst] (bif (cutPre x3 vPre).snd then
       (bif (cutPre x3 vPre).snd then
        (some (((3 : Int), x0.snd.fst, (numN (cutPre x3 vPre).fst (↑(cutPre x3 vPre).fst.length : Int) ((1 : Int)) ((1099511627776 : Int))).fst, x0.snd.snd.snd), false, ()))
       else
        (some (((3 : Int), x0.snd.fst, (numN (cutPre x3 vPre).fst (↑(cutPre x3 vPre).fst.length : Int) ((1 : Int)) ((1099511627776 : Int))).fst, x0.snd.snd.snd), false, ())))
      else
       (bif (cutPre x3 vPre).snd then
        (none)
       else
        (some (((3 : Int), x0.snd.fst, (numN (cutPre x3 vPre).fst (↑(cutPre x3 vPre).fst.length : Int) ((1 : Int)) ((1099511627776 : Int))).fst, x0.snd.snd.snd), false, ())))))))
   else
    (bif x3 == [] then
     (some (((1 : Int), x0.snd), true, ()))
    else
     (bif (numN (cutPre x3 vPre).fst (↑(cutPre x3 vPre).fst.length : Int) ((1 : Int)) ((1099511627776 : Int))).snd then
      (gd [bndS (cutPre x3 vPre).fst] (bif (cutPre x3 vPre).snd then
       (bif (cutPre x3 vPre).snd then
        (bif (↑((cutPre x3 vPre).fst.getD 0 0).toNat : Int) != (48 : Int) then
         (gd [decide ((0 : Int) < (↑(cutPre x3 vPre).fst.length : Int))] (some (((1 : Int), x0.snd.fst, (numN (cutPre x3 vPre).fst (↑(cutPre x3 vPre).fst.length : Int) ((1 : Int)) ((1099511627776 : Int))).fst, x0.snd.snd.snd), true, ())))
        else
         (gd [decide ((0 : Int) < (↑(cutPre x3 vPre).fst.length : Int))] (some (((1 : Int), x0.snd.fst, (numN (cutPre x3 vPre).fst (↑(cutPre x3 vPre).fst.length : Int) ((1 : Int)) ((1099511627776 : Int))).fst, x0.snd.snd.snd), false, ()))))
       else
        (some (((1 : Int), x0.snd.fst, (numN (cutPre x3 vPre).fst (↑(cutPre x3 vPre).fst.length : Int) ((1 : Int)) ((1099511627776 : Int))).fst, x0.snd.snd.snd), false, ())))
      else
       (bif (cutPre x3 vPre).snd then
        (none)
       else
        (some (((1 : Int), x0.snd.fst, (numN (cutPre x3 vPre).fst (↑(cutPre x3 vPre).fst.length : Int) ((1 : Int)) ((1099511627776 : Int))).fst, x0.snd.snd.snd), false, ())))))
     else
      (gd [bndS (cutPre x3 vPre).fst] (bif (cutPre x3 vPre).snd then
       (bif (cutPre x3 vPre).snd then
        (some (((1 : Int), x0.snd.fst, (numN (cutPre x3 vPre).fst (↑(cutPre x3 vPre).fst.length : Int) ((1 : Int)) ((1099511627776 : Int))).fst, x0.snd.snd.snd), false, ()))
       else
        (some (((1 : Int), x0.snd.fst, (numN (cutPre x3 vPre).fst (↑(cutPre x3 vPre).fst.length : Int) ((1 : Int)) ((1099511627776 : Int))).fst, x0.snd.snd.snd), false, ())))
      else
       (bif (cutPre x3 vPre).snd then
        (none)
       else
        (some (((1 : Int), x0.snd.fst, (numN (cutPre x3 vPre).fst (↑(cutPre x3 vPre).fst.length : Int) ((1 : Int)) ((1099511627776 : Int))).fst, x0.snd.snd.snd), false, ()))))))))))
 else
  (gd [bndS x0.snd.fst] (some (x0, false, ())))) := by kernel_rfl
theorem oakeyed_g (x : DenL [AskT, ReqT]) : oakeyed x = fON Tryz.prog (envS [(79, isKeyS), (80, numS), (81, condsS), (119, cutPreS)]) (shOf shakeyed) Tryz.f54 [AskT, ReqT] [AskT, .bool] heads0 x := rfl
abbrev shhsuf : List (Nat × List (Nat × Sh)) := []
noncomputable def ohsuf (x : DenL [.str, .str]) : Option (DenL [.bool]) := fO Tryz.prog (envS []) (shOf shhsuf) Tryz.f233 [.str, .str] [.bool] x
theorem ehsuf_g (N : Nat) (x0 x1 : List UInt8) : fON Tryz.prog (envS []) (shOf shhsuf) Tryz.f233 [.str, .str] [.bool] N (x0, x1, ()) =
 (bif decide ((↑x0.length : Int) ≥ (↑x1.length : Int)) then
  (bif List.drop ((↑x0.length : Int) - (↑x1.length : Int)).toNat x0 == x1 then
   (gd [decide ((0 : Int) ≤ (↑x0.length : Int) - (↑x1.length : Int)), decide ((↑x0.length : Int) - (↑x1.length : Int) ≤ (↑x0.length : Int)), decide (inK .i64 ((↑x0.length : Int) - (↑x1.length : Int)))] (some (true, ())))
  else
   (gd [decide ((0 : Int) ≤ (↑x0.length : Int) - (↑x1.length : Int)), decide ((↑x0.length : Int) - (↑x1.length : Int) ≤ (↑x0.length : Int)), decide (inK .i64 ((↑x0.length : Int) - (↑x1.length : Int)))] (some (false, ()))))
 else
  (some (false, ()))) := by kernel_rfl
theorem ohsuf_g (x : DenL [.str, .str]) : ohsuf x = fON Tryz.prog (envS []) (shOf shhsuf) Tryz.f233 [.str, .str] [.bool] heads0 x := rfl
abbrev shcsuf : List (Nat × List (Nat × Sh)) := []
noncomputable def ocsuf (x : DenL [.str, .str]) : Option (DenL [.str, .bool]) := fO Tryz.prog (envS [(233, hasSufT)]) (shOf shcsuf) Tryz.f186 [.str, .str] [.str, .bool] x
theorem ecsuf_g (N : Nat) (x0 x1 : List UInt8) : fON Tryz.prog (envS [(233, hasSufT)]) (shOf shcsuf) Tryz.f186 [.str, .str] [.str, .bool] N (x0, x1, ()) =
 (bif hasSuf x0 x1 then
  (gd [decide ((0 : Int) ≤ (↑x0.length : Int) - (↑x1.length : Int)), decide ((↑x0.length : Int) - (↑x1.length : Int) ≤ (↑x0.length : Int)), decide (inK .i64 ((↑x0.length : Int) - (↑x1.length : Int))), bndS x0] (some (List.take ((↑x0.length : Int) - (↑x1.length : Int)).toNat x0, true, ())))
 else
  (gd [bndS x0] (some (x0, false, ())))) := by kernel_rfl
theorem ocsuf_g (x : DenL [.str, .str]) : ocsuf x = fON Tryz.prog (envS [(233, hasSufT)]) (shOf shcsuf) Tryz.f186 [.str, .str] [.str, .bool] heads0 x := rfl
abbrev shsidx : List (Nat × List (Nat × Sh)) := [(2, [(0, (.one (.dat .str))), (1, (.one .sym)), (4, (.one .sym)), (7, (.one .sym)), (8, (.one .sym))])]
noncomputable def hsidx_0 (n : Nat) (t0 : List (Ty.Den .str)) (t1 : List UInt8) (t4 : Int) (t7 : Int) (t8 : Int) : Option (DenL [.int .i64]) := rH Tryz.prog (envS []) (shOf shsidx) Tryz.f112 [.int .i64] n 0 [(0, dt 9), (1, sy (.string (bs t1))), (4, sy (.int .i64 t4)), (7, sy (.int .i64 t7)), (8, sy (.int .i64 t8))] [.dat .str t0]
noncomputable def osidx (x : DenL [.slice .str, .str]) : Option (DenL [.int .i64]) := fO Tryz.prog (envS []) (shOf shsidx) Tryz.f112 [.slice .str, .str] [.int .i64] x
theorem esidx_g (N : Nat) (x0 : List (List UInt8)) (x1 : List UInt8) : fON Tryz.prog (envS []) (shOf shsidx) Tryz.f112 [.slice .str, .str] [.int .i64] N (x0, x1, ()) =
 (hsidx_0 N (x0) (x1) ((0 : Int)) ((↑x0.length : Int)) ((0 : Int))) := by kernel_rfl
theorem osidx_g (x : DenL [.slice .str, .str]) : osidx x = fON Tryz.prog (envS []) (shOf shsidx) Tryz.f112 [.slice .str, .str] [.int .i64] heads0 x := rfl
theorem esidx_0 (n : Nat) (t0 : List (Ty.Den .str)) (t1 : List UInt8) (t4 : Int) (t7 : Int) (t8 : Int) : hsidx_0 (n + 1) t0 t1 t4 t7 t8 =
 (bif decide (t8 < t7) then
  (bif t1 == t0.getD t8.toNat Ty.str.dflt then
   (gd [decide (t8.toNat < t0.length), decide ((0 : Int) ≤ t8), decide (t8 < (↑t0.length : Int))] (some (t8, ())))
  else
   (gd [decide (inK .i64 (t8 + (1 : Int))), decide (t8.toNat < t0.length), decide ((0 : Int) ≤ t8), decide (t8 < (↑t0.length : Int))] (hsidx_0 n (t0) (t1) (t4) (t7) (t8 + (1 : Int)))))
 else
  (some (Int.negSucc 0, ()))) := by kernel_rfl
abbrev shshas : List (Nat × List (Nat × Sh)) := []
noncomputable def oshas (x : DenL [.slice .str, .str]) : Option (DenL [.bool]) := fO Tryz.prog (envS [(112, idxSS)]) (shOf shshas) Tryz.f78 [.slice .str, .str] [.bool] x
theorem eshas_g (N : Nat) (x0 : List (List UInt8)) (x1 : List UInt8) : fON Tryz.prog (envS [(112, idxSS)]) (shOf shshas) Tryz.f78 [.slice .str, .str] [.bool] N (x0, x1, ()) =
 (bif decide (idxS x0 x1 ≥ (0 : Int)) then
  (gd [decide (x0.length ≤ 1000)] (some (true, ())))
 else
  (gd [decide (x0.length ≤ 1000)] (some (false, ())))) := by kernel_rfl
theorem oshas_g (x : DenL [.slice .str, .str]) : oshas x = fON Tryz.prog (envS [(112, idxSS)]) (shOf shshas) Tryz.f78 [.slice .str, .str] [.bool] heads0 x := rfl
abbrev shlisted : List (Nat × List (Nat × Sh)) := [(6, [(2, (.obj [.sym, .sym, .sym, .sym, .sym, .sym, .sym, .sym, .sym, .sym])), (4, (.obj [.sym, .sym, .sym, .sym, .sym, .sym, .sym, .sym, .sym, .sym])), (5, (.one .sym)), (6, (.one (.vec .str 9))), (21, (.one (.dat .str))), (22, (.one .sym)), (23, (.one .sym))])]
noncomputable def hlisted_0 (n : Nat) (t2_0 : Int) (t2_1 : List UInt8) (t2_2 : Int) (t2_3 : List UInt8) (t2_4 : Int) (t2_5 : List UInt8) (t2_6 : List UInt8) (t2_7 : List UInt8) (t2_8 : Int) (t2_9 : Bool) (t4_0 : Int) (t4_1 : List UInt8) (t4_2 : Int) (t4_3 : List UInt8) (t4_4 : Int) (t4_5 : List UInt8) (t4_6 : List UInt8) (t4_7 : List UInt8) (t4_8 : Int) (t4_9 : Bool) (t5 : Bool) (t6 : List (Ty.Den .str)) (t21 : List (Ty.Den .str)) (t22 : Int) (t23 : Int) : Option (DenL [AskT, .bool]) := rH Tryz.prog (envS [(79, isKeyS), (76, splitS), (77, cutES), (78, hasSS), (80, numS)]) (shOf shlisted) Tryz.f53 [AskT, .bool] n 0 [(2, .pointer (some ⟨9, 0, none⟩)), (4, .pointer (some ⟨10, 0, none⟩)), (5, .bool t5), (6, dt 11), (21, dt 12), (22, sy (.int .i64 t22)), (23, sy (.int .i64 t23))] [.row [sy (.int .i64 t2_0), sy (.string (bs t2_1)), sy (.int .i64 t2_2), sy (.string (bs t2_3)), sy (.int .i64 t2_4), sy (.string (bs t2_5)), sy (.string (bs t2_6)), sy (.string (bs t2_7)), sy (.int .i64 t2_8), .bool t2_9] 53 false, .row [sy (.int .i64 t4_0), sy (.string (bs t4_1)), sy (.int .i64 t4_2), sy (.string (bs t4_3)), sy (.int .i64 t4_4), sy (.string (bs t4_5)), sy (.string (bs t4_6)), sy (.string (bs t4_7)), sy (.int .i64 t4_8), .bool t4_9] 53 false, .vec .str t6 9, .dat .str t21]
noncomputable def olisted (x : DenL [AskT, .str]) : Option (DenL [AskT, .bool]) := fO Tryz.prog (envS [(79, isKeyS), (76, splitS), (77, cutES), (78, hasSS), (80, numS)]) (shOf shlisted) Tryz.f53 [AskT, .str] [AskT, .bool] x
theorem elisted_g (N : Nat) (x0 : Ty.Den AskT) (x1 : List UInt8) : fON Tryz.prog (envS [(79, isKeyS), (76, splitS), (77, cutES), (78, hasSS), (80, numS)]) (shOf shlisted) Tryz.f53 [AskT, .str] [AskT, .bool] N (x0, x1, ()) =
 (bif x1 == [] then
  (some (((4 : Int), x0.snd.fst, x0.snd.snd.fst, x0.snd.snd.snd.fst, x0.snd.snd.snd.snd.fst, x0.snd.snd.snd.snd.snd.fst, x0.snd.snd.snd.snd.snd.snd.fst, x0.snd.snd.snd.snd.snd.snd.snd.fst, (20 : Int), x0.snd.snd.snd.snd.snd.snd.snd.snd.snd.fst, ()), true, ()))
 else
  (gd [shortS x1 && [38] == [38]] (hlisted_0 N ((4 : Int)) (x0.snd.fst) (x0.snd.snd.fst) (x0.snd.snd.snd.fst) (x0.snd.snd.snd.snd.fst) (x0.snd.snd.snd.snd.snd.fst) (x0.snd.snd.snd.snd.snd.snd.fst) (x0.snd.snd.snd.snd.snd.snd.snd.fst) ((20 : Int)) (x0.snd.snd.snd.snd.snd.snd.snd.snd.snd.fst) ((0 : Int)) ([]) ((0 : Int)) ([]) ((0 : Int)) ([]) ([]) ([]) ((0 : Int)) (false) (false) ([]) (splitN x1) ((↑(splitN x1).length : Int)) ((0 : Int))))) := by kernel_rfl
theorem olisted_g (x : DenL [AskT, .str]) : olisted x = fON Tryz.prog (envS [(79, isKeyS), (76, splitS), (77, cutES), (78, hasSS), (80, numS)]) (shOf shlisted) Tryz.f53 [AskT, .str] [AskT, .bool] heads0 x := rfl
theorem elisted_0 (n : Nat) (t2_0 : Int) (t2_1 : List UInt8) (t2_2 : Int) (t2_3 : List UInt8) (t2_4 : Int) (t2_5 : List UInt8) (t2_6 : List UInt8) (t2_7 : List UInt8) (t2_8 : Int) (t2_9 : Bool) (t4_0 : Int) (t4_1 : List UInt8) (t4_2 : Int) (t4_3 : List UInt8) (t4_4 : Int) (t4_5 : List UInt8) (t4_6 : List UInt8) (t4_7 : List UInt8) (t4_8 : Int) (t4_9 : Bool) (t5 : Bool) (t6 : List (Ty.Den .str)) (t21 : List (Ty.Den .str)) (t22 : Int) (t23 : Int) : hlisted_0 (n + 1) t2_0 t2_1 t2_2 t2_3 t2_4 t2_5 t2_6 t2_7 t2_8 t2_9 t4_0 t4_1 t4_2 t4_3 t4_4 t4_5 t4_6 t4_7 t4_8 t4_9 t5 t6 t21 t22 t23 =
 (bif decide (t23 < t22) then
  (gd [decide (t23.toNat < t21.length), decide ((0 : Int) ≤ t23), decide (t23 < (↑t21.length : Int))] (bif (cutE (t21.getD t23.toNat Ty.str.dflt)).snd.snd then
   (gd [shortS (t21.getD t23.toNat Ty.str.dflt) && [61] == [61]] (bif hasS t6 (cutE (t21.getD t23.toNat Ty.str.dflt)).fst then
    (gd [decide (t6.length ≤ 1000)] (some ((t2_0, t2_1, t2_2, t2_3, t2_4, t2_5, t2_6, t2_7, t2_8, t2_9, ()), false, ())))
   else
    (gd [decide ((2 * (t6.length + [(cutE (t21.getD t23.toNat Ty.str.dflt)).fst].length) + 400) * 16 ≤ 281474976710656), decide (t6.length ≤ 1000)] (bif (cutE (t21.getD t23.toNat Ty.str.dflt)).snd.fst == [] then
     (bif (cutE (t21.getD t23.toNat Ty.str.dflt)).fst == wPre then
      (gd [decide (inK .i64 (t23 + (1 : Int)))] (hlisted_0 n (t2_0) (t2_1) (t2_2) (t2_3) (t2_4) (t2_5) ((cutE (t21.getD t23.toNat Ty.str.dflt)).snd.fst) (t2_7) (t2_8) (t2_9) (t4_0) (t4_1) (t4_2) (t4_3) (t4_4) (t4_5) (t4_6) (t4_7) (t4_8) (t4_9) (t5) (t6 ++ [(cutE (t21.getD t23.toNat Ty.str.dflt)).fst]) (t21) (t22) (t23 + (1 : Int))))
     else
      (bif (cutE (t21.getD t23.toNat Ty.str.dflt)).fst == wAft then
       (gd [decide (inK .i64 (t23 + (1 : Int)))] (hlisted_0 n (t2_0) (t2_1) (t2_2) (t2_3) (t2_4) (t2_5) (t2_6) ((cutE (t21.getD t23.toNat Ty.str.dflt)).snd.fst) (t2_8) (t2_9) (t4_0) (t4_1) (t4_2) (t4_3) (t4_4) (t4_5) (t4_6) (t4_7) (t4_8) (t4_9) (t5) (t6 ++ [(cutE (t21.getD t23.toNat Ty.str.dflt)).fst]) (t21) (t22) (t23 + (1 : Int))))
      else
       (bif (cutE (t21.getD t23.toNat Ty.str.dflt)).fst == wMax then
        (bif (numN (cutE (t21.getD t23.toNat Ty.str.dflt)).snd.fst ((2 : Int)) ((1 : Int)) ((20 : Int))).snd then
         (gd [decide (inK .i64 (t23 + (1 : Int))), bndS (cutE (t21.getD t23.toNat Ty.str.dflt)).snd.fst] (hlisted_0 n (t2_0) (t2_1) (t2_2) (t2_3) (t2_4) (t2_5) (t2_6) (t2_7) ((numN (cutE (t21.getD t23.toNat Ty.str.dflt)).snd.fst ((2 : Int)) ((1 : Int)) ((20 : Int))).fst) (t2_9) (t4_0) (t4_1) (t4_2) (t4_3) (t4_4) (t4_5) (t4_6) (t4_7) (t4_8) (t4_9) (t5) (t6 ++ [(cutE (t21.getD t23.toNat Ty.str.dflt)).fst]) (t21) (t22) (t23 + (1 : Int))))
        else
         (gd [bndS (cutE (t21.getD t23.toNat Ty.str.dflt)).snd.fst] (some ((t2_0, t2_1, t2_2, t2_3, t2_4, t2_5, t2_6, t2_7, (numN (cutE (t21.getD t23.toNat Ty.str.dflt)).snd.fst ((2 : Int)) ((1 : Int)) ((20 : Int))).fst, t2_9, ()), false, ()))))
       else
        (bif (cutE (t21.getD t23.toNat Ty.str.dflt)).fst == wVer then
         (bif (cutE (t21.getD t23.toNat Ty.str.dflt)).snd.fst == [49] then
          (gd [decide (inK .i64 (t23 + (1 : Int)))] (hlisted_0 n ((5 : Int)) (t2_1) (t2_2) (t2_3) (t2_4) (t2_5) (t2_6) (t2_7) (t2_8) (t2_9) (t4_0) (t4_1) (t4_2) (t4_3) (t4_4) (t4_5) (t4_6) (t4_7) (t4_8) (t4_9) (t5) (t6 ++ [(cutE (t21.getD t23.toNat Ty.str.dflt)).fst]) (t21) (t22) (t23 + (1 : Int))))
         else
          (some (((5 : Int), t2_1, t2_2, t2_3, t2_4, t2_5, t2_6, t2_7, t2_8, t2_9, ()), false, ())))
        else
         (some ((t2_0, t2_1, t2_2, t2_3, t2_4, t2_5, t2_6, t2_7, t2_8, t2_9, ()), false, ()))))))
    else
     (bif isKey (cutE (t21.getD t23.toNat Ty.str.dflt)).snd.fst then
      (gd [bndS (cutE (t21.getD t23.toNat Ty.str.dflt)).snd.fst] (bif (cutE (t21.getD t23.toNat Ty.str.dflt)).fst == wPre then
       (gd [decide (inK .i64 (t23 + (1 : Int)))] (hlisted_0 n (t2_0) (t2_1) (t2_2) (t2_3) (t2_4) (t2_5) ((cutE (t21.getD t23.toNat Ty.str.dflt)).snd.fst) (t2_7) (t2_8) (t2_9) (t4_0) (t4_1) (t4_2) (t4_3) (t4_4) (t4_5) (t4_6) (t4_7) (t4_8) (t4_9) (t5) (t6 ++ [(cutE (t21.getD t23.toNat Ty.str.dflt)).fst]) (t21) (t22) (t23 + (1 : Int))))
      else
       (bif (cutE (t21.getD t23.toNat Ty.str.dflt)).fst == wAft then
        (gd [decide (inK .i64 (t23 + (1 : Int)))] (hlisted_0 n (t2_0) (t2_1) (t2_2) (t2_3) (t2_4) (t2_5) (t2_6) ((cutE (t21.getD t23.toNat Ty.str.dflt)).snd.fst) (t2_8) (t2_9) (t4_0) (t4_1) (t4_2) (t4_3) (t4_4) (t4_5) (t4_6) (t4_7) (t4_8) (t4_9) (t5) (t6 ++ [(cutE (t21.getD t23.toNat Ty.str.dflt)).fst]) (t21) (t22) (t23 + (1 : Int))))
       else
        (bif (cutE (t21.getD t23.toNat Ty.str.dflt)).fst == wMax then
         (bif (numN (cutE (t21.getD t23.toNat Ty.str.dflt)).snd.fst ((2 : Int)) ((1 : Int)) ((20 : Int))).snd then
          (gd [decide (inK .i64 (t23 + (1 : Int))), bndS (cutE (t21.getD t23.toNat Ty.str.dflt)).snd.fst] (hlisted_0 n (t2_0) (t2_1) (t2_2) (t2_3) (t2_4) (t2_5) (t2_6) (t2_7) ((numN (cutE (t21.getD t23.toNat Ty.str.dflt)).snd.fst ((2 : Int)) ((1 : Int)) ((20 : Int))).fst) (t2_9) (t4_0) (t4_1) (t4_2) (t4_3) (t4_4) (t4_5) (t4_6) (t4_7) (t4_8) (t4_9) (t5) (t6 ++ [(cutE (t21.getD t23.toNat Ty.str.dflt)).fst]) (t21) (t22) (t23 + (1 : Int))))
         else
          (gd [bndS (cutE (t21.getD t23.toNat Ty.str.dflt)).snd.fst] (some ((t2_0, t2_1, t2_2, t2_3, t2_4, t2_5, t2_6, t2_7, (numN (cutE (t21.getD t23.toNat Ty.str.dflt)).snd.fst ((2 : Int)) ((1 : Int)) ((20 : Int))).fst, t2_9, ()), false, ()))))
        else
         (bif (cutE (t21.getD t23.toNat Ty.str.dflt)).fst == wVer then
          (bif (cutE (t21.getD t23.toNat Ty.str.dflt)).snd.fst == [49] then
           (gd [decide (inK .i64 (t23 + (1 : Int)))] (hlisted_0 n ((5 : Int)) (t2_1) (t2_2) (t2_3) (t2_4) (t2_5) (t2_6) (t2_7) (t2_8) (t2_9) (t4_0) (t4_1) (t4_2) (t4_3) (t4_4) (t4_5) (t4_6) (t4_7) (t4_8) (t4_9) (t5) (t6 ++ [(cutE (t21.getD t23.toNat Ty.str.dflt)).fst]) (t21) (t22) (t23 + (1 : Int))))
          else
           (some (((5 : Int), t2_1, t2_2, t2_3, t2_4, t2_5, t2_6, t2_7, t2_8, t2_9, ()), false, ())))
         else
          (some ((t2_0, t2_1, t2_2, t2_3, t2_4, t2_5, t2_6, t2_7, t2_8, t2_9, ()), false, ())))))))
     else
      (gd [bndS (cutE (t21.getD t23.toNat Ty.str.dflt)).snd.fst] (bif (cutE (t21.getD t23.toNat Ty.str.dflt)).fst == wPre then
       (some ((t2_0, t2_1, t2_2, t2_3, t2_4, t2_5, (cutE (t21.getD t23.toNat Ty.str.dflt)).snd.fst, t2_7, t2_8, t2_9, ()), false, ()))
      else
       (bif (cutE (t21.getD t23.toNat Ty.str.dflt)).fst == wAft then
        (some ((t2_0, t2_1, t2_2, t2_3, t2_4, t2_5, t2_6, (cutE (t21.getD t23.toNat Ty.str.dflt)).snd.fst, t2_8, t2_9, ()), false, ()))
       else
        (bif (cutE (t21.getD t23.toNat Ty.str.dflt)).fst == wMax then
         (bif (numN (cutE (t21.getD t23.toNat Ty.str.dflt)).snd.fst ((2 : Int)) ((1 : Int)) ((20 : Int))).snd then
          (gd [decide (inK .i64 (t23 + (1 : Int))), bndS (cutE (t21.getD t23.toNat Ty.str.dflt)).snd.fst] (hlisted_0 n (t2_0) (t2_1) (t2_2) (t2_3) (t2_4) (t2_5) (t2_6) (t2_7) ((numN (cutE (t21.getD t23.toNat Ty.str.dflt)).snd.fst ((2 : Int)) ((1 : Int)) ((20 : Int))).fst) (t2_9) (t4_0) (t4_1) (t4_2) (t4_3) (t4_4) (t4_5) (t4_6) (t4_7) (t4_8) (t4_9) (t5) (t6 ++ [(cutE (t21.getD t23.toNat Ty.str.dflt)).fst]) (t21) (t22) (t23 + (1 : Int))))
         else
          (gd [bndS (cutE (t21.getD t23.toNat Ty.str.dflt)).snd.fst] (some ((t2_0, t2_1, t2_2, t2_3, t2_4, t2_5, t2_6, t2_7, (numN (cutE (t21.getD t23.toNat Ty.str.dflt)).snd.fst ((2 : Int)) ((1 : Int)) ((20 : Int))).fst, t2_9, ()), false, ()))))
        else
         (bif (cutE (t21.getD t23.toNat Ty.str.dflt)).fst == wVer then
          (bif (cutE (t21.getD t23.toNat Ty.str.dflt)).snd.fst == [49] then
           (gd [decide (inK .i64 (t23 + (1 : Int)))] (hlisted_0 n ((5 : Int)) (t2_1) (t2_2) (t2_3) (t2_4) (t2_5) (t2_6) (t2_7) (t2_8) (t2_9) (t4_0) (t4_1) (t4_2) (t4_3) (t4_4) (t4_5) (t4_6) (t4_7) (t4_8) (t4_9) (t5) (t6 ++ [(cutE (t21.getD t23.toNat Ty.str.dflt)).fst]) (t21) (t22) (t23 + (1 : Int))))
          else
           (some (((5 : Int), t2_1, t2_2, t2_3, t2_4, t2_5, t2_6, t2_7, t2_8, t2_9, ()), false, ())))
         else
          (some ((t2_0, t2_1, t2_2, t2_3, t2_4, t2_5, t2_6, t2_7, t2_8, t2_9, ()), false, ()))))))))))))
  else
   (gd [shortS (t21.getD t23.toNat Ty.str.dflt) && [61] == [61]] (some ((t2_0, t2_1, t2_2, t2_3, t2_4, t2_5, t2_6, t2_7, t2_8, t2_9, ()), false, ())))))
 else
  (some ((t2_0, t2_1, t2_2, t2_3, t2_4, t2_5, t2_6, t2_7, t2_8, t2_9, ()), true, ()))) := by kernel_rfl
end Go.Proofs.YtpdbgpkedehpgaaGreatDoor
namespace Go.Proofs.YtpdbgpkedehpgaaGreatDoor
open Go Go.Eng Nice
set_option maxRecDepth 1000000
abbrev shrkeyB : List (Nat × List (Nat × Sh)) := []
noncomputable def orkeyB (x : DenL [.str]) : Option (DenL [.bool]) := fO Tryz.prog (envS [(44, isKeyS)]) (shOf shrkeyB) Tryz.f83 [.str] [.bool] x
theorem erkeyB_g (N : Nat) (x0 : List UInt8) : fON Tryz.prog (envS [(44, isKeyS)]) (shOf shrkeyB) Tryz.f83 [.str] [.bool] N (x0, ()) =
 (bif x0 == [] then
  (some (true, ()))
 else
  (bif isKey x0 then
   (gd [bndS x0] (some (true, ())))
  else
   (gd [bndS x0] (some (false, ()))))) := by kernel_rfl
theorem orkeyB_g (x : DenL [.str]) : orkeyB x = fON Tryz.prog (envS [(44, isKeyS)]) (shOf shrkeyB) Tryz.f83 [.str] [.bool] heads0 x := rfl
abbrev shrparts : List (Nat × List (Nat × Sh)) := [(4, [(0, (.one .sym)), (3, (.obj [.sym, .sym, .sym, .sym, .sym, .sym, .sym, .sym, .sym, .sym])), (4, (.obj [.sym, .sym, .sym, .sym, .sym, .sym, .sym, .sym, .sym, .sym])), (5, (.one .sym)), (6, (.obj [.sym, .sym, .sym, .sym]))]), (5, [(0, (.one .sym)), (3, (.obj [.sym, .sym, .sym, .sym, .sym, .sym, .sym, .sym, .sym, .sym])), (4, (.obj [.sym, .sym, .sym, .sym, .sym, .sym, .sym, .sym, .sym, .sym])), (5, (.one .sym)), (6, (.obj [.sym, .sym, .sym, .sym])), (7, (.one .sym))]), (11, [(0, (.one .sym)), (3, (.obj [.sym, .sym, .sym, .sym, .sym, .sym, .sym, .sym, .sym, .sym])), (4, (.obj [.sym, .sym, .sym, .sym, .sym, .sym, .sym, .sym, .sym, .sym])), (5, (.one .sym)), (6, (.obj [.sym, .sym, .sym, .sym])), (7, (.one .sym)), (8, (.one .sym)), (9, (.sli [.sym, .sym, .sym, .sym])), (10, (.one .sym)), (11, (.one .sym))])]
noncomputable def hrparts_0 (n : Nat) (t0 : List UInt8) (t3_0 : Int) (t3_1 : List UInt8) (t3_2 : Int) (t3_3 : List UInt8) (t3_4 : Int) (t3_5 : List UInt8) (t3_6 : List UInt8) (t3_7 : List UInt8) (t3_8 : Int) (t3_9 : Bool) (t4_0 : Int) (t4_1 : List UInt8) (t4_2 : Int) (t4_3 : List UInt8) (t4_4 : Int) (t4_5 : List UInt8) (t4_6 : List UInt8) (t4_7 : List UInt8) (t4_8 : Int) (t4_9 : Bool) (t5 : Bool) (t6_0 : Bool) (t6_1 : Bool) (t6_2 : Bool) (t6_3 : Bool) : Option (DenL [AskT, .bool]) := rH Tryz.prog (envS [(49, refNumS), (83, keyBS)]) (shOf shrparts) Tryz.f55 [AskT, .bool] n 0 [(0, sy (.string (bs t0))), (3, .pointer (some ⟨9, 0, none⟩)), (4, .pointer (some ⟨10, 0, none⟩)), (5, .bool t5), (6, .pointer (some ⟨11, 0, none⟩))] [.row [sy (.int .i64 t3_0), sy (.string (bs t3_1)), sy (.int .i64 t3_2), sy (.string (bs t3_3)), sy (.int .i64 t3_4), sy (.string (bs t3_5)), sy (.string (bs t3_6)), sy (.string (bs t3_7)), sy (.int .i64 t3_8), .bool t3_9] 53 false, .row [sy (.int .i64 t4_0), sy (.string (bs t4_1)), sy (.int .i64 t4_2), sy (.string (bs t4_3)), sy (.int .i64 t4_4), sy (.string (bs t4_5)), sy (.string (bs t4_6)), sy (.string (bs t4_7)), sy (.int .i64 t4_8), .bool t4_9] 53 false, .row [.bool t6_0, .bool t6_1, .bool t6_2, .bool t6_3] 120 false]
noncomputable def hrparts_1 (n : Nat) (t0 : List UInt8) (t3_0 : Int) (t3_1 : List UInt8) (t3_2 : Int) (t3_3 : List UInt8) (t3_4 : Int) (t3_5 : List UInt8) (t3_6 : List UInt8) (t3_7 : List UInt8) (t3_8 : Int) (t3_9 : Bool) (t4_0 : Int) (t4_1 : List UInt8) (t4_2 : Int) (t4_3 : List UInt8) (t4_4 : Int) (t4_5 : List UInt8) (t4_6 : List UInt8) (t4_7 : List UInt8) (t4_8 : Int) (t4_9 : Bool) (t5 : Bool) (t6_0 : Bool) (t6_1 : Bool) (t6_2 : Bool) (t6_3 : Bool) (t7 : Int) : Option (DenL [AskT, .bool]) := rH Tryz.prog (envS [(49, refNumS), (83, keyBS)]) (shOf shrparts) Tryz.f55 [AskT, .bool] n 1 [(0, sy (.string (bs t0))), (3, .pointer (some ⟨9, 0, none⟩)), (4, .pointer (some ⟨10, 0, none⟩)), (5, .bool t5), (6, .pointer (some ⟨11, 0, none⟩)), (7, sy (.int .i64 t7))] [.row [sy (.int .i64 t3_0), sy (.string (bs t3_1)), sy (.int .i64 t3_2), sy (.string (bs t3_3)), sy (.int .i64 t3_4), sy (.string (bs t3_5)), sy (.string (bs t3_6)), sy (.string (bs t3_7)), sy (.int .i64 t3_8), .bool t3_9] 53 false, .row [sy (.int .i64 t4_0), sy (.string (bs t4_1)), sy (.int .i64 t4_2), sy (.string (bs t4_3)), sy (.int .i64 t4_4), sy (.string (bs t4_5)), sy (.string (bs t4_6)), sy (.string (bs t4_7)), sy (.int .i64 t4_8), .bool t4_9] 53 false, .row [.bool t6_0, .bool t6_1, .bool t6_2, .bool t6_3] 120 false]
noncomputable def hrparts_2 (n : Nat) (t0 : List UInt8) (t3_0 : Int) (t3_1 : List UInt8) (t3_2 : Int) (t3_3 : List UInt8) (t3_4 : Int) (t3_5 : List UInt8) (t3_6 : List UInt8) (t3_7 : List UInt8) (t3_8 : Int) (t3_9 : Bool) (t4_0 : Int) (t4_1 : List UInt8) (t4_2 : Int) (t4_3 : List UInt8) (t4_4 : Int) (t4_5 : List UInt8) (t4_6 : List UInt8) (t4_7 : List UInt8) (t4_8 : Int) (t4_9 : Bool) (t5 : Bool) (t6_0 : Bool) (t6_1 : Bool) (t6_2 : Bool) (t6_3 : Bool) (t7 : Int) (t8 : List UInt8) (t9_0 : List UInt8) (t9_1 : List UInt8) (t9_2 : List UInt8) (t9_3 : List UInt8) (t10 : Int) (t11 : Int) : Option (DenL [AskT, .bool]) := rH Tryz.prog (envS [(49, refNumS), (83, keyBS)]) (shOf shrparts) Tryz.f55 [AskT, .bool] n 2 [(0, sy (.string (bs t0))), (3, .pointer (some ⟨9, 0, none⟩)), (4, .pointer (some ⟨10, 0, none⟩)), (5, .bool t5), (6, .pointer (some ⟨11, 0, none⟩)), (7, sy (.int .i64 t7)), (8, sy (.string (bs t8))), (9, .slice (some ⟨12, 0, none⟩) 4 4), (10, sy (.int .i64 t10)), (11, sy (.int .i64 t11))] [.row [sy (.int .i64 t3_0), sy (.string (bs t3_1)), sy (.int .i64 t3_2), sy (.string (bs t3_3)), sy (.int .i64 t3_4), sy (.string (bs t3_5)), sy (.string (bs t3_6)), sy (.string (bs t3_7)), sy (.int .i64 t3_8), .bool t3_9] 53 false, .row [sy (.int .i64 t4_0), sy (.string (bs t4_1)), sy (.int .i64 t4_2), sy (.string (bs t4_3)), sy (.int .i64 t4_4), sy (.string (bs t4_5)), sy (.string (bs t4_6)), sy (.string (bs t4_7)), sy (.int .i64 t4_8), .bool t4_9] 53 false, .row [.bool t6_0, .bool t6_1, .bool t6_2, .bool t6_3] 120 false, .row [sy (.string (bs t9_0)), sy (.string (bs t9_1)), sy (.string (bs t9_2)), sy (.string (bs t9_3))] 9 false]
noncomputable def orparts (x : DenL [.str, AskT]) : Option (DenL [AskT, .bool]) := fO Tryz.prog (envS [(49, refNumS), (83, keyBS)]) (shOf shrparts) Tryz.f55 [.str, AskT] [AskT, .bool] x
theorem erparts_g (N : Nat) (x0 : List UInt8) (x1 : Ty.Den AskT) : fON Tryz.prog (envS [(49, refNumS), (83, keyBS)]) (shOf shrparts) Tryz.f55 [.str, AskT] [AskT, .bool] N (x0, x1, ()) =
 (bif x0 == [] then
  (some (x1, true, ()))
 else
  (hrparts_0 N (x0) (x1.fst) (x1.snd.fst) (x1.snd.snd.fst) (x1.snd.snd.snd.fst) (x1.snd.snd.snd.snd.fst) (x1.snd.snd.snd.snd.snd.fst) (x1.snd.snd.snd.snd.snd.snd.fst) (x1.snd.snd.snd.snd.snd.snd.snd.fst) (x1.snd.snd.snd.snd.snd.snd.snd.snd.fst) (x1.snd.snd.snd.snd.snd.snd.snd.snd.snd.fst) ((0 : Int)) ([]) ((0 : Int)) ([]) ((0 : Int)) ([]) ([]) ([]) ((0 : Int)) (false) (false) (false) (false) (false) (false))) := by kernel_rfl
theorem orparts_g (x : DenL [.str, AskT]) : orparts x = fON Tryz.prog (envS [(49, refNumS), (83, keyBS)]) (shOf shrparts) Tryz.f55 [.str, AskT] [AskT, .bool] heads0 x := rfl
theorem erparts_2_0 (n : Nat) (t0 : List UInt8) (t3_0 : Int) (t3_1 : List UInt8) (t3_2 : Int) (t3_3 : List UInt8) (t3_4 : Int) (t3_5 : List UInt8) (t3_6 : List UInt8) (t3_7 : List UInt8) (t3_8 : Int) (t3_9 : Bool) (t4_0 : Int) (t4_1 : List UInt8) (t4_2 : Int) (t4_3 : List UInt8) (t4_4 : Int) (t4_5 : List UInt8) (t4_6 : List UInt8) (t4_7 : List UInt8) (t4_8 : Int) (t4_9 : Bool) (t5 : Bool) (t6_0 : Bool) (t6_1 : Bool) (t6_2 : Bool) (t6_3 : Bool) (t7 : Int) (t8 : List UInt8) (t10 : Int) : hrparts_2 (n + 1) t0 t3_0 t3_1 t3_2 t3_3 t3_4 t3_5 t3_6 t3_7 t3_8 t3_9 t4_0 t4_1 t4_2 t4_3 t4_4 t4_5 t4_6 t4_7 t4_8 t4_9 t5 t6_0 t6_1 t6_2 t6_3 t7 t8 (ePre) (eAft) (eMax) (eVer) t10 ((0 : Int)) =
 (bif decide ((↑t8.length : Int) ≥ (7 : Int)) then
  (bif List.take 7 t8 == ePre then
   (gd [decide (inK .i64 ((0 : Int) + (1 : Int))), decide ((7 : Int) ≤ (↑t8.length : Int))] (hrparts_2 n (t0) (t3_0) (t3_1) (t3_2) (t3_3) (t3_4) (t3_5) (t3_6) (t3_7) (t3_8) (t3_9) (t4_0) (t4_1) (t4_2) (t4_3) (t4_4) (t4_5) (t4_6) (t4_7) (t4_8) (t4_9) (t5) (t6_0) (t6_1) (t6_2) (t6_3) (t7) (t8) (ePre) (eAft) (eMax) (eVer) ((0 : Int)) ((1 : Int))))
  else
   (gd [decide (inK .i64 ((0 : Int) + (1 : Int))), decide ((7 : Int) ≤ (↑t8.length : Int))] (hrparts_2 n (t0) (t3_0) (t3_1) (t3_2) (t3_3) (t3_4) (t3_5) (t3_6) (t3_7) (t3_8) (t3_9) (t4_0) (t4_1) (t4_2) (t4_3) (t4_4) (t4_5) (t4_6) (t4_7) (t4_8) (t4_9) (t5) (t6_0) (t6_1) (t6_2) (t6_3) (t7) (t8) (ePre) (eAft) (eMax) (eVer) (t10) ((1 : Int)))))
 else
  (gd [decide (inK .i64 ((0 : Int) + (1 : Int)))] (hrparts_2 n (t0) (t3_0) (t3_1) (t3_2) (t3_3) (t3_4) (t3_5) (t3_6) (t3_7) (t3_8) (t3_9) (t4_0) (t4_1) (t4_2) (t4_3) (t4_4) (t4_5) (t4_6) (t4_7) (t4_8) (t4_9) (t5) (t6_0) (t6_1) (t6_2) (t6_3) (t7) (t8) (ePre) (eAft) (eMax) (eVer) (t10) ((1 : Int))))) := by kernel_rfl
theorem erparts_2_1 (n : Nat) (t0 : List UInt8) (t3_0 : Int) (t3_1 : List UInt8) (t3_2 : Int) (t3_3 : List UInt8) (t3_4 : Int) (t3_5 : List UInt8) (t3_6 : List UInt8) (t3_7 : List UInt8) (t3_8 : Int) (t3_9 : Bool) (t4_0 : Int) (t4_1 : List UInt8) (t4_2 : Int) (t4_3 : List UInt8) (t4_4 : Int) (t4_5 : List UInt8) (t4_6 : List UInt8) (t4_7 : List UInt8) (t4_8 : Int) (t4_9 : Bool) (t5 : Bool) (t6_0 : Bool) (t6_1 : Bool) (t6_2 : Bool) (t6_3 : Bool) (t7 : Int) (t8 : List UInt8) (t10 : Int) : hrparts_2 (n + 1) t0 t3_0 t3_1 t3_2 t3_3 t3_4 t3_5 t3_6 t3_7 t3_8 t3_9 t4_0 t4_1 t4_2 t4_3 t4_4 t4_5 t4_6 t4_7 t4_8 t4_9 t5 t6_0 t6_1 t6_2 t6_3 t7 t8 (ePre) (eAft) (eMax) (eVer) t10 ((1 : Int)) =
 (bif decide ((↑t8.length : Int) ≥ (6 : Int)) then
  (bif List.take 6 t8 == eAft then
   (gd [decide (inK .i64 ((1 : Int) + (1 : Int))), decide ((6 : Int) ≤ (↑t8.length : Int))] (hrparts_2 n (t0) (t3_0) (t3_1) (t3_2) (t3_3) (t3_4) (t3_5) (t3_6) (t3_7) (t3_8) (t3_9) (t4_0) (t4_1) (t4_2) (t4_3) (t4_4) (t4_5) (t4_6) (t4_7) (t4_8) (t4_9) (t5) (t6_0) (t6_1) (t6_2) (t6_3) (t7) (t8) (ePre) (eAft) (eMax) (eVer) ((1 : Int)) ((2 : Int))))
  else
   (gd [decide (inK .i64 ((1 : Int) + (1 : Int))), decide ((6 : Int) ≤ (↑t8.length : Int))] (hrparts_2 n (t0) (t3_0) (t3_1) (t3_2) (t3_3) (t3_4) (t3_5) (t3_6) (t3_7) (t3_8) (t3_9) (t4_0) (t4_1) (t4_2) (t4_3) (t4_4) (t4_5) (t4_6) (t4_7) (t4_8) (t4_9) (t5) (t6_0) (t6_1) (t6_2) (t6_3) (t7) (t8) (ePre) (eAft) (eMax) (eVer) (t10) ((2 : Int)))))
 else
  (gd [decide (inK .i64 ((1 : Int) + (1 : Int)))] (hrparts_2 n (t0) (t3_0) (t3_1) (t3_2) (t3_3) (t3_4) (t3_5) (t3_6) (t3_7) (t3_8) (t3_9) (t4_0) (t4_1) (t4_2) (t4_3) (t4_4) (t4_5) (t4_6) (t4_7) (t4_8) (t4_9) (t5) (t6_0) (t6_1) (t6_2) (t6_3) (t7) (t8) (ePre) (eAft) (eMax) (eVer) (t10) ((2 : Int))))) := by kernel_rfl
theorem erparts_2_2 (n : Nat) (t0 : List UInt8) (t3_0 : Int) (t3_1 : List UInt8) (t3_2 : Int) (t3_3 : List UInt8) (t3_4 : Int) (t3_5 : List UInt8) (t3_6 : List UInt8) (t3_7 : List UInt8) (t3_8 : Int) (t3_9 : Bool) (t4_0 : Int) (t4_1 : List UInt8) (t4_2 : Int) (t4_3 : List UInt8) (t4_4 : Int) (t4_5 : List UInt8) (t4_6 : List UInt8) (t4_7 : List UInt8) (t4_8 : Int) (t4_9 : Bool) (t5 : Bool) (t6_0 : Bool) (t6_1 : Bool) (t6_2 : Bool) (t6_3 : Bool) (t7 : Int) (t8 : List UInt8) (t10 : Int) : hrparts_2 (n + 1) t0 t3_0 t3_1 t3_2 t3_3 t3_4 t3_5 t3_6 t3_7 t3_8 t3_9 t4_0 t4_1 t4_2 t4_3 t4_4 t4_5 t4_6 t4_7 t4_8 t4_9 t5 t6_0 t6_1 t6_2 t6_3 t7 t8 (ePre) (eAft) (eMax) (eVer) t10 ((2 : Int)) =
 (bif decide ((↑t8.length : Int) ≥ (4 : Int)) then
  (bif List.take 4 t8 == eMax then
   (gd [decide (inK .i64 ((2 : Int) + (1 : Int))), decide ((4 : Int) ≤ (↑t8.length : Int))] (hrparts_2 n (t0) (t3_0) (t3_1) (t3_2) (t3_3) (t3_4) (t3_5) (t3_6) (t3_7) (t3_8) (t3_9) (t4_0) (t4_1) (t4_2) (t4_3) (t4_4) (t4_5) (t4_6) (t4_7) (t4_8) (t4_9) (t5) (t6_0) (t6_1) (t6_2) (t6_3) (t7) (t8) (ePre) (eAft) (eMax) (eVer) ((2 : Int)) ((3 : Int))))
  else
   (gd [decide (inK .i64 ((2 : Int) + (1 : Int))), decide ((4 : Int) ≤ (↑t8.length : Int))] (hrparts_2 n (t0) (t3_0) (t3_1) (t3_2) (t3_3) (t3_4) (t3_5) (t3_6) (t3_7) (t3_8) (t3_9) (t4_0) (t4_1) (t4_2) (t4_3) (t4_4) (t4_5) (t4_6) (t4_7) (t4_8) (t4_9) (t5) (t6_0) (t6_1) (t6_2) (t6_3) (t7) (t8) (ePre) (eAft) (eMax) (eVer) (t10) ((3 : Int)))))
 else
  (gd [decide (inK .i64 ((2 : Int) + (1 : Int)))] (hrparts_2 n (t0) (t3_0) (t3_1) (t3_2) (t3_3) (t3_4) (t3_5) (t3_6) (t3_7) (t3_8) (t3_9) (t4_0) (t4_1) (t4_2) (t4_3) (t4_4) (t4_5) (t4_6) (t4_7) (t4_8) (t4_9) (t5) (t6_0) (t6_1) (t6_2) (t6_3) (t7) (t8) (ePre) (eAft) (eMax) (eVer) (t10) ((3 : Int))))) := by kernel_rfl
theorem erparts_2_3 (n : Nat) (t0 : List UInt8) (t3_0 : Int) (t3_1 : List UInt8) (t3_2 : Int) (t3_3 : List UInt8) (t3_4 : Int) (t3_5 : List UInt8) (t3_6 : List UInt8) (t3_7 : List UInt8) (t3_8 : Int) (t3_9 : Bool) (t4_0 : Int) (t4_1 : List UInt8) (t4_2 : Int) (t4_3 : List UInt8) (t4_4 : Int) (t4_5 : List UInt8) (t4_6 : List UInt8) (t4_7 : List UInt8) (t4_8 : Int) (t4_9 : Bool) (t5 : Bool) (t6_0 : Bool) (t6_1 : Bool) (t6_2 : Bool) (t6_3 : Bool) (t7 : Int) (t8 : List UInt8) (t10 : Int) : hrparts_2 (n + 1) t0 t3_0 t3_1 t3_2 t3_3 t3_4 t3_5 t3_6 t3_7 t3_8 t3_9 t4_0 t4_1 t4_2 t4_3 t4_4 t4_5 t4_6 t4_7 t4_8 t4_9 t5 t6_0 t6_1 t6_2 t6_3 t7 t8 (ePre) (eAft) (eMax) (eVer) t10 ((3 : Int)) =
 (bif decide ((↑t8.length : Int) ≥ (9 : Int)) then
  (bif List.take 9 t8 == eVer then
   (gd [decide (inK .i64 ((3 : Int) + (1 : Int))), decide ((9 : Int) ≤ (↑t8.length : Int))] (hrparts_2 n (t0) (t3_0) (t3_1) (t3_2) (t3_3) (t3_4) (t3_5) (t3_6) (t3_7) (t3_8) (t3_9) (t4_0) (t4_1) (t4_2) (t4_3) (t4_4) (t4_5) (t4_6) (t4_7) (t4_8) (t4_9) (t5) (t6_0) (t6_1) (t6_2) (t6_3) (t7) (t8) (ePre) (eAft) (eMax) (eVer) ((3 : Int)) ((4 : Int))))
  else
   (gd [decide (inK .i64 ((3 : Int) + (1 : Int))), decide ((9 : Int) ≤ (↑t8.length : Int))] (hrparts_2 n (t0) (t3_0) (t3_1) (t3_2) (t3_3) (t3_4) (t3_5) (t3_6) (t3_7) (t3_8) (t3_9) (t4_0) (t4_1) (t4_2) (t4_3) (t4_4) (t4_5) (t4_6) (t4_7) (t4_8) (t4_9) (t5) (t6_0) (t6_1) (t6_2) (t6_3) (t7) (t8) (ePre) (eAft) (eMax) (eVer) (t10) ((4 : Int)))))
 else
  (gd [decide (inK .i64 ((3 : Int) + (1 : Int)))] (hrparts_2 n (t0) (t3_0) (t3_1) (t3_2) (t3_3) (t3_4) (t3_5) (t3_6) (t3_7) (t3_8) (t3_9) (t4_0) (t4_1) (t4_2) (t4_3) (t4_4) (t4_5) (t4_6) (t4_7) (t4_8) (t4_9) (t5) (t6_0) (t6_1) (t6_2) (t6_3) (t7) (t8) (ePre) (eAft) (eMax) (eVer) (t10) ((4 : Int))))) := by kernel_rfl
theorem erparts_2_4 (n : Nat) (t0 : List UInt8) (t3_0 : Int) (t3_1 : List UInt8) (t3_2 : Int) (t3_3 : List UInt8) (t3_4 : Int) (t3_5 : List UInt8) (t3_6 : List UInt8) (t3_7 : List UInt8) (t3_8 : Int) (t3_9 : Bool) (t4_0 : Int) (t4_1 : List UInt8) (t4_2 : Int) (t4_3 : List UInt8) (t4_4 : Int) (t4_5 : List UInt8) (t4_6 : List UInt8) (t4_7 : List UInt8) (t4_8 : Int) (t4_9 : Bool) (t5 : Bool) (t6_0 : Bool) (t6_1 : Bool) (t6_2 : Bool) (t6_3 : Bool) (t7 : Int) (t8 : List UInt8) : hrparts_2 (n + 1) t0 t3_0 t3_1 t3_2 t3_3 t3_4 t3_5 t3_6 t3_7 t3_8 t3_9 t4_0 t4_1 t4_2 t4_3 t4_4 t4_5 t4_6 t4_7 t4_8 t4_9 t5 t6_0 t6_1 t6_2 t6_3 t7 t8 (ePre) (eAft) (eMax) (eVer) ((-1 : Int)) ((4 : Int)) =
 (some ((t3_0, t3_1, t3_2, t3_3, t3_4, t3_5, t3_6, t3_7, t3_8, t3_9, ()), false, ())) := by kernel_rfl
theorem erparts_2_5 (n : Nat) (t0 : List UInt8) (t3_0 : Int) (t3_1 : List UInt8) (t3_2 : Int) (t3_3 : List UInt8) (t3_4 : Int) (t3_5 : List UInt8) (t3_6 : List UInt8) (t3_7 : List UInt8) (t3_8 : Int) (t3_9 : Bool) (t4_0 : Int) (t4_1 : List UInt8) (t4_2 : Int) (t4_3 : List UInt8) (t4_4 : Int) (t4_5 : List UInt8) (t4_6 : List UInt8) (t4_7 : List UInt8) (t4_8 : Int) (t4_9 : Bool) (t5 : Bool) (t6_0 : Bool) (t6_1 : Bool) (t6_2 : Bool) (t6_3 : Bool) (t7 : Int) (t8 : List UInt8) : hrparts_2 (n + 1) t0 t3_0 t3_1 t3_2 t3_3 t3_4 t3_5 t3_6 t3_7 t3_8 t3_9 t4_0 t4_1 t4_2 t4_3 t4_4 t4_5 t4_6 t4_7 t4_8 t4_9 t5 t6_0 t6_1 t6_2 t6_3 t7 t8 (ePre) (eAft) (eMax) (eVer) ((0 : Int)) ((4 : Int)) =
 (bif t6_0 then
  (some ((t3_0, t3_1, t3_2, t3_3, t3_4, t3_5, t3_6, t3_7, t3_8, t3_9, ()), false, ()))
 else
  (gd [decide ((7 : Int) ≤ (↑t8.length : Int))] (bif keyB (List.drop 7 t8) then
   (gd [bndS (List.drop 7 t8)] (bif t7 == (↑t0.length : Int) then
    (some ((t3_0, t3_1, t3_2, t3_3, t3_4, t3_5, List.drop 7 t8, t3_7, t3_8, t3_9, ()), true, ()))
   else
    (gd [decide ((0 : Int) ≤ t7 + (1 : Int)), decide (t7 + (1 : Int) ≤ (↑t0.length : Int)), decide (inK .i64 (t7 + (1 : Int)))] (hrparts_0 n (List.drop (t7 + (1 : Int)).toNat t0) (t3_0) (t3_1) (t3_2) (t3_3) (t3_4) (t3_5) (List.drop 7 t8) (t3_7) (t3_8) (t3_9) (t4_0) (t4_1) (t4_2) (t4_3) (t4_4) (t4_5) (t4_6) (t4_7) (t4_8) (t4_9) (t5) (true) (t6_1) (t6_2) (t6_3)))))
  else
   (gd [bndS (List.drop 7 t8)] (some ((t3_0, t3_1, t3_2, t3_3, t3_4, t3_5, List.drop 7 t8, t3_7, t3_8, t3_9, ()), false, ())))))) := by kernel_rfl
theorem erparts_2_6 (n : Nat) (t0 : List UInt8) (t3_0 : Int) (t3_1 : List UInt8) (t3_2 : Int) (t3_3 : List UInt8) (t3_4 : Int) (t3_5 : List UInt8) (t3_6 : List UInt8) (t3_7 : List UInt8) (t3_8 : Int) (t3_9 : Bool) (t4_0 : Int) (t4_1 : List UInt8) (t4_2 : Int) (t4_3 : List UInt8) (t4_4 : Int) (t4_5 : List UInt8) (t4_6 : List UInt8) (t4_7 : List UInt8) (t4_8 : Int) (t4_9 : Bool) (t5 : Bool) (t6_0 : Bool) (t6_1 : Bool) (t6_2 : Bool) (t6_3 : Bool) (t7 : Int) (t8 : List UInt8) : hrparts_2 (n + 1) t0 t3_0 t3_1 t3_2 t3_3 t3_4 t3_5 t3_6 t3_7 t3_8 t3_9 t4_0 t4_1 t4_2 t4_3 t4_4 t4_5 t4_6 t4_7 t4_8 t4_9 t5 t6_0 t6_1 t6_2 t6_3 t7 t8 (ePre) (eAft) (eMax) (eVer) ((1 : Int)) ((4 : Int)) =
 (bif t6_1 then
  (some ((t3_0, t3_1, t3_2, t3_3, t3_4, t3_5, t3_6, t3_7, t3_8, t3_9, ()), false, ()))
 else
  (gd [decide ((6 : Int) ≤ (↑t8.length : Int))] (bif keyB (List.drop 6 t8) then
   (gd [bndS (List.drop 6 t8)] (bif t7 == (↑t0.length : Int) then
    (some ((t3_0, t3_1, t3_2, t3_3, t3_4, t3_5, t3_6, List.drop 6 t8, t3_8, t3_9, ()), true, ()))
   else
    (gd [decide ((0 : Int) ≤ t7 + (1 : Int)), decide (t7 + (1 : Int) ≤ (↑t0.length : Int)), decide (inK .i64 (t7 + (1 : Int)))] (hrparts_0 n (List.drop (t7 + (1 : Int)).toNat t0) (t3_0) (t3_1) (t3_2) (t3_3) (t3_4) (t3_5) (t3_6) (List.drop 6 t8) (t3_8) (t3_9) (t4_0) (t4_1) (t4_2) (t4_3) (t4_4) (t4_5) (t4_6) (t4_7) (t4_8) (t4_9) (t5) (t6_0) (true) (t6_2) (t6_3)))))
  else
   (gd [bndS (List.drop 6 t8)] (some ((t3_0, t3_1, t3_2, t3_3, t3_4, t3_5, t3_6, List.drop 6 t8, t3_8, t3_9, ()), false, ())))))) := by kernel_rfl
theorem erparts_2_7 (n : Nat) (t0 : List UInt8) (t3_0 : Int) (t3_1 : List UInt8) (t3_2 : Int) (t3_3 : List UInt8) (t3_4 : Int) (t3_5 : List UInt8) (t3_6 : List UInt8) (t3_7 : List UInt8) (t3_8 : Int) (t3_9 : Bool) (t4_0 : Int) (t4_1 : List UInt8) (t4_2 : Int) (t4_3 : List UInt8) (t4_4 : Int) (t4_5 : List UInt8) (t4_6 : List UInt8) (t4_7 : List UInt8) (t4_8 : Int) (t4_9 : Bool) (t5 : Bool) (t6_0 : Bool) (t6_1 : Bool) (t6_2 : Bool) (t6_3 : Bool) (t7 : Int) (t8 : List UInt8) : hrparts_2 (n + 1) t0 t3_0 t3_1 t3_2 t3_3 t3_4 t3_5 t3_6 t3_7 t3_8 t3_9 t4_0 t4_1 t4_2 t4_3 t4_4 t4_5 t4_6 t4_7 t4_8 t4_9 t5 t6_0 t6_1 t6_2 t6_3 t7 t8 (ePre) (eAft) (eMax) (eVer) ((2 : Int)) ((4 : Int)) =
 (bif t6_2 then
  (some ((t3_0, t3_1, t3_2, t3_3, t3_4, t3_5, t3_6, t3_7, t3_8, t3_9, ()), false, ()))
 else
  (gd [decide ((4 : Int) ≤ (↑t8.length : Int))] (bif (refNum (List.drop 4 t8) ((2 : Int))).snd then
   (gd [refNumP (List.drop 4 t8) ((2 : Int))] (bif decide ((refNum (List.drop 4 t8) ((2 : Int))).fst < (1 : Int)) then
    (some ((t3_0, t3_1, t3_2, t3_3, t3_4, t3_5, t3_6, t3_7, t3_8, t3_9, ()), false, ()))
   else
    (bif decide ((refNum (List.drop 4 t8) ((2 : Int))).fst > (20 : Int)) then
     (some ((t3_0, t3_1, t3_2, t3_3, t3_4, t3_5, t3_6, t3_7, t3_8, t3_9, ()), false, ()))
    else
     (bif t7 == (↑t0.length : Int) then
      (some ((t3_0, t3_1, t3_2, t3_3, t3_4, t3_5, t3_6, t3_7, (refNum (List.drop 4 t8) ((2 : Int))).fst, t3_9, ()), true, ()))
     else
      (gd [decide ((0 : Int) ≤ t7 + (1 : Int)), decide (t7 + (1 : Int) ≤ (↑t0.length : Int)), decide (inK .i64 (t7 + (1 : Int)))] (hrparts_0 n (List.drop (t7 + (1 : Int)).toNat t0) (t3_0) (t3_1) (t3_2) (t3_3) (t3_4) (t3_5) (t3_6) (t3_7) ((refNum (List.drop 4 t8) ((2 : Int))).fst) (t3_9) (t4_0) (t4_1) (t4_2) (t4_3) (t4_4) (t4_5) (t4_6) (t4_7) (t4_8) (t4_9) (t5) (t6_0) (t6_1) (true) (t6_3)))))))
  else
   (gd [refNumP (List.drop 4 t8) ((2 : Int))] (some ((t3_0, t3_1, t3_2, t3_3, t3_4, t3_5, t3_6, t3_7, t3_8, t3_9, ()), false, ())))))) := by kernel_rfl
theorem erparts_2_8 (n : Nat) (t0 : List UInt8) (t3_0 : Int) (t3_1 : List UInt8) (t3_2 : Int) (t3_3 : List UInt8) (t3_4 : Int) (t3_5 : List UInt8) (t3_6 : List UInt8) (t3_7 : List UInt8) (t3_8 : Int) (t3_9 : Bool) (t4_0 : Int) (t4_1 : List UInt8) (t4_2 : Int) (t4_3 : List UInt8) (t4_4 : Int) (t4_5 : List UInt8) (t4_6 : List UInt8) (t4_7 : List UInt8) (t4_8 : Int) (t4_9 : Bool) (t5 : Bool) (t6_0 : Bool) (t6_1 : Bool) (t6_2 : Bool) (t6_3 : Bool) (t7 : Int) (t8 : List UInt8) : hrparts_2 (n + 1) t0 t3_0 t3_1 t3_2 t3_3 t3_4 t3_5 t3_6 t3_7 t3_8 t3_9 t4_0 t4_1 t4_2 t4_3 t4_4 t4_5 t4_6 t4_7 t4_8 t4_9 t5 t6_0 t6_1 t6_2 t6_3 t7 t8 (ePre) (eAft) (eMax) (eVer) ((3 : Int)) ((4 : Int)) =
 (bif t6_3 then
  (some ((t3_0, t3_1, t3_2, t3_3, t3_4, t3_5, t3_6, t3_7, t3_8, t3_9, ()), false, ()))
 else
  (gd [decide ((9 : Int) ≤ (↑t8.length : Int))] (bif !List.drop 9 t8 == [49] then
   (some ((t3_0, t3_1, t3_2, t3_3, t3_4, t3_5, t3_6, t3_7, t3_8, t3_9, ()), false, ()))
  else
   (bif t7 == (↑t0.length : Int) then
    (some (((5 : Int), t3_1, t3_2, t3_3, t3_4, t3_5, t3_6, t3_7, t3_8, t3_9, ()), true, ()))
   else
    (gd [decide ((0 : Int) ≤ t7 + (1 : Int)), decide (t7 + (1 : Int) ≤ (↑t0.length : Int)), decide (inK .i64 (t7 + (1 : Int)))] (hrparts_0 n (List.drop (t7 + (1 : Int)).toNat t0) ((5 : Int)) (t3_1) (t3_2) (t3_3) (t3_4) (t3_5) (t3_6) (t3_7) (t3_8) (t3_9) (t4_0) (t4_1) (t4_2) (t4_3) (t4_4) (t4_5) (t4_6) (t4_7) (t4_8) (t4_9) (t5) (t6_0) (t6_1) (t6_2) (true))))))) := by kernel_rfl
theorem erparts_0 (n : Nat) (t0 : List UInt8) (t3_0 : Int) (t3_1 : List UInt8) (t3_2 : Int) (t3_3 : List UInt8) (t3_4 : Int) (t3_5 : List UInt8) (t3_6 : List UInt8) (t3_7 : List UInt8) (t3_8 : Int) (t3_9 : Bool) (t4_0 : Int) (t4_1 : List UInt8) (t4_2 : Int) (t4_3 : List UInt8) (t4_4 : Int) (t4_5 : List UInt8) (t4_6 : List UInt8) (t4_7 : List UInt8) (t4_8 : Int) (t4_9 : Bool) (t5 : Bool) (t6_0 : Bool) (t6_1 : Bool) (t6_2 : Bool) (t6_3 : Bool) : hrparts_0 (n + 1) t0 t3_0 t3_1 t3_2 t3_3 t3_4 t3_5 t3_6 t3_7 t3_8 t3_9 t4_0 t4_1 t4_2 t4_3 t4_4 t4_5 t4_6 t4_7 t4_8 t4_9 t5 t6_0 t6_1 t6_2 t6_3 =
 (hrparts_1 n (t0) (t3_0) (t3_1) (t3_2) (t3_3) (t3_4) (t3_5) (t3_6) (t3_7) (t3_8) (t3_9) (t4_0) (t4_1) (t4_2) (t4_3) (t4_4) (t4_5) (t4_6) (t4_7) (t4_8) (t4_9) (t5) (t6_0) (t6_1) (t6_2) (t6_3) ((0 : Int))) := by kernel_rfl
theorem erparts_1 (n : Nat) (t0 : List UInt8) (t3_0 : Int) (t3_1 : List UInt8) (t3_2 : Int) (t3_3 : List UInt8) (t3_4 : Int) (t3_5 : List UInt8) (t3_6 : List UInt8) (t3_7 : List UInt8) (t3_8 : Int) (t3_9 : Bool) (t4_0 : Int) (t4_1 : List UInt8) (t4_2 : Int) (t4_3 : List UInt8) (t4_4 : Int) (t4_5 : List UInt8) (t4_6 : List UInt8) (t4_7 : List UInt8) (t4_8 : Int) (t4_9 : Bool) (t5 : Bool) (t6_0 : Bool) (t6_1 : Bool) (t6_2 : Bool) (t6_3 : Bool) (t7 : Int) : hrparts_1 (n + 1) t0 t3_0 t3_1 t3_2 t3_3 t3_4 t3_5 t3_6 t3_7 t3_8 t3_9 t4_0 t4_1 t4_2 t4_3 t4_4 t4_5 t4_6 t4_7 t4_8 t4_9 t5 t6_0 t6_1 t6_2 t6_3 t7 =
 (bif decide (t7 < (↑t0.length : Int)) then
  (bif (↑(t0.getD t7.toNat 0).toNat : Int) != (38 : Int) then
   (gd [decide (inK .i64 (t7 + (1 : Int))), decide ((0 : Int) ≤ t7), decide (t7 < (↑t0.length : Int))] (hrparts_1 n (t0) (t3_0) (t3_1) (t3_2) (t3_3) (t3_4) (t3_5) (t3_6) (t3_7) (t3_8) (t3_9) (t4_0) (t4_1) (t4_2) (t4_3) (t4_4) (t4_5) (t4_6) (t4_7) (t4_8) (t4_9) (t5) (t6_0) (t6_1) (t6_2) (t6_3) (t7 + (1 : Int))))
  else
   (gd [decide ((0 : Int) ≤ t7), decide (t7 ≤ (↑t0.length : Int)), decide ((0 : Int) ≤ t7), decide (t7 < (↑t0.length : Int))] (hrparts_2 n (t0) (t3_0) (t3_1) (t3_2) (t3_3) (t3_4) (t3_5) (t3_6) (t3_7) (t3_8) (t3_9) (t4_0) (t4_1) (t4_2) (t4_3) (t4_4) (t4_5) (t4_6) (t4_7) (t4_8) (t4_9) (t5) (t6_0) (t6_1) (t6_2) (t6_3) (t7) (List.take t7.toNat t0) (ePre) (eAft) (eMax) (eVer) (Int.negSucc 0) ((0 : Int)))))
 else
  (gd [decide ((0 : Int) ≤ t7), decide (t7 ≤ (↑t0.length : Int))] (hrparts_2 n (t0) (t3_0) (t3_1) (t3_2) (t3_3) (t3_4) (t3_5) (t3_6) (t3_7) (t3_8) (t3_9) (t4_0) (t4_1) (t4_2) (t4_3) (t4_4) (t4_5) (t4_6) (t4_7) (t4_8) (t4_9) (t5) (t6_0) (t6_1) (t6_2) (t6_3) (t7) (List.take t7.toNat t0) (ePre) (eAft) (eMax) (eVer) (Int.negSucc 0) ((0 : Int))))) := by kernel_rfl
end Go.Proofs.YtpdbgpkedehpgaaGreatDoor
namespace Go.Proofs.YtpdbgpkedehpgaaGreatDoor
open Go Go.Eng Nice
set_option maxRecDepth 1000000
abbrev shaOfGet : List (Nat × List (Nat × Sh)) := []
noncomputable def oaOfGet (x : DenL [ReqT]) : Option (DenL [AskT, .int .i64]) := fO Tryz.prog (envS [(75, hasPreS), (53, listedS), (54, keyedGS)]) (shOf shaOfGet) Tryz.f37 [ReqT] [AskT, .int .i64] x
theorem eaOfGet_g (N : Nat) (x1 x2 : List UInt8) (x3 : List (List UInt8 × List UInt8 × Unit)) (x4 : List UInt8) : fON Tryz.prog (envS [(75, hasPreS), (53, listedS), (54, keyedGS)]) (shOf shaOfGet) Tryz.f37 [ReqT] [AskT, .int .i64] N ((getW, x1, x2, x3, x4, ()), ()) =
 (bif x1 == oW then
  (bif (listedN zAsk x2).snd then
   (gd [shortS x2] (bif !x4 == [] then
    (some (zAsk, (400 : Int), ()))
   else
    (some ((listedN zAsk x2).fst, (0 : Int), ()))))
  else
   (gd [shortS x2] (some (zAsk, (400 : Int), ()))))
 else
  (bif x1 == ooW then
   (bif (listedN zAsk x2).snd then
    (gd [shortS x2] (bif !x4 == [] then
     (some (zAsk, (400 : Int), ()))
    else
     (some ((listedN zAsk x2).fst, (0 : Int), ()))))
   else
    (gd [shortS x2] (some (zAsk, (400 : Int), ()))))
  else
   (bif !hasPre x1 ooW then
    (some (zAsk, (404 : Int), ()))
   else
    (gd [decide ((3 : Int) ≤ (↑x1.length : Int))] (bif (keyedG ((0 : Int), List.drop 3 x1, (0 : Int), [], (0 : Int), [], [], [], (0 : Int), false, ()) getW x2 x3 x4).snd then
     (gd [condsP x3 && (bndS x2 && bndS (List.drop 3 x1))] (bif !x4 == [] then
      (some (zAsk, (400 : Int), ()))
     else
      (some ((keyedG ((0 : Int), List.drop 3 x1, (0 : Int), [], (0 : Int), [], [], [], (0 : Int), false, ()) getW x2 x3 x4).fst, (0 : Int), ()))))
    else
     (gd [condsP x3 && (bndS x2 && bndS (List.drop 3 x1))] (some (zAsk, (400 : Int), ())))))))) := by kernel_rfl
theorem oaOfGet_g (x : DenL [ReqT]) : oaOfGet x = fON Tryz.prog (envS [(75, hasPreS), (53, listedS), (54, keyedGS)]) (shOf shaOfGet) Tryz.f37 [ReqT] [AskT, .int .i64] heads0 x := rfl
abbrev shrOfGet : List (Nat × List (Nat × Sh)) := []
noncomputable def orOfGet (x : DenL [ReqT]) : Option (DenL [AskT, .int .i64]) := fO Tryz.prog (envS [(44, isKeyS), (49, refNumS), (55, partsS), (56, rcondsS)]) (shOf shrOfGet) Tryz.f38 [ReqT] [AskT, .int .i64] x
theorem erOfGet_g (N : Nat) (x1 x2 : List UInt8) (x3 : List (List UInt8 × List UInt8 × Unit)) (x4 : List UInt8) : fON Tryz.prog (envS [(44, isKeyS), (49, refNumS), (55, partsS), (56, rcondsS)]) (shOf shrOfGet) Tryz.f38 [ReqT] [AskT, .int .i64] N ((getW, x1, x2, x3, x4, ()), ()) =
 (bif x1 == oW then
  (bif !x4 == [] then
   (some (zAsk, (400 : Int), ()))
  else
   (bif (partsN x2 ((4 : Int), [], (0 : Int), [], (0 : Int), [], [], [], (20 : Int), false, ())).snd then
    (gd [bndS x2] (some ((partsN x2 ((4 : Int), [], (0 : Int), [], (0 : Int), [], [], [], (20 : Int), false, ())).fst, (0 : Int), ())))
   else
    (gd [bndS x2] (some (zAsk, (400 : Int), ())))))
 else
  (bif x1 == ooW then
   (bif !x4 == [] then
    (some (zAsk, (400 : Int), ()))
   else
    (bif (partsN x2 ((4 : Int), [], (0 : Int), [], (0 : Int), [], [], [], (20 : Int), false, ())).snd then
     (gd [bndS x2] (some ((partsN x2 ((4 : Int), [], (0 : Int), [], (0 : Int), [], [], [], (20 : Int), false, ())).fst, (0 : Int), ())))
    else
     (gd [bndS x2] (some (zAsk, (400 : Int), ())))))
  else
   (bif decide ((↑x1.length : Int) < (4 : Int)) then
    (some (zAsk, (404 : Int), ()))
   else
    (bif !List.take 3 x1 == ooW then
     (gd [decide ((3 : Int) ≤ (↑x1.length : Int))] (some (zAsk, (404 : Int), ())))
    else
     (gd [decide ((3 : Int) ≤ (↑x1.length : Int))] (bif !x4 == [] then
      (some (zAsk, (400 : Int), ()))
     else
      (gd [decide ((3 : Int) ≤ (↑x1.length : Int))] (bif isKey (List.drop 3 x1) then
       (gd [bndS (List.drop 3 x1)] (bif !x2 == [] then
        (bif decide ((↑x2.length : Int) ≤ (8 : Int)) then
         (some (zAsk, (400 : Int), ()))
        else
         (bif !List.take 8 x2 == vPre then
          (gd [decide ((8 : Int) ≤ (↑x2.length : Int))] (some (zAsk, (400 : Int), ())))
         else
          (bif (↑(x2.getD 8 0).toNat : Int) == (48 : Int) then
           (gd [decide ((8 : Int) < (↑x2.length : Int)), decide ((8 : Int) ≤ (↑x2.length : Int))] (some (zAsk, (400 : Int), ())))
          else
           (gd [decide ((8 : Int) < (↑x2.length : Int)), decide ((8 : Int) ≤ (↑x2.length : Int))] (bif (refNum (List.drop 8 x2) ((13 : Int))).snd then
            (gd [refNumP (List.drop 8 x2) ((13 : Int)), decide ((8 : Int) ≤ (↑x2.length : Int))] (bif decide ((refNum (List.drop 8 x2) ((13 : Int))).fst < (1 : Int)) then
             (some (zAsk, (400 : Int), ()))
            else
             (bif decide ((refNum (List.drop 8 x2) ((13 : Int))).fst > (1099511627776 : Int)) then
              (some (zAsk, (400 : Int), ()))
             else
              (some (((1 : Int), List.drop 3 x1, (refNum (List.drop 8 x2) ((13 : Int))).fst, [], (0 : Int), [], [], [], (0 : Int), false, ()), (0 : Int), ())))))
           else
            (gd [refNumP (List.drop 8 x2) ((13 : Int)), decide ((8 : Int) ≤ (↑x2.length : Int))] (some (zAsk, (400 : Int), ()))))))))
       else
        (some (((1 : Int), List.drop 3 x1, (0 : Int), [], (0 : Int), [], [], [], (0 : Int), false, ()), (0 : Int), ()))))
      else
       (gd [bndS (List.drop 3 x1)] (some (zAsk, (400 : Int), ()))))))))))) := by kernel_rfl
theorem orOfGet_g (x : DenL [ReqT]) : orOfGet x = fON Tryz.prog (envS [(44, isKeyS), (49, refNumS), (55, partsS), (56, rcondsS)]) (shOf shrOfGet) Tryz.f38 [ReqT] [AskT, .int .i64] heads0 x := rfl
abbrev shaOfHead : List (Nat × List (Nat × Sh)) := []
noncomputable def oaOfHead (x : DenL [ReqT]) : Option (DenL [AskT, .int .i64]) := fO Tryz.prog (envS [(75, hasPreS), (53, listedS), (54, keyedGS)]) (shOf shaOfHead) Tryz.f37 [ReqT] [AskT, .int .i64] x
theorem eaOfHead_g (N : Nat) (x1 x2 : List UInt8) (x3 : List (List UInt8 × List UInt8 × Unit)) (x4 : List UInt8) : fON Tryz.prog (envS [(75, hasPreS), (53, listedS), (54, keyedGS)]) (shOf shaOfHead) Tryz.f37 [ReqT] [AskT, .int .i64] N ((headW, x1, x2, x3, x4, ()), ()) =
 (bif x1 == oW then
  (bif (listedN ((0 : Int), [], (0 : Int), [], (0 : Int), [], [], [], (0 : Int), true, ()) x2).snd then
   (gd [shortS x2] (bif !x4 == [] then
    (some (zAsk, (400 : Int), ()))
   else
    (some ((listedN ((0 : Int), [], (0 : Int), [], (0 : Int), [], [], [], (0 : Int), true, ()) x2).fst, (0 : Int), ()))))
  else
   (gd [shortS x2] (some (zAsk, (400 : Int), ()))))
 else
  (bif x1 == ooW then
   (bif (listedN ((0 : Int), [], (0 : Int), [], (0 : Int), [], [], [], (0 : Int), true, ()) x2).snd then
    (gd [shortS x2] (bif !x4 == [] then
     (some (zAsk, (400 : Int), ()))
    else
     (some ((listedN ((0 : Int), [], (0 : Int), [], (0 : Int), [], [], [], (0 : Int), true, ()) x2).fst, (0 : Int), ()))))
   else
    (gd [shortS x2] (some (zAsk, (400 : Int), ()))))
  else
   (bif !hasPre x1 ooW then
    (some (zAsk, (404 : Int), ()))
   else
    (gd [decide ((3 : Int) ≤ (↑x1.length : Int))] (bif (keyedG ((0 : Int), List.drop 3 x1, (0 : Int), [], (0 : Int), [], [], [], (0 : Int), true, ()) headW x2 x3 x4).snd then
     (gd [condsP x3 && (bndS x2 && bndS (List.drop 3 x1))] (bif !x4 == [] then
      (some (zAsk, (400 : Int), ()))
     else
      (some ((keyedG ((0 : Int), List.drop 3 x1, (0 : Int), [], (0 : Int), [], [], [], (0 : Int), true, ()) headW x2 x3 x4).fst, (0 : Int), ()))))
    else
     (gd [condsP x3 && (bndS x2 && bndS (List.drop 3 x1))] (some (zAsk, (400 : Int), ())))))))) := by kernel_rfl
theorem oaOfHead_g (x : DenL [ReqT]) : oaOfHead x = fON Tryz.prog (envS [(75, hasPreS), (53, listedS), (54, keyedGS)]) (shOf shaOfHead) Tryz.f37 [ReqT] [AskT, .int .i64] heads0 x := rfl
abbrev shrOfHead : List (Nat × List (Nat × Sh)) := []
noncomputable def orOfHead (x : DenL [ReqT]) : Option (DenL [AskT, .int .i64]) := fO Tryz.prog (envS [(44, isKeyS), (49, refNumS), (55, partsS), (56, rcondsS)]) (shOf shrOfHead) Tryz.f38 [ReqT] [AskT, .int .i64] x
theorem erOfHead_g (N : Nat) (x1 x2 : List UInt8) (x3 : List (List UInt8 × List UInt8 × Unit)) (x4 : List UInt8) : fON Tryz.prog (envS [(44, isKeyS), (49, refNumS), (55, partsS), (56, rcondsS)]) (shOf shrOfHead) Tryz.f38 [ReqT] [AskT, .int .i64] N ((headW, x1, x2, x3, x4, ()), ()) =
 (bif x1 == oW then
  (bif !x4 == [] then
   (some (zAsk, (400 : Int), ()))
  else
   (bif (partsN x2 ((4 : Int), [], (0 : Int), [], (0 : Int), [], [], [], (20 : Int), true, ())).snd then
    (gd [bndS x2] (some ((partsN x2 ((4 : Int), [], (0 : Int), [], (0 : Int), [], [], [], (20 : Int), true, ())).fst, (0 : Int), ())))
   else
    (gd [bndS x2] (some (zAsk, (400 : Int), ())))))
 else
  (bif x1 == ooW then
   (bif !x4 == [] then
    (some (zAsk, (400 : Int), ()))
   else
    (bif (partsN x2 ((4 : Int), [], (0 : Int), [], (0 : Int), [], [], [], (20 : Int), true, ())).snd then
     (gd [bndS x2] (some ((partsN x2 ((4 : Int), [], (0 : Int), [], (0 : Int), [], [], [], (20 : Int), true, ())).fst, (0 : Int), ())))
    else
     (gd [bndS x2] (some (zAsk, (400 : Int), ())))))
  else
   (bif decide ((↑x1.length : Int) < (4 : Int)) then
    (some (zAsk, (404 : Int), ()))
   else
    (bif !List.take 3 x1 == ooW then
     (gd [decide ((3 : Int) ≤ (↑x1.length : Int))] (some (zAsk, (404 : Int), ())))
    else
     (gd [decide ((3 : Int) ≤ (↑x1.length : Int))] (bif !x4 == [] then
      (some (zAsk, (400 : Int), ()))
     else
      (gd [decide ((3 : Int) ≤ (↑x1.length : Int))] (bif isKey (List.drop 3 x1) then
       (gd [bndS (List.drop 3 x1)] (bif !x2 == [] then
        (bif decide ((↑x2.length : Int) ≤ (8 : Int)) then
         (some (zAsk, (400 : Int), ()))
        else
         (bif !List.take 8 x2 == vPre then
          (gd [decide ((8 : Int) ≤ (↑x2.length : Int))] (some (zAsk, (400 : Int), ())))
         else
          (bif (↑(x2.getD 8 0).toNat : Int) == (48 : Int) then
           (gd [decide ((8 : Int) < (↑x2.length : Int)), decide ((8 : Int) ≤ (↑x2.length : Int))] (some (zAsk, (400 : Int), ())))
          else
           (gd [decide ((8 : Int) < (↑x2.length : Int)), decide ((8 : Int) ≤ (↑x2.length : Int))] (bif (refNum (List.drop 8 x2) ((13 : Int))).snd then
            (gd [refNumP (List.drop 8 x2) ((13 : Int)), decide ((8 : Int) ≤ (↑x2.length : Int))] (bif decide ((refNum (List.drop 8 x2) ((13 : Int))).fst < (1 : Int)) then
             (some (zAsk, (400 : Int), ()))
            else
             (bif decide ((refNum (List.drop 8 x2) ((13 : Int))).fst > (1099511627776 : Int)) then
              (some (zAsk, (400 : Int), ()))
             else
              (some (((1 : Int), List.drop 3 x1, (refNum (List.drop 8 x2) ((13 : Int))).fst, [], (0 : Int), [], [], [], (0 : Int), true, ()), (0 : Int), ())))))
           else
            (gd [refNumP (List.drop 8 x2) ((13 : Int)), decide ((8 : Int) ≤ (↑x2.length : Int))] (some (zAsk, (400 : Int), ()))))))))
       else
        (some (((1 : Int), List.drop 3 x1, (0 : Int), [], (0 : Int), [], [], [], (0 : Int), true, ()), (0 : Int), ()))))
      else
       (gd [bndS (List.drop 3 x1)] (some (zAsk, (400 : Int), ()))))))))))) := by kernel_rfl
theorem orOfHead_g (x : DenL [ReqT]) : orOfHead x = fON Tryz.prog (envS [(44, isKeyS), (49, refNumS), (55, partsS), (56, rcondsS)]) (shOf shrOfHead) Tryz.f38 [ReqT] [AskT, .int .i64] heads0 x := rfl
abbrev shaOfPut : List (Nat × List (Nat × Sh)) := []
noncomputable def oaOfPut (x : DenL [ReqT]) : Option (DenL [AskT, .int .i64]) := fO Tryz.prog (envS [(75, hasPreS), (53, listedS), (54, keyedGS)]) (shOf shaOfPut) Tryz.f37 [ReqT] [AskT, .int .i64] x
theorem eaOfPut_g (N : Nat) (x1 x2 : List UInt8) (x3 : List (List UInt8 × List UInt8 × Unit)) (x4 : List UInt8) : fON Tryz.prog (envS [(75, hasPreS), (53, listedS), (54, keyedGS)]) (shOf shaOfPut) Tryz.f37 [ReqT] [AskT, .int .i64] N ((putW, x1, x2, x3, x4, ()), ()) =
 (bif x1 == oW then
  (some (zAsk, (405 : Int), ()))
 else
  (bif x1 == ooW then
   (some (zAsk, (405 : Int), ()))
  else
   (bif !hasPre x1 ooW then
    (some (zAsk, (404 : Int), ()))
   else
    (gd [decide ((3 : Int) ≤ (↑x1.length : Int))] (bif (keyedG ((0 : Int), List.drop 3 x1, (0 : Int), [], (0 : Int), [], [], [], (0 : Int), false, ()) putW x2 x3 x4).snd then
     (gd [condsP x3 && (bndS x2 && bndS (List.drop 3 x1))] (bif !x4 == [] then
      (some ((keyedG ((0 : Int), List.drop 3 x1, (0 : Int), [], (0 : Int), [], [], [], (0 : Int), false, ()) putW x2 x3 x4).fst, (0 : Int), ()))
     else
      (some ((keyedG ((0 : Int), List.drop 3 x1, (0 : Int), [], (0 : Int), [], [], [], (0 : Int), false, ()) putW x2 x3 x4).fst, (0 : Int), ()))))
    else
     (gd [condsP x3 && (bndS x2 && bndS (List.drop 3 x1))] (some (zAsk, (400 : Int), ())))))))) := by kernel_rfl
theorem oaOfPut_g (x : DenL [ReqT]) : oaOfPut x = fON Tryz.prog (envS [(75, hasPreS), (53, listedS), (54, keyedGS)]) (shOf shaOfPut) Tryz.f37 [ReqT] [AskT, .int .i64] heads0 x := rfl
abbrev shrOfPut : List (Nat × List (Nat × Sh)) := []
noncomputable def orOfPut (x : DenL [ReqT]) : Option (DenL [AskT, .int .i64]) := fO Tryz.prog (envS [(44, isKeyS), (49, refNumS), (55, partsS), (56, rcondsS)]) (shOf shrOfPut) Tryz.f38 [ReqT] [AskT, .int .i64] x
theorem erOfPut_g (N : Nat) (x1 x2 : List UInt8) (x3 : List (List UInt8 × List UInt8 × Unit)) (x4 : List UInt8) : fON Tryz.prog (envS [(44, isKeyS), (49, refNumS), (55, partsS), (56, rcondsS)]) (shOf shrOfPut) Tryz.f38 [ReqT] [AskT, .int .i64] N ((putW, x1, x2, x3, x4, ()), ()) =
 (bif x1 == oW then
  (some (zAsk, (405 : Int), ()))
 else
  (bif x1 == ooW then
   (some (zAsk, (405 : Int), ()))
  else
   (bif decide ((↑x1.length : Int) < (4 : Int)) then
    (some (zAsk, (404 : Int), ()))
   else
    (bif !List.take 3 x1 == ooW then
     (gd [decide ((3 : Int) ≤ (↑x1.length : Int))] (some (zAsk, (404 : Int), ())))
    else
     (gd [decide ((3 : Int) ≤ (↑x1.length : Int))] (bif !x4 == [] then
      (gd [decide ((3 : Int) ≤ (↑x1.length : Int))] (bif isKey (List.drop 3 x1) then
       (gd [bndS (List.drop 3 x1)] (bif !x2 == [] then
        (some (zAsk, (400 : Int), ()))
       else
        (gd [condsP x3] (some ((rcondsN x3 ((2 : Int), List.drop 3 x1, (0 : Int), x4, (0 : Int), [], [], [], (0 : Int), false, ())).fst, (rcondsN x3 ((2 : Int), List.drop 3 x1, (0 : Int), x4, (0 : Int), [], [], [], (0 : Int), false, ())).snd, ())))))
      else
       (gd [bndS (List.drop 3 x1)] (some (zAsk, (400 : Int), ())))))
     else
      (gd [decide ((3 : Int) ≤ (↑x1.length : Int))] (bif isKey (List.drop 3 x1) then
       (gd [bndS (List.drop 3 x1)] (bif !x2 == [] then
        (some (zAsk, (400 : Int), ()))
       else
        (gd [condsP x3] (some ((rcondsN x3 ((2 : Int), List.drop 3 x1, (0 : Int), x4, (0 : Int), [], [], [], (0 : Int), false, ())).fst, (rcondsN x3 ((2 : Int), List.drop 3 x1, (0 : Int), x4, (0 : Int), [], [], [], (0 : Int), false, ())).snd, ())))))
      else
       (gd [bndS (List.drop 3 x1)] (some (zAsk, (400 : Int), ()))))))))))) := by kernel_rfl
theorem orOfPut_g (x : DenL [ReqT]) : orOfPut x = fON Tryz.prog (envS [(44, isKeyS), (49, refNumS), (55, partsS), (56, rcondsS)]) (shOf shrOfPut) Tryz.f38 [ReqT] [AskT, .int .i64] heads0 x := rfl
abbrev shaOfDel : List (Nat × List (Nat × Sh)) := []
noncomputable def oaOfDel (x : DenL [ReqT]) : Option (DenL [AskT, .int .i64]) := fO Tryz.prog (envS [(75, hasPreS), (53, listedS), (54, keyedGS)]) (shOf shaOfDel) Tryz.f37 [ReqT] [AskT, .int .i64] x
theorem eaOfDel_g (N : Nat) (x1 x2 : List UInt8) (x3 : List (List UInt8 × List UInt8 × Unit)) (x4 : List UInt8) : fON Tryz.prog (envS [(75, hasPreS), (53, listedS), (54, keyedGS)]) (shOf shaOfDel) Tryz.f37 [ReqT] [AskT, .int .i64] N ((delW, x1, x2, x3, x4, ()), ()) =
 (bif x1 == oW then
  (some (zAsk, (405 : Int), ()))
 else
  (bif x1 == ooW then
   (some (zAsk, (405 : Int), ()))
  else
   (bif !hasPre x1 ooW then
    (some (zAsk, (404 : Int), ()))
   else
    (gd [decide ((3 : Int) ≤ (↑x1.length : Int))] (bif (keyedG ((0 : Int), List.drop 3 x1, (0 : Int), [], (0 : Int), [], [], [], (0 : Int), false, ()) delW x2 x3 x4).snd then
     (gd [condsP x3 && (bndS x2 && bndS (List.drop 3 x1))] (bif !x4 == [] then
      (some (zAsk, (400 : Int), ()))
     else
      (some ((keyedG ((0 : Int), List.drop 3 x1, (0 : Int), [], (0 : Int), [], [], [], (0 : Int), false, ()) delW x2 x3 x4).fst, (0 : Int), ()))))
    else
     (gd [condsP x3 && (bndS x2 && bndS (List.drop 3 x1))] (some (zAsk, (400 : Int), ())))))))) := by kernel_rfl
theorem oaOfDel_g (x : DenL [ReqT]) : oaOfDel x = fON Tryz.prog (envS [(75, hasPreS), (53, listedS), (54, keyedGS)]) (shOf shaOfDel) Tryz.f37 [ReqT] [AskT, .int .i64] heads0 x := rfl
abbrev shrOfDel : List (Nat × List (Nat × Sh)) := []
noncomputable def orOfDel (x : DenL [ReqT]) : Option (DenL [AskT, .int .i64]) := fO Tryz.prog (envS [(44, isKeyS), (49, refNumS), (55, partsS), (56, rcondsS)]) (shOf shrOfDel) Tryz.f38 [ReqT] [AskT, .int .i64] x
theorem erOfDel_g (N : Nat) (x1 x2 : List UInt8) (x3 : List (List UInt8 × List UInt8 × Unit)) (x4 : List UInt8) : fON Tryz.prog (envS [(44, isKeyS), (49, refNumS), (55, partsS), (56, rcondsS)]) (shOf shrOfDel) Tryz.f38 [ReqT] [AskT, .int .i64] N ((delW, x1, x2, x3, x4, ()), ()) =
 (bif x1 == oW then
  (some (zAsk, (405 : Int), ()))
 else
  (bif x1 == ooW then
   (some (zAsk, (405 : Int), ()))
  else
   (bif decide ((↑x1.length : Int) < (4 : Int)) then
    (some (zAsk, (404 : Int), ()))
   else
    (bif !List.take 3 x1 == ooW then
     (gd [decide ((3 : Int) ≤ (↑x1.length : Int))] (some (zAsk, (404 : Int), ())))
    else
     (gd [decide ((3 : Int) ≤ (↑x1.length : Int))] (bif !x4 == [] then
      (some (zAsk, (400 : Int), ()))
     else
      (gd [decide ((3 : Int) ≤ (↑x1.length : Int))] (bif isKey (List.drop 3 x1) then
       (gd [bndS (List.drop 3 x1)] (bif !x2 == [] then
        (bif decide ((↑x2.length : Int) ≤ (8 : Int)) then
         (some (zAsk, (400 : Int), ()))
        else
         (bif !List.take 8 x2 == vPre then
          (gd [decide ((8 : Int) ≤ (↑x2.length : Int))] (some (zAsk, (400 : Int), ())))
         else
          (bif (↑(x2.getD 8 0).toNat : Int) == (48 : Int) then
           (gd [decide ((8 : Int) < (↑x2.length : Int)), decide ((8 : Int) ≤ (↑x2.length : Int))] (some (zAsk, (400 : Int), ())))
          else
           (gd [decide ((8 : Int) < (↑x2.length : Int)), decide ((8 : Int) ≤ (↑x2.length : Int))] (bif (refNum (List.drop 8 x2) ((13 : Int))).snd then
            (gd [refNumP (List.drop 8 x2) ((13 : Int)), decide ((8 : Int) ≤ (↑x2.length : Int))] (bif decide ((refNum (List.drop 8 x2) ((13 : Int))).fst < (1 : Int)) then
             (some (zAsk, (400 : Int), ()))
            else
             (bif decide ((refNum (List.drop 8 x2) ((13 : Int))).fst > (1099511627776 : Int)) then
              (some (zAsk, (400 : Int), ()))
             else
              (some (((3 : Int), List.drop 3 x1, (refNum (List.drop 8 x2) ((13 : Int))).fst, [], (0 : Int), [], [], [], (0 : Int), false, ()), (0 : Int), ())))))
           else
            (gd [refNumP (List.drop 8 x2) ((13 : Int)), decide ((8 : Int) ≤ (↑x2.length : Int))] (some (zAsk, (400 : Int), ()))))))))
       else
        (some (((3 : Int), List.drop 3 x1, (0 : Int), [], (0 : Int), [], [], [], (0 : Int), false, ()), (0 : Int), ()))))
      else
       (gd [bndS (List.drop 3 x1)] (some (zAsk, (400 : Int), ()))))))))))) := by kernel_rfl
theorem orOfDel_g (x : DenL [ReqT]) : orOfDel x = fON Tryz.prog (envS [(44, isKeyS), (49, refNumS), (55, partsS), (56, rcondsS)]) (shOf shrOfDel) Tryz.f38 [ReqT] [AskT, .int .i64] heads0 x := rfl
abbrev shaOfO : List (Nat × List (Nat × Sh)) := []
noncomputable def oaOfO (x : DenL [ReqT]) : Option (DenL [AskT, .int .i64]) := fO Tryz.prog (envS [(75, hasPreS), (53, noS [AskT, .str] [AskT, .bool]), (54, noS [AskT, ReqT] [AskT, .bool])]) (shOf shaOfO) Tryz.f37 [ReqT] [AskT, .int .i64] x
theorem eaOfO_g (N : Nat) (x0 x1 x2 : List UInt8) (x3 : List (List UInt8 × List UInt8 × Unit)) (x4 : List UInt8) : fON Tryz.prog (envS [(75, hasPreS), (53, noS [AskT, .str] [AskT, .bool]), (54, noS [AskT, ReqT] [AskT, .bool])]) (shOf shaOfO) Tryz.f37 [ReqT] [AskT, .int .i64] N ((x0, x1, x2, x3, x4, ()), ()) =
 (bif x1 == oW then
  (bif x0 == getW then
   (gd [x0 == headW] (none))
  else
   (bif x0 == headW then
    (gd [x0 == headW] (none))
   else
    (bif x0 == headW then
     (some (zAsk, (405 : Int), ()))
    else
     (some (zAsk, (405 : Int), ())))))
 else
  (bif x1 == ooW then
   (bif x0 == getW then
    (gd [x0 == headW] (none))
   else
    (bif x0 == headW then
     (gd [x0 == headW] (none))
    else
     (bif x0 == headW then
      (some (zAsk, (405 : Int), ()))
     else
      (some (zAsk, (405 : Int), ())))))
  else
   (bif x0 == getW then
    (bif x0 == headW then
     (bif !hasPre x1 ooW then
      (some (zAsk, (404 : Int), ()))
     else
      (gd [decide ((3 : Int) ≤ (↑x1.length : Int))] (none)))
    else
     (bif !hasPre x1 ooW then
      (some (zAsk, (404 : Int), ()))
     else
      (gd [decide ((3 : Int) ≤ (↑x1.length : Int))] (none))))
   else
    (bif x0 == headW then
     (bif x0 == headW then
      (bif !hasPre x1 ooW then
       (some (zAsk, (404 : Int), ()))
      else
       (gd [decide ((3 : Int) ≤ (↑x1.length : Int))] (none)))
     else
      (bif !hasPre x1 ooW then
       (some (zAsk, (404 : Int), ()))
      else
       (gd [decide ((3 : Int) ≤ (↑x1.length : Int))] (none))))
    else
     (bif x0 == headW then
      (bif !hasPre x1 ooW then
       (some (zAsk, (404 : Int), ()))
      else
       (bif !x0 == putW then
        (bif !x0 == delW then
         (some (zAsk, (405 : Int), ()))
        else
         (gd [decide ((3 : Int) ≤ (↑x1.length : Int))] (none)))
       else
        (gd [decide ((3 : Int) ≤ (↑x1.length : Int))] (none))))
     else
      (bif !hasPre x1 ooW then
       (some (zAsk, (404 : Int), ()))
      else
       (bif !x0 == putW then
        (bif !x0 == delW then
         (some (zAsk, (405 : Int), ()))
        else
         (gd [decide ((3 : Int) ≤ (↑x1.length : Int))] (none)))
       else
        (gd [decide ((3 : Int) ≤ (↑x1.length : Int))] (none))))))))) := by kernel_rfl
theorem oaOfO_g (x : DenL [ReqT]) : oaOfO x = fON Tryz.prog (envS [(75, hasPreS), (53, noS [AskT, .str] [AskT, .bool]), (54, noS [AskT, ReqT] [AskT, .bool])]) (shOf shaOfO) Tryz.f37 [ReqT] [AskT, .int .i64] heads0 x := rfl
abbrev shrOfO : List (Nat × List (Nat × Sh)) := []
noncomputable def orOfO (x : DenL [ReqT]) : Option (DenL [AskT, .int .i64]) := fO Tryz.prog (envS [(44, noS [.str] [.bool]), (49, noS [.str, .int .i64] [.int .i64, .bool]), (55, noS [.str, AskT] [AskT, .bool]), (56, noS [ReqT, AskT] [AskT, .int .i64])]) (shOf shrOfO) Tryz.f38 [ReqT] [AskT, .int .i64] x
theorem erOfO_g (N : Nat) (x0 x1 x2 : List UInt8) (x3 : List (List UInt8 × List UInt8 × Unit)) (x4 : List UInt8) : fON Tryz.prog (envS [(44, noS [.str] [.bool]), (49, noS [.str, .int .i64] [.int .i64, .bool]), (55, noS [.str, AskT] [AskT, .bool]), (56, noS [ReqT, AskT] [AskT, .int .i64])]) (shOf shrOfO) Tryz.f38 [ReqT] [AskT, .int .i64] N ((x0, x1, x2, x3, x4, ()), ()) =
 (bif x1 == oW then
  (bif x0 == getW then
   (bif !x4 == [] then
    (bif !x0 == putW then
     (some (zAsk, (400 : Int), ()))
    else
     (gd [x0 == headW] (none)))
   else
    (gd [x0 == headW] (none)))
  else
   (bif x0 == headW then
    (bif !x4 == [] then
     (bif !x0 == putW then
      (some (zAsk, (400 : Int), ()))
     else
      (gd [x0 == headW] (none)))
    else
     (gd [x0 == headW] (none)))
   else
    (bif !x0 == putW then
     (bif !x0 == delW then
      (some (zAsk, (405 : Int), ()))
     else
      (some (zAsk, (405 : Int), ())))
    else
     (some (zAsk, (405 : Int), ())))))
 else
  (bif x1 == ooW then
   (bif x0 == getW then
    (bif !x4 == [] then
     (bif !x0 == putW then
      (some (zAsk, (400 : Int), ()))
     else
      (gd [x0 == headW] (none)))
    else
     (gd [x0 == headW] (none)))
   else
    (bif x0 == headW then
     (bif !x4 == [] then
      (bif !x0 == putW then
       (some (zAsk, (400 : Int), ()))
      else
       (gd [x0 == headW] (none)))
     else
      (gd [x0 == headW] (none)))
    else
     (bif !x0 == putW then
      (bif !x0 == delW then
       (some (zAsk, (405 : Int), ()))
      else
       (some (zAsk, (405 : Int), ())))
     else
      (some (zAsk, (405 : Int), ())))))
  else
   (bif x0 == getW then
    (bif decide ((↑x1.length : Int) < (4 : Int)) then
     (some (zAsk, (404 : Int), ()))
    else
     (bif !List.take 3 x1 == ooW then
      (gd [decide ((3 : Int) ≤ (↑x1.length : Int))] (some (zAsk, (404 : Int), ())))
     else
      (gd [decide ((3 : Int) ≤ (↑x1.length : Int))] (bif !x4 == [] then
       (bif !x0 == putW then
        (some (zAsk, (400 : Int), ()))
       else
        (bif x0 == headW then
         (gd [decide ((3 : Int) ≤ (↑x1.length : Int))] (none))
        else
         (gd [decide ((3 : Int) ≤ (↑x1.length : Int))] (none))))
      else
       (bif x0 == headW then
        (gd [decide ((3 : Int) ≤ (↑x1.length : Int))] (none))
       else
        (gd [decide ((3 : Int) ≤ (↑x1.length : Int))] (none)))))))
   else
    (bif x0 == headW then
     (bif decide ((↑x1.length : Int) < (4 : Int)) then
      (some (zAsk, (404 : Int), ()))
     else
      (bif !List.take 3 x1 == ooW then
       (gd [decide ((3 : Int) ≤ (↑x1.length : Int))] (some (zAsk, (404 : Int), ())))
      else
       (gd [decide ((3 : Int) ≤ (↑x1.length : Int))] (bif !x4 == [] then
        (bif !x0 == putW then
         (some (zAsk, (400 : Int), ()))
        else
         (bif x0 == headW then
          (gd [decide ((3 : Int) ≤ (↑x1.length : Int))] (none))
         else
          (gd [decide ((3 : Int) ≤ (↑x1.length : Int))] (none))))
       else
        (bif x0 == headW then
         (gd [decide ((3 : Int) ≤ (↑x1.length : Int))] (none))
        else
         (gd [decide ((3 : Int) ≤ (↑x1.length : Int))] (none)))))))
    else
     (bif decide ((↑x1.length : Int) < (4 : Int)) then
      (some (zAsk, (404 : Int), ()))
     else
      (bif !List.take 3 x1 == ooW then
       (gd [decide ((3 : Int) ≤ (↑x1.length : Int))] (some (zAsk, (404 : Int), ())))
      else
       (gd [decide ((3 : Int) ≤ (↑x1.length : Int))] (bif !x0 == putW then
        (bif !x0 == delW then
         (some (zAsk, (405 : Int), ()))
        else
         (bif !x4 == [] then
          (bif !x0 == putW then
           (some (zAsk, (400 : Int), ()))
          else
           (bif x0 == headW then
            (gd [decide ((3 : Int) ≤ (↑x1.length : Int))] (none))
           else
            (gd [decide ((3 : Int) ≤ (↑x1.length : Int))] (none))))
         else
          (bif x0 == headW then
           (gd [decide ((3 : Int) ≤ (↑x1.length : Int))] (none))
          else
           (gd [decide ((3 : Int) ≤ (↑x1.length : Int))] (none)))))
       else
        (bif !x4 == [] then
         (bif !x0 == putW then
          (some (zAsk, (400 : Int), ()))
         else
          (bif x0 == headW then
           (gd [decide ((3 : Int) ≤ (↑x1.length : Int))] (none))
          else
           (gd [decide ((3 : Int) ≤ (↑x1.length : Int))] (none))))
        else
         (bif x0 == headW then
          (gd [decide ((3 : Int) ≤ (↑x1.length : Int))] (none))
         else
          (gd [decide ((3 : Int) ≤ (↑x1.length : Int))] (none)))))))))))) := by kernel_rfl
theorem orOfO_g (x : DenL [ReqT]) : orOfO x = fON Tryz.prog (envS [(44, noS [.str] [.bool]), (49, noS [.str, .int .i64] [.int .i64, .bool]), (55, noS [.str, AskT] [AskT, .bool]), (56, noS [ReqT, AskT] [AskT, .int .i64])]) (shOf shrOfO) Tryz.f38 [ReqT] [AskT, .int .i64] heads0 x := rfl
end Go.Proofs.YtpdbgpkedehpgaaGreatDoor
