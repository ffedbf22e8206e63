/-
  The functions of heads, as equations (printed by a program). No condition.
-/
import Derived.Test.YtpdbgpkedehpgaaGreatDoorSym
import Derived.Test.YtpdbgpkedehpgaaGreatDoorNice
namespace Go.Proofs.YtpdbgpkedehpgaaGreatDoor
open Go Go.Eng Nice
set_option maxRecDepth 1000000
abbrev shcap : List (Nat × List (Nat × Sh)) := []
noncomputable def ocap (x : DenL [.byte]) : Option (DenL [.bool]) := fO Tryz.prog (envS []) (shOf shcap) Tryz.f65 [.byte] [.bool] x
theorem ecap_g (N : Nat) (x0 : UInt8) : fON Tryz.prog (envS []) (shOf shcap) Tryz.f65 [.byte] [.bool] N (x0, ()) =
  (bif decide ((↑x0.toNat:Int) ≥ (65:Int)) then
 (bif decide ((↑x0.toNat:Int) ≤ (90:Int)) then
 (some (true, ()))
 else
 (some (false, ())))
  else
 (some (false, ()))) := by kernel_rfl
theorem ocap_g (x : DenL [.byte]) : ocap x = fON Tryz.prog (envS []) (shOf shcap) Tryz.f65 [.byte] [.bool] heads0 x := rfl
abbrev shdig : List (Nat × List (Nat × Sh)) := []
noncomputable def odig (x : DenL [.byte]) : Option (DenL [.bool]) := fO Tryz.prog (envS []) (shOf shdig) Tryz.f66 [.byte] [.bool] x
theorem edig_g (N : Nat) (x0 : UInt8) : fON Tryz.prog (envS []) (shOf shdig) Tryz.f66 [.byte] [.bool] N (x0, ()) =
  (bif decide ((↑x0.toNat:Int) ≥ (48:Int)) then
 (bif decide ((↑x0.toNat:Int) ≤ (57:Int)) then
 (some (true, ()))
 else
 (some (false, ())))
  else
 (some (false, ()))) := by kernel_rfl
theorem odig_g (x : DenL [.byte]) : odig x = fON Tryz.prog (envS []) (shOf shdig) Tryz.f66 [.byte] [.bool] heads0 x := rfl
abbrev shslower : List (Nat × List (Nat × Sh)) := [(3, [(2, (.one .sym)), (3, (.one (.vec .byte 5))), (8, (.one (.same 0))), (9, (.one .sym)), (10, (.one .sym))])]
noncomputable def hslower_0 (n : Nat) (t2 : List UInt8) (t3 : List (Ty.Den .byte)) (t9:Int) (t10:Int) : Option (DenL [.str]) := rH Tryz.prog (envS [(65, capS)]) (shOf shslower) Tryz.f48 [.str] n 0 [(2, sy (.string (bs t2))), (3, dt 9), (8, dt 9), (9, sy (.int .i64 t9)), (10, sy (.int .i64 t10))] [.vec .byte t3 5]
noncomputable def oslower (x : DenL [.str]) : Option (DenL [.str]) := fO Tryz.prog (envS [(65, capS)]) (shOf shslower) Tryz.f48 [.str] [.str] x
theorem eslower_g (N : Nat) (x0 : List UInt8) : fON Tryz.prog (envS [(65, capS)]) (shOf shslower) Tryz.f48 [.str] [.str] N (x0, ()) =
  (hslower_0 N ([]) (x0) ((↑x0.length:Int)) ((0:Int))) := by kernel_rfl
theorem oslower_g (x : DenL [.str]) : oslower x = fON Tryz.prog (envS [(65, capS)]) (shOf shslower) Tryz.f48 [.str] [.str] heads0 x := rfl
theorem eslower_0 (n : Nat) (t2 : List UInt8) (t3 : List (Ty.Den .byte)) (t9:Int) (t10:Int) : hslower_0 (n + 1) t2 t3 t9 t10 =
  (bif decide (t10 < t9) then
 (gd [decide (t10.toNat < t3.length), decide ((0:Int) ≤ t10), decide (t10 < (↑t3.length:Int))] (bif isCap (UInt8.ofNat (↑(UInt8.toNat (t3.getD t10.toNat Ty.byte.dflt)):Int).toNat) then
 (gd [decide (inK .i64 (t10 + (1:Int))), decide (t10.toNat < t3.length), decide (inK .u8 (IntKind.u8.wrap (IntKind.u8.wrap ((↑(UInt8.toNat (t3.getD t10.toNat Ty.byte.dflt)):Int) + (97:Int)) - (65:Int)))), decide ((0:Int) ≤ t10), decide (t10 < (↑t3.length:Int)), decide (inK .u8 (↑(UInt8.toNat (t3.getD t10.toNat Ty.byte.dflt)):Int))] (hslower_0 n (t2) (t3.set t10.toNat (UInt8.ofNat (IntKind.u8.wrap (IntKind.u8.wrap ((↑(UInt8.toNat (t3.getD t10.toNat Ty.byte.dflt)):Int) + (97:Int)) - (65:Int))).toNat)) (t9) (t10 + (1:Int))))
 else
 (gd [decide (inK .i64 (t10 + (1:Int))), decide (inK .u8 (↑(UInt8.toNat (t3.getD t10.toNat Ty.byte.dflt)):Int))] (hslower_0 n (t2) (t3) (t9) (t10 + (1:Int))))))
  else
 (some (t3, ()))) := by kernel_rfl
abbrev shrlower : List (Nat × List (Nat × Sh)) := [(3, [(2, (.one .sym)), (3, (.one (.vec .byte 5))), (4, (.one .sym))])]
noncomputable def hrlower_0 (n : Nat) (t2 : List UInt8) (t3 : List (Ty.Den .byte)) (t4:Int) : Option (DenL [.str]) := rH Tryz.prog (envS []) (shOf shrlower) Tryz.f31 [.str] n 0 [(2, sy (.string (bs t2))), (3, dt 9), (4, sy (.int .i64 t4))] [.vec .byte t3 5]
noncomputable def orlower (x : DenL [.str]) : Option (DenL [.str]) := fO Tryz.prog (envS []) (shOf shrlower) Tryz.f31 [.str] [.str] x
theorem erlower_g (N : Nat) (x0 : List UInt8) : fON Tryz.prog (envS []) (shOf shrlower) Tryz.f31 [.str] [.str] N (x0, ()) =
  (hrlower_0 N ([]) (x0) ((0:Int))) := by kernel_rfl
theorem orlower_g (x : DenL [.str]) : orlower x = fON Tryz.prog (envS []) (shOf shrlower) Tryz.f31 [.str] [.str] heads0 x := rfl
theorem erlower_0 (n : Nat) (t2 : List UInt8) (t3 : List (Ty.Den .byte)) (t4:Int) : hrlower_0 (n + 1) t2 t3 t4 =
  (bif decide (t4 < (↑t3.length:Int)) then
 (bif decide ((↑(UInt8.toNat (t3.getD t4.toNat Ty.byte.dflt)):Int) ≥ (65:Int)) then
 (bif decide ((↑(UInt8.toNat (t3.getD t4.toNat Ty.byte.dflt)):Int) ≤ (90:Int)) then
 (gd [decide (inK .i64 (t4 + (1:Int))), decide (t4.toNat < t3.length), decide (inK .u8 (IntKind.u8.wrap ((↑(UInt8.toNat (t3.getD t4.toNat Ty.byte.dflt)):Int) + (32:Int)))), decide ((0:Int) ≤ t4), decide (t4 < (↑t3.length:Int)), decide (t4.toNat < t3.length), decide ((0:Int) ≤ t4), decide (t4 < (↑t3.length:Int)), decide (t4.toNat < t3.length), decide ((0:Int) ≤ t4), decide (t4 < (↑t3.length:Int)), decide (t4.toNat < t3.length), decide ((0:Int) ≤ t4), decide (t4 < (↑t3.length:Int))] (hrlower_0 n (t2) (t3.set t4.toNat (UInt8.ofNat (IntKind.u8.wrap ((↑(UInt8.toNat (t3.getD t4.toNat Ty.byte.dflt)):Int) + (32:Int))).toNat)) (t4 + (1:Int))))
 else
 (gd [decide (inK .i64 (t4 + (1:Int))), decide (t4.toNat < t3.length), decide ((0:Int) ≤ t4), decide (t4 < (↑t3.length:Int)), decide (t4.toNat < t3.length), decide ((0:Int) ≤ t4), decide (t4 < (↑t3.length:Int))] (hrlower_0 n (t2) (t3) (t4 + (1:Int)))))
 else
 (gd [decide (inK .i64 (t4 + (1:Int))), decide (t4.toNat < t3.length), decide ((0:Int) ≤ t4), decide (t4 < (↑t3.length:Int))] (hrlower_0 n (t2) (t3) (t4 + (1:Int)))))
  else
 (some (t3, ()))) := by kernel_rfl
abbrev shrnum : List (Nat × List (Nat × Sh)) := [(3, [(0, (.one .sym)), (1, (.one .sym)), (4, (.one .sym)), (5, (.one .sym)), (6, (.one .sym)), (7, (.one .sym))])]
noncomputable def hrnum_0 (n : Nat) (t0 : List UInt8) (t1:Int) (t4:Int) (t5 : Bool) (t6:Int) (t7:Int) : Option (DenL [.int .i64, .bool]) := rH Tryz.prog (envS [(66, digS)]) (shOf shrnum) Tryz.f49 [.int .i64, .bool] n 0 [(0, sy (.string (bs t0))), (1, sy (.int .i64 t1)), (4, sy (.int .i64 t4)), (5, .bool t5), (6, sy (.int .i64 t6)), (7, sy (.int .i64 t7))] []
noncomputable def ornum (x : DenL [.str, .int .i64]) : Option (DenL [.int .i64, .bool]) := fO Tryz.prog (envS [(66, digS)]) (shOf shrnum) Tryz.f49 [.str, .int .i64] [.int .i64, .bool] x
theorem ernum_g (N : Nat) (x0 : List UInt8) (x1:Int) : fON Tryz.prog (envS [(66, digS)]) (shOf shrnum) Tryz.f49 [.str, .int .i64] [.int .i64, .bool] N (x0, x1, ()) =
  (hrnum_0 N (x0) (x1) ((0:Int)) (false) ((0:Int)) ((0:Int))) := by kernel_rfl
theorem ornum_g (x : DenL [.str, .int .i64]) : ornum x = fON Tryz.prog (envS [(66, digS)]) (shOf shrnum) Tryz.f49 [.str, .int .i64] [.int .i64, .bool] heads0 x := rfl
theorem ernum_0 (n : Nat) (t0 : List UInt8) (t1:Int) (t4:Int) (t5 : Bool) (t6:Int) (t7:Int) : hrnum_0 (n + 1) t0 t1 t4 t5 t6 t7 =
  (bif decide (t7 < (↑t0.length:Int)) then
 (bif isDig (UInt8.ofNat (↑(t0.getD t7.toNat 0).toNat:Int).toNat) then
 (bif decide (t7 ≥ t1) then
 (gd [decide (inK .u8 (↑(t0.getD t7.toNat 0).toNat:Int)), decide ((0:Int) ≤ t7), decide (t7 < (↑t0.length:Int))] (some ((0:Int), false, ())))
 else
 (gd [decide (inK .i64 (t7 + (1:Int))), decide (inK .i64 (t6 * (10:Int) + IntKind.u8.wrap ((↑(t0.getD t7.toNat 0).toNat:Int) - (48:Int)))), decide (inK .i64 (IntKind.u8.wrap ((↑(t0.getD t7.toNat 0).toNat:Int) - (48:Int)))), decide ((0:Int) ≤ t7), decide (t7 < (↑t0.length:Int)), decide (inK .i64 (t6 * (10:Int))), decide (inK .u8 (↑(t0.getD t7.toNat 0).toNat:Int)), decide ((0:Int) ≤ t7), decide (t7 < (↑t0.length:Int))] (hrnum_0 n (t0) (t1) (t4) (t5) (t6 * (10:Int) + IntKind.u8.wrap ((↑(t0.getD t7.toNat 0).toNat:Int) - (48:Int))) (t7 + (1:Int)))))
 else
 (gd [decide (inK .u8 (↑(t0.getD t7.toNat 0).toNat:Int)), decide ((0:Int) ≤ t7), decide (t7 < (↑t0.length:Int))] (some ((0:Int), false, ()))))
  else
 (bif decide ((↑t0.length:Int) ≥ (1:Int)) then
 (some (t6, true, ()))
 else
 (some (t6, false, ())))) := by kernel_rfl
abbrev shsval : List (Nat × List (Nat × Sh)) := [(2, [(1, (.one .sym)), (4, (.one .sym)), (5, (.one .sym)), (9, (.one (.dat (.pair .str (.pair .str .unit))))), (10, (.one .sym)), (11, (.one .sym))])]
noncomputable def hsval_0 (n : Nat) (t1 : List UInt8) (t4 : List UInt8) (t5 : Bool) (t9 : List (Ty.Den (.pair .str (.pair .str .unit)))) (t10:Int) (t11:Int) : Option (DenL [.str, .bool]) := rH Tryz.prog (envS [(48, lowerS)]) (shOf shsval) Tryz.f29 [.str, .bool] n 0 [(1, sy (.string (bs t1))), (4, sy (.string (bs t4))), (5, .bool t5), (9, dt 9), (10, sy (.int .i64 t10)), (11, sy (.int .i64 t11))] [.dat (.pair .str (.pair .str .unit)) t9]
noncomputable def osval (x : DenL [ReqT, .str]) : Option (DenL [.str, .bool]) := fO Tryz.prog (envS [(48, lowerS)]) (shOf shsval) Tryz.f29 [ReqT, .str] [.str, .bool] x
theorem esval_g (N : Nat) (x0 : Ty.Den ReqT) (x1 : List UInt8) : fON Tryz.prog (envS [(48, lowerS)]) (shOf shsval) Tryz.f29 [ReqT, .str] [.str, .bool] N (x0, x1, ()) =
  (hsval_0 N (x1) ([]) (false) (x0.snd.snd.snd.fst) ((↑(List.length x0.snd.snd.snd.fst):Int)) ((0:Int))) := by kernel_rfl
theorem osval_g (x : DenL [ReqT, .str]) : osval x = fON Tryz.prog (envS [(48, lowerS)]) (shOf shsval) Tryz.f29 [ReqT, .str] [.str, .bool] heads0 x := rfl
theorem esval_0 (n : Nat) (t1 : List UInt8) (t4 : List UInt8) (t5 : Bool) (t9 : List (Ty.Den (.pair .str (.pair .str .unit)))) (t10:Int) (t11:Int) : hsval_0 (n + 1) t1 t4 t5 t9 t10 t11 =
  (bif decide (t11 < t10) then
 (gd [decide (t11.toNat < t9.length), decide ((0:Int) ≤ t11), decide (t11 < (↑t9.length:Int))] (bif lower (t9.getD t11.toNat (HeadT).dflt).fst == lower t1 then
 (gd [lowerP t1, lowerP (t9.getD t11.toNat (HeadT).dflt).fst] (some ((t9.getD t11.toNat (HeadT).dflt).snd.fst, true, ())))
 else
 (gd [decide (inK .i64 (t11 + (1:Int))), lowerP t1, lowerP (t9.getD t11.toNat (HeadT).dflt).fst] (hsval_0 n (t1) (t4) (t5) (t9) (t10) (t11 + (1:Int))))))
  else
 (some ([], false, ()))) := by kernel_rfl
abbrev shrval : List (Nat × List (Nat × Sh)) := [(2, [(1, (.one .sym)), (2, (.obj [.sym, .sym, .sym, (.dat (.pair .str (.pair .str .unit))), .sym])), (4, (.one .sym)), (5, (.one .sym)), (6, (.one .sym))])]
noncomputable def hrval_0 (n : Nat) (t1 : List UInt8) (t2_0 : List UInt8) (t2_1 : List UInt8) (t2_2 : List UInt8) (t2_3 : List (Ty.Den (.pair .str (.pair .str .unit)))) (t2_4 : List UInt8) (t4 : List UInt8) (t5 : Bool) (t6:Int) : Option (DenL [.str, .bool]) := rH Tryz.prog (envS [(31, lowerS)]) (shOf shrval) Tryz.f30 [.str, .bool] n 0 [(1, sy (.string (bs t1))), (2, .pointer (some ⟨10, 0, none⟩)), (4, sy (.string (bs t4))), (5, .bool t5), (6, sy (.int .i64 t6))] [.dat (.pair .str (.pair .str .unit)) t2_3, .row [sy (.string (bs t2_0)), sy (.string (bs t2_1)), sy (.string (bs t2_2)), dt 9, sy (.string (bs t2_4))] 28 false]
noncomputable def orval (x : DenL [ReqT, .str]) : Option (DenL [.str, .bool]) := fO Tryz.prog (envS [(31, lowerS)]) (shOf shrval) Tryz.f30 [ReqT, .str] [.str, .bool] x
theorem erval_g (N : Nat) (x0 : Ty.Den ReqT) (x1 : List UInt8) : fON Tryz.prog (envS [(31, lowerS)]) (shOf shrval) Tryz.f30 [ReqT, .str] [.str, .bool] N (x0, x1, ()) =
  (hrval_0 N (x1) (x0.fst) (x0.snd.fst) (x0.snd.snd.fst) (x0.snd.snd.snd.fst) (x0.snd.snd.snd.snd.fst) ([]) (false) ((0:Int))) := by kernel_rfl
theorem orval_g (x : DenL [ReqT, .str]) : orval x = fON Tryz.prog (envS [(31, lowerS)]) (shOf shrval) Tryz.f30 [ReqT, .str] [.str, .bool] heads0 x := rfl
theorem erval_0 (n : Nat) (t1 : List UInt8) (t2_0 : List UInt8) (t2_1 : List UInt8) (t2_2 : List UInt8) (t2_3 : List (Ty.Den (.pair .str (.pair .str .unit)))) (t2_4 : List UInt8) (t4 : List UInt8) (t5 : Bool) (t6:Int) : hrval_0 (n + 1) t1 t2_0 t2_1 t2_2 t2_3 t2_4 t4 t5 t6 =
  (bif decide (t6 < (↑t2_3.length:Int)) then
 (bif lower (t2_3.getD t6.toNat (HeadT).dflt).fst == lower t1 then
 (gd [decide (t6.toNat < t2_3.length), decide ((0:Int) ≤ t6), decide (t6 < (↑t2_3.length:Int)), lowerP t1, lowerP (t2_3.getD t6.toNat (HeadT).dflt).fst, decide (t6.toNat < t2_3.length), decide ((0:Int) ≤ t6), decide (t6 < (↑t2_3.length:Int))] (some ((t2_3.getD t6.toNat (HeadT).dflt).snd.fst, true, ())))
 else
 (gd [decide (inK .i64 (t6 + (1:Int))), lowerP t1, lowerP (t2_3.getD t6.toNat (HeadT).dflt).fst, decide (t6.toNat < t2_3.length), decide ((0:Int) ≤ t6), decide (t6 < (↑t2_3.length:Int))] (hrval_0 n (t1) (t2_0) (t2_1) (t2_2) (t2_3) (t2_4) (t4) (t5) (t6 + (1:Int)))))
  else
 (some ([], false, ()))) := by kernel_rfl
abbrev shcut : List (Nat × List (Nat × Sh)) := []
noncomputable def ocut (x : DenL [.str, .int .i64]) : Option (DenL [.str]) := fO Tryz.prog (envS []) (shOf shcut) Tryz.f24 [.str, .int .i64] [.str] x
theorem ecut_g (N : Nat) (x0 : List UInt8) (x1:Int) : fON Tryz.prog (envS []) (shOf shcut) Tryz.f24 [.str, .int .i64] [.str] N (x0, x1, ()) =
  (gd [decide ((0:Int) ≤ min (↑x0.length:Int) x1), decide (min (↑x0.length:Int) x1 ≤ (↑x0.length:Int))] (some (List.take (min (↑x0.length:Int) x1).toNat x0, ()))) := by kernel_rfl
theorem ocut_g (x : DenL [.str, .int .i64]) : ocut x = fON Tryz.prog (envS []) (shOf shcut) Tryz.f24 [.str, .int .i64] [.str] heads0 x := rfl
end Go.Proofs.YtpdbgpkedehpgaaGreatDoor
