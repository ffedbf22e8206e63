/-
  The functions of scan, as equations (printed by a program). No condition.
-/
import Derived.Test.YtpdbgpkedehpgaaGreatDoorSym
import Derived.Test.YtpdbgpkedehpgaaGreatDoorNiceS
namespace Go.Proofs.YtpdbgpkedehpgaaGreatDoor
open Go Go.Eng Nice
set_option maxRecDepth 1000000
abbrev shvis : List (Nat × List (Nat × Sh)) := []
noncomputable def ovis (x : DenL [.byte]) : Option (DenL [.bool]) := fO Tryz.prog (envS []) (shOf shvis) Tryz.f73 [.byte] [.bool] x
theorem evis_g (N : Nat) (x0 : UInt8) : fON Tryz.prog (envS []) (shOf shvis) Tryz.f73 [.byte] [.bool] N (x0, ()) =
  (bif decide ((↑x0.toNat:Int) ≥ (33:Int)) then
 (bif decide ((↑x0.toNat:Int) ≤ (126:Int)) then
 (bif (↑x0.toNat:Int) != (35:Int) then
 (some (true, ()))
 else
 (some (false, ())))
 else
 (some (false, ())))
  else
 (some (false, ()))) := by kernel_rfl
theorem ovis_g (x : DenL [.byte]) : ovis x = fON Tryz.prog (envS []) (shOf shvis) Tryz.f73 [.byte] [.bool] heads0 x := rfl
abbrev shtok : List (Nat × List (Nat × Sh)) := []
noncomputable def otok (x : DenL [.byte]) : Option (DenL [.bool]) := fO Tryz.prog (envS [(65, capS)]) (shOf shtok) Tryz.f107 [.byte] [.bool] x
theorem etok_g (N : Nat) (x0 : UInt8) : fON Tryz.prog (envS [(65, capS)]) (shOf shtok) Tryz.f107 [.byte] [.bool] N (x0, ()) =
  (bif isCap (UInt8.ofNat (↑x0.toNat:Int).toNat) then
 (gd [decide (inK .u8 (↑x0.toNat:Int))] (some (true, ())))
  else
 (bif decide ((↑x0.toNat:Int) ≥ (97:Int)) then
 (bif decide ((↑x0.toNat:Int) ≤ (122:Int)) then
 (gd [decide (inK .u8 (↑x0.toNat:Int))] (some (true, ())))
 else
 (bif decide ((↑x0.toNat:Int) ≥ (48:Int)) then
 (bif decide ((↑x0.toNat:Int) ≤ (57:Int)) then
 (gd [decide (inK .u8 (↑x0.toNat:Int))] (some (true, ())))
 else
 (bif (↑x0.toNat:Int) == (45:Int) then
 (gd [decide (inK .u8 (↑x0.toNat:Int))] (some (true, ())))
 else
 (gd [decide (inK .u8 (↑x0.toNat:Int))] (some (false, ())))))
 else
 (bif (↑x0.toNat:Int) == (45:Int) then
 (gd [decide (inK .u8 (↑x0.toNat:Int))] (some (true, ())))
 else
 (gd [decide (inK .u8 (↑x0.toNat:Int))] (some (false, ()))))))
 else
 (bif decide ((↑x0.toNat:Int) ≥ (48:Int)) then
 (bif decide ((↑x0.toNat:Int) ≤ (57:Int)) then
 (gd [decide (inK .u8 (↑x0.toNat:Int))] (some (true, ())))
 else
 (bif (↑x0.toNat:Int) == (45:Int) then
 (gd [decide (inK .u8 (↑x0.toNat:Int))] (some (true, ())))
 else
 (gd [decide (inK .u8 (↑x0.toNat:Int))] (some (false, ())))))
 else
 (bif (↑x0.toNat:Int) == (45:Int) then
 (gd [decide (inK .u8 (↑x0.toNat:Int))] (some (true, ())))
 else
 (gd [decide (inK .u8 (↑x0.toNat:Int))] (some (false, ()))))))) := by kernel_rfl
theorem otok_g (x : DenL [.byte]) : otok x = fON Tryz.prog (envS [(65, capS)]) (shOf shtok) Tryz.f107 [.byte] [.bool] heads0 x := rfl
abbrev shlet : List (Nat × List (Nat × Sh)) := []
noncomputable def olet (x : DenL [.byte]) : Option (DenL [.bool]) := fO Tryz.prog (envS []) (shOf shlet) Tryz.f106 [.byte] [.bool] x
theorem elet_g (N : Nat) (x0 : UInt8) : fON Tryz.prog (envS []) (shOf shlet) Tryz.f106 [.byte] [.bool] N (x0, ()) =
  (bif decide ((↑x0.toNat:Int) ≥ (97:Int)) then
 (bif decide ((↑x0.toNat:Int) ≤ (122:Int)) then
 (some (true, ()))
 else
 (bif decide ((↑x0.toNat:Int) ≥ (65:Int)) then
 (bif decide ((↑x0.toNat:Int) ≤ (90:Int)) then
 (some (true, ()))
 else
 (some (false, ())))
 else
 (some (false, ()))))
  else
 (bif decide ((↑x0.toNat:Int) ≥ (65:Int)) then
 (bif decide ((↑x0.toNat:Int) ≤ (90:Int)) then
 (some (true, ()))
 else
 (some (false, ())))
 else
 (some (false, ())))) := by kernel_rfl
theorem olet_g (x : DenL [.byte]) : olet x = fON Tryz.prog (envS []) (shOf shlet) Tryz.f106 [.byte] [.bool] heads0 x := rfl
abbrev shtrL : List (Nat × List (Nat × Sh)) := [(1, [(0, (.one .sym)), (1, (.obj (List.replicate 256 .any))), (4, (.one .sym))])]
noncomputable def htrL_0 (n : Nat) (t0 : List UInt8) (t4 : List UInt8) : Option ((sigTr).root.Den × DenO (sigTr).rs) := rHO Tryz.prog (envO [] [(223, isSpS)]) (shOf shtrL) Tryz.f177 (sigTr) [9] n 0 [(0, sy (.string (bs t0))), (1, .pointer (some ⟨9, 0, none⟩)), (4, sy (.string (bs t4)))] [.row setC 231 false]
noncomputable def otrL (x : (sigTr).root.Den) (y : DenO (sigTr).ts) : Option ((sigTr).root.Den × DenO (sigTr).rs) := fOO Tryz.prog (envO [] [(223, isSpS)]) (shOf shtrL) Tryz.f177 (sigTr) x y
theorem etrL_g (N : Nat) (s : List UInt8) : fOON Tryz.prog (envO [] [(223, isSpS)]) (shOf shtrL) Tryz.f177 (sigTr) N () (s, ()) =
  (htrL_0 N (s) ([])) := by kernel_rfl
theorem otrL_g (x : (sigTr).root.Den) (y : DenO (sigTr).ts) : otrL x y = fOON Tryz.prog (envO [] [(223, isSpS)]) (shOf shtrL) Tryz.f177 (sigTr) heads0 x y := rfl
theorem etrL_0 (n : Nat) (t0 : List UInt8) (t4 : List UInt8) : htrL_0 (n + 1) t0 t4 =
  (bif decide ((↑t0.length:Int) > (0:Int)) then
 (bif isSp (UInt8.ofNat (↑(t0.getD 0 0).toNat:Int).toNat) then
 (gd [decide ((1:Int) ≤ (↑t0.length:Int)), decide (inK .u8 (↑(t0.getD 0 0).toNat:Int)), decide ((0:Int) < (↑t0.length:Int))] (htrL_0 n (List.drop 1 t0) (t4)))
 else
 (gd [decide (inK .u8 (↑(t0.getD 0 0).toNat:Int)), decide ((0:Int) < (↑t0.length:Int))] (some ((), t0, ()))))
  else
 (some ((), t0, ()))) := by kernel_rfl
abbrev shtrR : List (Nat × List (Nat × Sh)) := [(1, [(0, (.one .sym)), (1, (.obj (List.replicate 256 .any))), (4, (.one .sym))])]
noncomputable def htrR_0 (n : Nat) (t0 : List UInt8) (t4 : List UInt8) : Option ((sigTr).root.Den × DenO (sigTr).rs) := rHO Tryz.prog (envO [] [(223, isSpS)]) (shOf shtrR) Tryz.f178 (sigTr) [9] n 0 [(0, sy (.string (bs t0))), (1, .pointer (some ⟨9, 0, none⟩)), (4, sy (.string (bs t4)))] [.row setC 231 false]
noncomputable def otrR (x : (sigTr).root.Den) (y : DenO (sigTr).ts) : Option ((sigTr).root.Den × DenO (sigTr).rs) := fOO Tryz.prog (envO [] [(223, isSpS)]) (shOf shtrR) Tryz.f178 (sigTr) x y
theorem etrR_g (N : Nat) (s : List UInt8) : fOON Tryz.prog (envO [] [(223, isSpS)]) (shOf shtrR) Tryz.f178 (sigTr) N () (s, ()) =
  (htrR_0 N (s) ([])) := by kernel_rfl
theorem otrR_g (x : (sigTr).root.Den) (y : DenO (sigTr).ts) : otrR x y = fOON Tryz.prog (envO [] [(223, isSpS)]) (shOf shtrR) Tryz.f178 (sigTr) heads0 x y := rfl
theorem etrR_0 (n : Nat) (t0 : List UInt8) (t4 : List UInt8) : htrR_0 (n + 1) t0 t4 =
  (bif decide ((↑t0.length:Int) > (0:Int)) then
 (bif isSp (UInt8.ofNat (↑(t0.getD ((↑t0.length:Int) - (1:Int)).toNat 0).toNat:Int).toNat) then
 (gd [decide ((0:Int) ≤ (↑t0.length:Int) - (1:Int)), decide ((↑t0.length:Int) - (1:Int) ≤ (↑t0.length:Int)), decide (inK .i64 ((↑t0.length:Int) - (1:Int))), decide (inK .u8 (↑(t0.getD ((↑t0.length:Int) - (1:Int)).toNat 0).toNat:Int)), decide ((0:Int) ≤ (↑t0.length:Int) - (1:Int)), decide ((↑t0.length:Int) - (1:Int) < (↑t0.length:Int)), decide (inK .i64 ((↑t0.length:Int) - (1:Int)))] (htrR_0 n (List.take ((↑t0.length:Int) - (1:Int)).toNat t0) (t4)))
 else
 (gd [decide (inK .u8 (↑(t0.getD ((↑t0.length:Int) - (1:Int)).toNat 0).toNat:Int)), decide ((0:Int) ≤ (↑t0.length:Int) - (1:Int)), decide ((↑t0.length:Int) - (1:Int) < (↑t0.length:Int)), decide (inK .i64 ((↑t0.length:Int) - (1:Int)))] (some ((), t0, ()))))
  else
 (some ((), t0, ()))) := by kernel_rfl
abbrev shtrim : List (Nat × List (Nat × Sh)) := []
noncomputable def otrim (x : DenL [.str, .str]) : Option (DenL [.str]) := fO Tryz.prog (envO [] [(177, trimLS), (178, trimRS)]) (shOf shtrim) Tryz.f108 [.str, .str] [.str] x
theorem etrim_g (N : Nat) (s : List UInt8) : fON Tryz.prog (envO [] [(177, trimLS), (178, trimRS)]) (shOf shtrim) Tryz.f108 [.str, .str] [.str] N (s, [32, 9], ()) =
  (bif s == [] then
 (some (s, ()))
  else
 (gd [decide ((trimR s).length ≤ 140737488355328), decide (s.length ≤ 140737488355328)] (some (trimL (trimR s), ())))) := by kernel_rfl
theorem otrim_g (x : DenL [.str, .str]) : otrim x = fON Tryz.prog (envO [] [(177, trimLS), (178, trimRS)]) (shOf shtrim) Tryz.f108 [.str, .str] [.str] heads0 x := rfl
abbrev shlong : List (Nat × List (Nat × Sh)) := []
noncomputable def olong (x : (sigB).root.Den) (y : DenO (sigB).ts) : Option ((sigB).root.Den × DenO (sigB).rs) := fOO Tryz.prog (envO [] []) (shOf shlong) Tryz.f70 (sigB) x y
theorem elong_g (N : Nat) (st su li at':Int) (tx m p q : List UInt8) (hs : List HeadD) (b : List UInt8) (le:Int) (ou : List ReqD) (c : UInt8) : fOON Tryz.prog (envO [] []) (shOf shlong) Tryz.f70 (sigB) N (st, su, li, at', tx, (m, p, q, hs, b, ()), le, ou, ()) (c, ()) =
  (bif (↑c.toNat:Int) == (13:Int) then
 (some ((st, su, li, at', tx, (m, p, q, hs, b, ()), le, ou, ()), (0:Int), ()))
  else
 (bif decide (st ≥ (7:Int)) then
 (some ((st, su, li, at', tx, (m, p, q, hs, b, ()), le, ou, ()), (0:Int), ()))
 else
 (bif st == (4:Int) then
 (some ((st, su, li, at', tx, (m, p, q, hs, b, ()), le, ou, ()), (0:Int), ()))
 else
 (bif decide (st < (5:Int)) then
 (bif decide (li ≥ (200:Int)) then
 (some ((st, su, li, at', tx, (m, p, q, hs, b, ()), le, ou, ()), (414:Int), ()))
 else
 (bif decide (st ≥ (5:Int)) then
 (bif decide (li ≥ (120:Int)) then
 (some ((st, su, li, at', tx, (m, p, q, hs, b, ()), le, ou, ()), (431:Int), ()))
 else
 (bif st == (5:Int) then
 (bif li == (0:Int) then
 (bif decide ((↑hs.length:Int) ≥ (10:Int)) then
 (some ((st, su, li, at', tx, (m, p, q, hs, b, ()), le, ou, ()), (431:Int), ()))
 else
 (some ((st, su, li, at', tx, (m, p, q, hs, b, ()), le, ou, ()), (0:Int), ())))
 else
 (some ((st, su, li, at', tx, (m, p, q, hs, b, ()), le, ou, ()), (0:Int), ())))
 else
 (some ((st, su, li, at', tx, (m, p, q, hs, b, ()), le, ou, ()), (0:Int), ()))))
 else
 (bif st == (5:Int) then
 (bif li == (0:Int) then
 (bif decide ((↑hs.length:Int) ≥ (10:Int)) then
 (some ((st, su, li, at', tx, (m, p, q, hs, b, ()), le, ou, ()), (431:Int), ()))
 else
 (some ((st, su, li, at', tx, (m, p, q, hs, b, ()), le, ou, ()), (0:Int), ())))
 else
 (some ((st, su, li, at', tx, (m, p, q, hs, b, ()), le, ou, ()), (0:Int), ())))
 else
 (some ((st, su, li, at', tx, (m, p, q, hs, b, ()), le, ou, ()), (0:Int), ())))))
 else
 (bif decide (st ≥ (5:Int)) then
 (bif decide (li ≥ (120:Int)) then
 (some ((st, su, li, at', tx, (m, p, q, hs, b, ()), le, ou, ()), (431:Int), ()))
 else
 (bif st == (5:Int) then
 (bif li == (0:Int) then
 (bif decide ((↑hs.length:Int) ≥ (10:Int)) then
 (some ((st, su, li, at', tx, (m, p, q, hs, b, ()), le, ou, ()), (431:Int), ()))
 else
 (some ((st, su, li, at', tx, (m, p, q, hs, b, ()), le, ou, ()), (0:Int), ())))
 else
 (some ((st, su, li, at', tx, (m, p, q, hs, b, ()), le, ou, ()), (0:Int), ())))
 else
 (some ((st, su, li, at', tx, (m, p, q, hs, b, ()), le, ou, ()), (0:Int), ()))))
 else
 (bif st == (5:Int) then
 (bif li == (0:Int) then
 (bif decide ((↑hs.length:Int) ≥ (10:Int)) then
 (some ((st, su, li, at', tx, (m, p, q, hs, b, ()), le, ou, ()), (431:Int), ()))
 else
 (some ((st, su, li, at', tx, (m, p, q, hs, b, ()), le, ou, ()), (0:Int), ())))
 else
 (some ((st, su, li, at', tx, (m, p, q, hs, b, ()), le, ou, ()), (0:Int), ())))
 else
 (some ((st, su, li, at', tx, (m, p, q, hs, b, ()), le, ou, ()), (0:Int), ())))))))) := by kernel_rfl
theorem olong_g (x : (sigB).root.Den) (y : DenO (sigB).ts) : olong x y = fOON Tryz.prog (envO [] []) (shOf shlong) Tryz.f70 (sigB) heads0 x y := rfl
abbrev shheads : List (Nat × List (Nat × Sh)) := [(3, [(0, (.obj [.sym, .sym, .sym, .sym, (.vec .byte 5), .sym, .sym, .sym, (.vec (.pair .str (.pair .str .unit)) 59), .sym, .sym, (.vec ReqT 28)])), (2, (.one .sym)), (3, (.one .sym)), (12, (.one (.same 1))), (13, (.one .sym)), (14, (.one .sym))])]
noncomputable def hheads_0 (n : Nat) (t0_0:Int) (t0_1:Int) (t0_2:Int) (t0_3:Int) (t0_4 : List (Ty.Den .byte)) (t0_5 : List UInt8) (t0_6 : List UInt8) (t0_7 : List UInt8) (t0_8 : List (Ty.Den (.pair .str (.pair .str .unit)))) (t0_9 : List UInt8) (t0_10:Int) (t0_11 : List (Ty.Den ReqT)) (t2:Int) (t3:Int) (t13:Int) (t14:Int) : Option ((sig0).root.Den × DenO (sig0).rs) := rHO Tryz.prog (envO [(48, lowerS), (47, scanNumS), (28, scanLenS)] []) (shOf shheads) Tryz.f109 (sig0) [12] n 0 [(0, .pointer (some ⟨12, 0, none⟩)), (2, sy (.int .i64 t2)), (3, sy (.int .i64 t3)), (12, dt 10), (13, sy (.int .i64 t13)), (14, sy (.int .i64 t14))] [.vec .byte t0_4 5, .vec (.pair .str (.pair .str .unit)) t0_8 59, .vec ReqT t0_11 28, .row [sy (.int .i64 t0_0), sy (.int .i64 t0_1), sy (.int .i64 t0_2), sy (.int .i64 t0_3), dt 9, sy (.string (bs t0_5)), sy (.string (bs t0_6)), sy (.string (bs t0_7)), dt 10, sy (.string (bs t0_9)), sy (.int .i64 t0_10), dt 11] 77 false]
noncomputable def oheads (x : (sig0).root.Den) (y : DenO (sig0).ts) : Option ((sig0).root.Den × DenO (sig0).rs) := fOO Tryz.prog (envO [(48, lowerS), (47, scanNumS), (28, scanLenS)] []) (shOf shheads) Tryz.f109 (sig0) x y
theorem eheads_g (N : Nat) (st su li at':Int) (tx m p q : List UInt8) (hs : List HeadD) (b : List UInt8) (le:Int) (ou : List ReqD) : fOON Tryz.prog (envO [(48, lowerS), (47, scanNumS), (28, scanLenS)] []) (shOf shheads) Tryz.f109 (sig0) N (st, su, li, at', tx, (m, p, q, hs, b, ()), le, ou, ()) () =
  (hheads_0 N (st) (su) (li) (at') (tx) (m) (p) (q) (hs) (b) (le) (ou) ((0:Int)) ((0:Int)) ((↑hs.length:Int)) ((0:Int))) := by kernel_rfl
theorem oheads_g (x : (sig0).root.Den) (y : DenO (sig0).ts) : oheads x y = fOON Tryz.prog (envO [(48, lowerS), (47, scanNumS), (28, scanLenS)] []) (shOf shheads) Tryz.f109 (sig0) heads0 x y := rfl
theorem eheads_0 (n : Nat) (t0_0:Int) (t0_1:Int) (t0_2:Int) (t0_3:Int) (t0_4 : List (Ty.Den .byte)) (t0_5 : List UInt8) (t0_6 : List UInt8) (t0_7 : List UInt8) (t0_8 : List (Ty.Den (.pair .str (.pair .str .unit)))) (t0_9 : List UInt8) (t0_10:Int) (t0_11 : List (Ty.Den ReqT)) (t2:Int) (t3:Int) (t13:Int) (t14:Int) : hheads_0 (n + 1) t0_0 t0_1 t0_2 t0_3 t0_4 t0_5 t0_6 t0_7 t0_8 t0_9 t0_10 t0_11 t2 t3 t13 t14 =
  (bif decide (t14 < t13) then
 (gd [lowerP (t0_8.getD t14.toNat (HeadT).dflt).fst, decide (t14.toNat < t0_8.length), decide ((0:Int) ≤ t14), decide (t14 < (↑t0_8.length:Int))] (bif lower (t0_8.getD t14.toNat (HeadT).dflt).fst == [116, 114, 97, 110, 115, 102, 101, 114, 45, 101, 110, 99, 111, 100, 105, 110, 103] then
 (some ((t0_0, t0_1, t0_2, t0_3, t0_4, (t0_5, t0_6, t0_7, t0_8, t0_9, ()), t0_10, t0_11, ()), (400:Int), ()))
 else
 (bif lower (t0_8.getD t14.toNat (HeadT).dflt).fst == [99, 111, 110, 116, 101, 110, 116, 45, 108, 101, 110, 103, 116, 104] then
 (bif (scanNum (t0_8.getD t14.toNat (HeadT).dflt).snd.fst).snd then
 (gd [decide (inK .i64 (t14 + (1:Int))), decide (inK .i64 (t3 + (1:Int))), atoiP (t0_8.getD t14.toNat (HeadT).dflt).snd.fst] (hheads_0 n (t0_0) (t0_1) (t0_2) (t0_3) (t0_4) (t0_5) (t0_6) (t0_7) (t0_8) (t0_9) (t0_10) (t0_11) (t2) (t3 + (1:Int)) (t13) (t14 + (1:Int))))
 else
 (gd [atoiP (t0_8.getD t14.toNat (HeadT).dflt).snd.fst] (some ((t0_0, t0_1, t0_2, t0_3, t0_4, (t0_5, t0_6, t0_7, t0_8, t0_9, ()), t0_10, t0_11, ()), (400:Int), ()))))
 else
 (gd [decide (inK .i64 (t14 + (1:Int)))] (hheads_0 n (t0_0) (t0_1) (t0_2) (t0_3) (t0_4) (t0_5) (t0_6) (t0_7) (t0_8) (t0_9) (t0_10) (t0_11) (t2) (t3) (t13) (t14 + (1:Int)))))))
  else
 (bif decide (t3 > (1:Int)) then
 (some ((t0_0, t0_1, t0_2, t0_3, t0_4, (t0_5, t0_6, t0_7, t0_8, t0_9, ()), t0_10, t0_11, ()), (400:Int), ()))
 else
 (gd [scanLenP t0_8] (bif decide (scanLen t0_8 > (300:Int)) then
 (some ((t0_0, t0_1, t0_2, t0_3, t0_4, (t0_5, t0_6, t0_7, t0_8, t0_9, ()), scanLen t0_8, t0_11, ()), (413:Int), ()))
 else
 (bif scanLen t0_8 == (0:Int) then
 (gd [decide ((2 * (t0_11.length + 1) + 400) * 88 ≤ 281474976710656)] (some (((0:Int), t0_1, t0_2, t0_3, t0_4, ([], [], [], [], [], ()), scanLen t0_8, t0_11 ++ [(t0_5, t0_6, t0_7, t0_8, t0_9, ())], ()), (0:Int), ())))
 else
 (some (((9:Int), t0_1, t0_2, t0_3, t0_4, (t0_5, t0_6, t0_7, t0_8, t0_9, ()), scanLen t0_8, t0_11, ()), (0:Int), ()))))))) := by kernel_rfl
noncomputable def headsP : (sig0).root.Den → DenO (sig0).ts → Bool := hid fun x y => (oheads x y).isSome
noncomputable def headsN : (sig0).root.Den → DenO (sig0).ts → (sig0).root.Den × DenO (sig0).rs := hid fun x y => (oheads x y).getD ((sig0).root.dflt, dfltO (sig0).rs)
theorem heads_hid {x : (sig0).root.Den} {y : DenO (sig0).ts} {z : (sig0).root.Den × DenO (sig0).rs} (h : oheads x y = some z) : headsP x y = true ∧ headsN x y = z := by
  unfold headsP headsN
  rw [hid_eq, hid_eq]
  simp only [h]
  exact ⟨rfl, rfl⟩
noncomputable def headsS : OSpec := niceO sig0 headsP headsN
abbrev shlines : List (Nat × List (Nat × Sh)) := []
noncomputable def olines (x : (sigB).root.Den) (y : DenO (sigB).ts) : Option ((sigB).root.Den × DenO (sigB).rs) := fOO Tryz.prog (envO [(107, tokS), (108, trimS)] [(109, headsS)]) (shOf shlines) Tryz.f71 (sigB) x y
theorem elines_g (N : Nat) (st su li at':Int) (tx m p q : List UInt8) (hs : List HeadD) (b : List UInt8) (le:Int) (ou : List ReqD) (c : UInt8) : fOON Tryz.prog (envO [(107, tokS), (108, trimS)] [(109, headsS)]) (shOf shlines) Tryz.f71 (sigB) N (st, su, li, at', tx, (m, p, q, hs, b, ()), le, ou, ()) (c, ()) =
  (bif st == (4:Int) then
 (bif (↑c.toNat:Int) != (10:Int) then
 (some ((st, su, li, at', tx, (m, p, q, hs, b, ()), le, ou, ()), (400:Int), ()))
 else
 (bif st == (8:Int) then
 (gd [headsP (st, su, (0:Int), at', tx, (m, p, q, hs, b, ()), le, ou, ()) ()] (some (((headsN (st, su, (0:Int), at', tx, (m, p, q, hs, b, ()), le, ou, ()) ()).fst.fst, (headsN (st, su, (0:Int), at', tx, (m, p, q, hs, b, ()), le, ou, ()) ()).fst.snd.fst, (headsN (st, su, (0:Int), at', tx, (m, p, q, hs, b, ()), le, ou, ()) ()).fst.snd.snd.fst, (headsN (st, su, (0:Int), at', tx, (m, p, q, hs, b, ()), le, ou, ()) ()).fst.snd.snd.snd.fst, (headsN (st, su, (0:Int), at', tx, (m, p, q, hs, b, ()), le, ou, ()) ()).fst.snd.snd.snd.snd.fst, ((headsN (st, su, (0:Int), at', tx, (m, p, q, hs, b, ()), le, ou, ()) ()).fst.snd.snd.snd.snd.snd.fst.fst, (headsN (st, su, (0:Int), at', tx, (m, p, q, hs, b, ()), le, ou, ()) ()).fst.snd.snd.snd.snd.snd.fst.snd.fst, (headsN (st, su, (0:Int), at', tx, (m, p, q, hs, b, ()), le, ou, ()) ()).fst.snd.snd.snd.snd.snd.fst.snd.snd.fst, (headsN (st, su, (0:Int), at', tx, (m, p, q, hs, b, ()), le, ou, ()) ()).fst.snd.snd.snd.snd.snd.fst.snd.snd.snd.fst, (headsN (st, su, (0:Int), at', tx, (m, p, q, hs, b, ()), le, ou, ()) ()).fst.snd.snd.snd.snd.snd.fst.snd.snd.snd.snd.fst, ()), (headsN (st, su, (0:Int), at', tx, (m, p, q, hs, b, ()), le, ou, ()) ()).fst.snd.snd.snd.snd.snd.snd.fst, (headsN (st, su, (0:Int), at', tx, (m, p, q, hs, b, ()), le, ou, ()) ()).fst.snd.snd.snd.snd.snd.snd.snd.fst, ()), (headsN (st, su, (0:Int), at', tx, (m, p, q, hs, b, ()), le, ou, ()) ()).snd.fst, ())))
 else
 (some (((5:Int), su, (0:Int), at', tx, (m, p, q, hs, b, ()), le, ou, ()), (0:Int), ()))))
  else
 (bif st == (7:Int) then
 (bif (↑c.toNat:Int) != (10:Int) then
 (some ((st, su, li, at', tx, (m, p, q, hs, b, ()), le, ou, ()), (400:Int), ()))
 else
 (bif st == (8:Int) then
 (gd [headsP (st, su, (0:Int), at', tx, (m, p, q, hs, b, ()), le, ou, ()) ()] (some (((headsN (st, su, (0:Int), at', tx, (m, p, q, hs, b, ()), le, ou, ()) ()).fst.fst, (headsN (st, su, (0:Int), at', tx, (m, p, q, hs, b, ()), le, ou, ()) ()).fst.snd.fst, (headsN (st, su, (0:Int), at', tx, (m, p, q, hs, b, ()), le, ou, ()) ()).fst.snd.snd.fst, (headsN (st, su, (0:Int), at', tx, (m, p, q, hs, b, ()), le, ou, ()) ()).fst.snd.snd.snd.fst, (headsN (st, su, (0:Int), at', tx, (m, p, q, hs, b, ()), le, ou, ()) ()).fst.snd.snd.snd.snd.fst, ((headsN (st, su, (0:Int), at', tx, (m, p, q, hs, b, ()), le, ou, ()) ()).fst.snd.snd.snd.snd.snd.fst.fst, (headsN (st, su, (0:Int), at', tx, (m, p, q, hs, b, ()), le, ou, ()) ()).fst.snd.snd.snd.snd.snd.fst.snd.fst, (headsN (st, su, (0:Int), at', tx, (m, p, q, hs, b, ()), le, ou, ()) ()).fst.snd.snd.snd.snd.snd.fst.snd.snd.fst, (headsN (st, su, (0:Int), at', tx, (m, p, q, hs, b, ()), le, ou, ()) ()).fst.snd.snd.snd.snd.snd.fst.snd.snd.snd.fst, (headsN (st, su, (0:Int), at', tx, (m, p, q, hs, b, ()), le, ou, ()) ()).fst.snd.snd.snd.snd.snd.fst.snd.snd.snd.snd.fst, ()), (headsN (st, su, (0:Int), at', tx, (m, p, q, hs, b, ()), le, ou, ()) ()).fst.snd.snd.snd.snd.snd.snd.fst, (headsN (st, su, (0:Int), at', tx, (m, p, q, hs, b, ()), le, ou, ()) ()).fst.snd.snd.snd.snd.snd.snd.snd.fst, ()), (headsN (st, su, (0:Int), at', tx, (m, p, q, hs, b, ()), le, ou, ()) ()).snd.fst, ())))
 else
 (some (((5:Int), su, (0:Int), at', tx, (m, p, q, hs, b, ()), le, ou, ()), (0:Int), ()))))
 else
 (bif st == (8:Int) then
 (bif (↑c.toNat:Int) != (10:Int) then
 (some ((st, su, li, at', tx, (m, p, q, hs, b, ()), le, ou, ()), (400:Int), ()))
 else
 (bif st == (8:Int) then
 (gd [headsP (st, su, (0:Int), at', tx, (m, p, q, hs, b, ()), le, ou, ()) ()] (some (((headsN (st, su, (0:Int), at', tx, (m, p, q, hs, b, ()), le, ou, ()) ()).fst.fst, (headsN (st, su, (0:Int), at', tx, (m, p, q, hs, b, ()), le, ou, ()) ()).fst.snd.fst, (headsN (st, su, (0:Int), at', tx, (m, p, q, hs, b, ()), le, ou, ()) ()).fst.snd.snd.fst, (headsN (st, su, (0:Int), at', tx, (m, p, q, hs, b, ()), le, ou, ()) ()).fst.snd.snd.snd.fst, (headsN (st, su, (0:Int), at', tx, (m, p, q, hs, b, ()), le, ou, ()) ()).fst.snd.snd.snd.snd.fst, ((headsN (st, su, (0:Int), at', tx, (m, p, q, hs, b, ()), le, ou, ()) ()).fst.snd.snd.snd.snd.snd.fst.fst, (headsN (st, su, (0:Int), at', tx, (m, p, q, hs, b, ()), le, ou, ()) ()).fst.snd.snd.snd.snd.snd.fst.snd.fst, (headsN (st, su, (0:Int), at', tx, (m, p, q, hs, b, ()), le, ou, ()) ()).fst.snd.snd.snd.snd.snd.fst.snd.snd.fst, (headsN (st, su, (0:Int), at', tx, (m, p, q, hs, b, ()), le, ou, ()) ()).fst.snd.snd.snd.snd.snd.fst.snd.snd.snd.fst, (headsN (st, su, (0:Int), at', tx, (m, p, q, hs, b, ()), le, ou, ()) ()).fst.snd.snd.snd.snd.snd.fst.snd.snd.snd.snd.fst, ()), (headsN (st, su, (0:Int), at', tx, (m, p, q, hs, b, ()), le, ou, ()) ()).fst.snd.snd.snd.snd.snd.snd.fst, (headsN (st, su, (0:Int), at', tx, (m, p, q, hs, b, ()), le, ou, ()) ()).fst.snd.snd.snd.snd.snd.snd.snd.fst, ()), (headsN (st, su, (0:Int), at', tx, (m, p, q, hs, b, ()), le, ou, ()) ()).snd.fst, ())))
 else
 (some (((5:Int), su, (0:Int), at', tx, (m, p, q, hs, b, ()), le, ou, ()), (0:Int), ()))))
 else
 (bif st == (6:Int) then
 (bif (↑c.toNat:Int) == (13:Int) then
 (gd [decide (((↑hs.length:Int) - (1:Int)).toNat < hs.length), decide ((0:Int) ≤ (↑hs.length:Int) - (1:Int)), decide ((↑hs.length:Int) - (1:Int) < (↑hs.length:Int)), [32, 9] == [32, 9] && decide (tx.length ≤ 140737488355328), decide (inK .i64 ((↑hs.length:Int) - (1:Int)))] (some (((7:Int), su, li, at', [], (m, p, q, hs.set ((↑hs.length:Int) - (1:Int)).toNat ((hs.getD ((↑hs.length:Int) - (1:Int)).toNat (HeadT).dflt).fst, trimL (trimR tx), ()), b, ()), le, ou, ()), (0:Int), ())))
 else
 (bif decide ((↑c.toNat:Int) ≥ (32:Int)) then
 (bif decide ((↑c.toNat:Int) ≤ (126:Int)) then
 (gd [decide (inK .i64 (li + (1:Int))), decide ((2 * (tx.length + 1) + 400) * 1 ≤ 281474976710656), decide (inK .u8 (↑c.toNat:Int))] (some ((st, su, li + (1:Int), at', tx ++ [UInt8.ofNat (↑c.toNat:Int).toNat], (m, p, q, hs, b, ()), le, ou, ()), (0:Int), ())))
 else
 (bif (↑c.toNat:Int) == (9:Int) then
 (gd [decide (inK .i64 (li + (1:Int))), decide ((2 * (tx.length + 1) + 400) * 1 ≤ 281474976710656), decide (inK .u8 (↑c.toNat:Int))] (some ((st, su, li + (1:Int), at', tx ++ [UInt8.ofNat (↑c.toNat:Int).toNat], (m, p, q, hs, b, ()), le, ou, ()), (0:Int), ())))
 else
 (some ((st, su, li, at', tx, (m, p, q, hs, b, ()), le, ou, ()), (400:Int), ()))))
 else
 (bif (↑c.toNat:Int) == (9:Int) then
 (gd [decide (inK .i64 (li + (1:Int))), decide ((2 * (tx.length + 1) + 400) * 1 ≤ 281474976710656), decide (inK .u8 (↑c.toNat:Int))] (some ((st, su, li + (1:Int), at', tx ++ [UInt8.ofNat (↑c.toNat:Int).toNat], (m, p, q, hs, b, ()), le, ou, ()), (0:Int), ())))
 else
 (some ((st, su, li, at', tx, (m, p, q, hs, b, ()), le, ou, ()), (400:Int), ())))))
 else
 (bif (↑c.toNat:Int) == (13:Int) then
 (bif li == (0:Int) then
 (some (((8:Int), su, li, at', tx, (m, p, q, hs, b, ()), le, ou, ()), (0:Int), ()))
 else
 (bif (↑c.toNat:Int) == (58:Int) then
 (bif decide (li > (0:Int)) then
 (gd [decide (inK .i64 (li + (1:Int))), decide ((2 * (hs.length + 1) + 400) * 32 ≤ 281474976710656)] (some (((6:Int), su, li + (1:Int), at', [], (m, p, q, hs ++ [(tx, [], ())], b, ()), le, ou, ()), (0:Int), ())))
 else
 (bif isTok (UInt8.ofNat (↑c.toNat:Int).toNat) then
 (gd [decide (inK .i64 (li + (1:Int))), decide ((2 * (tx.length + 1) + 400) * 1 ≤ 281474976710656), decide (inK .u8 (↑c.toNat:Int)), decide (inK .u8 (↑c.toNat:Int))] (some ((st, su, li + (1:Int), at', tx ++ [UInt8.ofNat (↑c.toNat:Int).toNat], (m, p, q, hs, b, ()), le, ou, ()), (0:Int), ())))
 else
 (gd [decide (inK .u8 (↑c.toNat:Int))] (some ((st, su, li, at', tx, (m, p, q, hs, b, ()), le, ou, ()), (400:Int), ())))))
 else
 (bif isTok (UInt8.ofNat (↑c.toNat:Int).toNat) then
 (gd [decide (inK .i64 (li + (1:Int))), decide ((2 * (tx.length + 1) + 400) * 1 ≤ 281474976710656), decide (inK .u8 (↑c.toNat:Int)), decide (inK .u8 (↑c.toNat:Int))] (some ((st, su, li + (1:Int), at', tx ++ [UInt8.ofNat (↑c.toNat:Int).toNat], (m, p, q, hs, b, ()), le, ou, ()), (0:Int), ())))
 else
 (gd [decide (inK .u8 (↑c.toNat:Int))] (some ((st, su, li, at', tx, (m, p, q, hs, b, ()), le, ou, ()), (400:Int), ()))))))
 else
 (bif (↑c.toNat:Int) == (58:Int) then
 (bif decide (li > (0:Int)) then
 (gd [decide (inK .i64 (li + (1:Int))), decide ((2 * (hs.length + 1) + 400) * 32 ≤ 281474976710656)] (some (((6:Int), su, li + (1:Int), at', [], (m, p, q, hs ++ [(tx, [], ())], b, ()), le, ou, ()), (0:Int), ())))
 else
 (bif isTok (UInt8.ofNat (↑c.toNat:Int).toNat) then
 (gd [decide (inK .i64 (li + (1:Int))), decide ((2 * (tx.length + 1) + 400) * 1 ≤ 281474976710656), decide (inK .u8 (↑c.toNat:Int)), decide (inK .u8 (↑c.toNat:Int))] (some ((st, su, li + (1:Int), at', tx ++ [UInt8.ofNat (↑c.toNat:Int).toNat], (m, p, q, hs, b, ()), le, ou, ()), (0:Int), ())))
 else
 (gd [decide (inK .u8 (↑c.toNat:Int))] (some ((st, su, li, at', tx, (m, p, q, hs, b, ()), le, ou, ()), (400:Int), ())))))
 else
 (bif isTok (UInt8.ofNat (↑c.toNat:Int).toNat) then
 (gd [decide (inK .i64 (li + (1:Int))), decide ((2 * (tx.length + 1) + 400) * 1 ≤ 281474976710656), decide (inK .u8 (↑c.toNat:Int)), decide (inK .u8 (↑c.toNat:Int))] (some ((st, su, li + (1:Int), at', tx ++ [UInt8.ofNat (↑c.toNat:Int).toNat], (m, p, q, hs, b, ()), le, ou, ()), (0:Int), ())))
 else
 (gd [decide (inK .u8 (↑c.toNat:Int))] (some ((st, su, li, at', tx, (m, p, q, hs, b, ()), le, ou, ()), (400:Int), ())))))))))) := by kernel_rfl
theorem olines_g (x : (sigB).root.Den) (y : DenO (sigB).ts) : olines x y = fOON Tryz.prog (envO [(107, tokS), (108, trimS)] [(109, headsS)]) (shOf shlines) Tryz.f71 (sigB) heads0 x y := rfl
noncomputable def linesP : (sigB).root.Den → DenO (sigB).ts → Bool := hid fun x y => (olines x y).isSome
noncomputable def linesN : (sigB).root.Den → DenO (sigB).ts → (sigB).root.Den × DenO (sigB).rs := hid fun x y => (olines x y).getD ((sigB).root.dflt, dfltO (sigB).rs)
theorem lines_hid {x : (sigB).root.Den} {y : DenO (sigB).ts} {z : (sigB).root.Den × DenO (sigB).rs} (h : olines x y = some z) : linesP x y = true ∧ linesN x y = z := by
  unfold linesP linesN
  rw [hid_eq, hid_eq]
  simp only [h]
  exact ⟨rfl, rfl⟩
noncomputable def linesS : OSpec := niceO sigB linesP linesN
abbrev shstep : List (Nat × List (Nat × Sh)) := []
noncomputable def ostep (x : (sigB).root.Den) (y : DenO (sigB).ts) : Option ((sigB).root.Den × DenO (sigB).rs) := fOO Tryz.prog (envO [(65, capS), (73, visS)] [(70, longS), (71, linesS)]) (shOf shstep) Tryz.f51 (sigB) x y
theorem estep_g (N : Nat) (st su li at':Int) (tx m p q : List UInt8) (hs : List HeadD) (b : List UInt8) (le:Int) (ou : List ReqD) (c : UInt8) : fOON Tryz.prog (envO [(65, capS), (73, visS)] [(70, longS), (71, linesS)]) (shOf shstep) Tryz.f51 (sigB) N (st, su, li, at', tx, (m, p, q, hs, b, ()), le, ou, ()) (c, ()) =
  (gd [decide (inK .u8 (↑c.toNat:Int))] (bif longN (st, su, li, at', tx, (m, p, q, hs, b, ()), le, ou, ()) (UInt8.ofNat (↑c.toNat:Int).toNat) != (0:Int) then
 (some ((st, su, li, at', tx, (m, p, q, hs, b, ()), le, ou, ()), longN (st, su, li, at', tx, (m, p, q, hs, b, ()), le, ou, ()) (UInt8.ofNat (↑c.toNat:Int).toNat), ()))
  else
 (bif st == (0:Int) then
 (bif isCap (UInt8.ofNat (↑c.toNat:Int).toNat) then
 (bif decide (li < (10:Int)) then
 (gd [decide (inK .i64 (li + (1:Int))), decide ((2 * (tx.length + 1) + 400) * 1 ≤ 281474976710656), decide (inK .u8 (↑c.toNat:Int)), decide (inK .u8 (↑c.toNat:Int))] (some ((st, su, li + (1:Int), at', tx ++ [UInt8.ofNat (↑c.toNat:Int).toNat], (m, p, q, hs, b, ()), le, ou, ()), (0:Int), ())))
 else
 (gd [decide (inK .u8 (↑c.toNat:Int))] (bif (↑c.toNat:Int) == (32:Int) then
 (bif decide (li > (0:Int)) then
 (gd [decide (inK .i64 (li + (1:Int)))] (some (((1:Int), su, li + (1:Int), at', [], (tx, p, q, hs, b, ()), le, ou, ()), (0:Int), ())))
 else
 (some ((st, su, li, at', tx, (m, p, q, hs, b, ()), le, ou, ()), (400:Int), ())))
 else
 (some ((st, su, li, at', tx, (m, p, q, hs, b, ()), le, ou, ()), (400:Int), ())))))
 else
 (gd [decide (inK .u8 (↑c.toNat:Int))] (bif (↑c.toNat:Int) == (32:Int) then
 (bif decide (li > (0:Int)) then
 (gd [decide (inK .i64 (li + (1:Int)))] (some (((1:Int), su, li + (1:Int), at', [], (tx, p, q, hs, b, ()), le, ou, ()), (0:Int), ())))
 else
 (some ((st, su, li, at', tx, (m, p, q, hs, b, ()), le, ou, ()), (400:Int), ())))
 else
 (some ((st, su, li, at', tx, (m, p, q, hs, b, ()), le, ou, ()), (400:Int), ())))))
 else
 (bif st == (1:Int) then
 (bif (↑tx.length:Int) == (0:Int) then
 (bif (↑c.toNat:Int) != (47:Int) then
 (some ((st, su, li, at', tx, (m, p, q, hs, b, ()), le, ou, ()), (400:Int), ()))
 else
 (bif (↑c.toNat:Int) == (63:Int) then
 (gd [decide (inK .i64 (li + (1:Int)))] (some (((2:Int), su, li + (1:Int), at', [], (m, tx, q, hs, b, ()), le, ou, ()), (0:Int), ())))
 else
 (bif (↑c.toNat:Int) == (32:Int) then
 (gd [decide (inK .i64 (li + (1:Int)))] (some (((3:Int), su, li + (1:Int), at', [], (m, tx, q, hs, b, ()), le, ou, ()), (0:Int), ())))
 else
 (bif isVis (UInt8.ofNat (↑c.toNat:Int).toNat) then
 (gd [decide (inK .i64 (li + (1:Int))), decide ((2 * (tx.length + 1) + 400) * 1 ≤ 281474976710656), decide (inK .u8 (↑c.toNat:Int)), decide (inK .u8 (↑c.toNat:Int))] (some ((st, su, li + (1:Int), at', tx ++ [UInt8.ofNat (↑c.toNat:Int).toNat], (m, p, q, hs, b, ()), le, ou, ()), (0:Int), ())))
 else
 (gd [decide (inK .u8 (↑c.toNat:Int))] (some ((st, su, li, at', tx, (m, p, q, hs, b, ()), le, ou, ()), (400:Int), ())))))))
 else
 (bif (↑c.toNat:Int) == (63:Int) then
 (gd [decide (inK .i64 (li + (1:Int)))] (some (((2:Int), su, li + (1:Int), at', [], (m, tx, q, hs, b, ()), le, ou, ()), (0:Int), ())))
 else
 (bif (↑c.toNat:Int) == (32:Int) then
 (gd [decide (inK .i64 (li + (1:Int)))] (some (((3:Int), su, li + (1:Int), at', [], (m, tx, q, hs, b, ()), le, ou, ()), (0:Int), ())))
 else
 (bif isVis (UInt8.ofNat (↑c.toNat:Int).toNat) then
 (gd [decide (inK .i64 (li + (1:Int))), decide ((2 * (tx.length + 1) + 400) * 1 ≤ 281474976710656), decide (inK .u8 (↑c.toNat:Int)), decide (inK .u8 (↑c.toNat:Int))] (some ((st, su, li + (1:Int), at', tx ++ [UInt8.ofNat (↑c.toNat:Int).toNat], (m, p, q, hs, b, ()), le, ou, ()), (0:Int), ())))
 else
 (gd [decide (inK .u8 (↑c.toNat:Int))] (some ((st, su, li, at', tx, (m, p, q, hs, b, ()), le, ou, ()), (400:Int), ())))))))
 else
 (bif st == (2:Int) then
 (bif (↑c.toNat:Int) == (32:Int) then
 (gd [decide (inK .i64 (li + (1:Int)))] (some (((3:Int), su, li + (1:Int), at', [], (m, p, tx, hs, b, ()), le, ou, ()), (0:Int), ())))
 else
 (bif isVis (UInt8.ofNat (↑c.toNat:Int).toNat) then
 (gd [decide (inK .i64 (li + (1:Int))), decide ((2 * (tx.length + 1) + 400) * 1 ≤ 281474976710656), decide (inK .u8 (↑c.toNat:Int)), decide (inK .u8 (↑c.toNat:Int))] (some ((st, su, li + (1:Int), at', tx ++ [UInt8.ofNat (↑c.toNat:Int).toNat], (m, p, q, hs, b, ()), le, ou, ()), (0:Int), ())))
 else
 (gd [decide (inK .u8 (↑c.toNat:Int))] (some ((st, su, li, at', tx, (m, p, q, hs, b, ()), le, ou, ()), (400:Int), ())))))
 else
 (bif st == (3:Int) then
 (bif at' == (8:Int) then
 (bif (↑c.toNat:Int) == (13:Int) then
 (some (((4:Int), su, li, (0:Int), tx, (m, p, q, hs, b, ()), le, ou, ()), (0:Int), ()))
 else
 (bif at' == (8:Int) then
 (some ((st, su, li, at', tx, (m, p, q, hs, b, ()), le, ou, ()), (400:Int), ()))
 else
 (bif (↑c.toNat:Int) != (↑(([72, 84, 84, 80, 47, 49, 46, 49] : List UInt8).getD at'.toNat 0).toNat:Int) then
 (gd [decide ((0:Int) ≤ at'), decide (at' < (8:Int))] (some ((st, su, li, at', tx, (m, p, q, hs, b, ()), le, ou, ()), (400:Int), ())))
 else
 (gd [decide (inK .i64 (li + (1:Int))), decide (inK .i64 (at' + (1:Int))), decide ((0:Int) ≤ at'), decide (at' < (8:Int))] (some ((st, su, li + (1:Int), at' + (1:Int), tx, (m, p, q, hs, b, ()), le, ou, ()), (0:Int), ()))))))
 else
 (bif at' == (8:Int) then
 (some ((st, su, li, at', tx, (m, p, q, hs, b, ()), le, ou, ()), (400:Int), ()))
 else
 (bif (↑c.toNat:Int) != (↑(([72, 84, 84, 80, 47, 49, 46, 49] : List UInt8).getD at'.toNat 0).toNat:Int) then
 (gd [decide ((0:Int) ≤ at'), decide (at' < (8:Int))] (some ((st, su, li, at', tx, (m, p, q, hs, b, ()), le, ou, ()), (400:Int), ())))
 else
 (gd [decide (inK .i64 (li + (1:Int))), decide (inK .i64 (at' + (1:Int))), decide ((0:Int) ≤ at'), decide (at' < (8:Int))] (some ((st, su, li + (1:Int), at' + (1:Int), tx, (m, p, q, hs, b, ()), le, ou, ()), (0:Int), ()))))))
 else
 (bif st == (9:Int) then
 (gd [decide (inK .i64 (le - (1:Int))), decide ((2 * (tx.length + 1) + 400) * 1 ≤ 281474976710656), decide (inK .u8 (↑c.toNat:Int))] (bif le - (1:Int) == (0:Int) then
 (gd [decide ((2 * (ou.length + 1) + 400) * 88 ≤ 281474976710656)] (some (((0:Int), su, li, at', [], ([], [], [], [], [], ()), le - (1:Int), ou ++ [(m, p, q, hs, tx ++ [UInt8.ofNat (↑c.toNat:Int).toNat], ())], ()), (0:Int), ())))
 else
 (some ((st, su, li, at', tx ++ [UInt8.ofNat (↑c.toNat:Int).toNat], (m, p, q, hs, b, ()), le - (1:Int), ou, ()), (0:Int), ()))))
 else
 (gd [linesP (st, su, li, at', tx, (m, p, q, hs, b, ()), le, ou, ()) (UInt8.ofNat (↑c.toNat:Int).toNat, ()), decide (inK .u8 (↑c.toNat:Int))] (some (((linesN (st, su, li, at', tx, (m, p, q, hs, b, ()), le, ou, ()) (UInt8.ofNat (↑c.toNat:Int).toNat, ())).fst.fst, (linesN (st, su, li, at', tx, (m, p, q, hs, b, ()), le, ou, ()) (UInt8.ofNat (↑c.toNat:Int).toNat, ())).fst.snd.fst, (linesN (st, su, li, at', tx, (m, p, q, hs, b, ()), le, ou, ()) (UInt8.ofNat (↑c.toNat:Int).toNat, ())).fst.snd.snd.fst, (linesN (st, su, li, at', tx, (m, p, q, hs, b, ()), le, ou, ()) (UInt8.ofNat (↑c.toNat:Int).toNat, ())).fst.snd.snd.snd.fst, (linesN (st, su, li, at', tx, (m, p, q, hs, b, ()), le, ou, ()) (UInt8.ofNat (↑c.toNat:Int).toNat, ())).fst.snd.snd.snd.snd.fst, ((linesN (st, su, li, at', tx, (m, p, q, hs, b, ()), le, ou, ()) (UInt8.ofNat (↑c.toNat:Int).toNat, ())).fst.snd.snd.snd.snd.snd.fst.fst, (linesN (st, su, li, at', tx, (m, p, q, hs, b, ()), le, ou, ()) (UInt8.ofNat (↑c.toNat:Int).toNat, ())).fst.snd.snd.snd.snd.snd.fst.snd.fst, (linesN (st, su, li, at', tx, (m, p, q, hs, b, ()), le, ou, ()) (UInt8.ofNat (↑c.toNat:Int).toNat, ())).fst.snd.snd.snd.snd.snd.fst.snd.snd.fst, (linesN (st, su, li, at', tx, (m, p, q, hs, b, ()), le, ou, ()) (UInt8.ofNat (↑c.toNat:Int).toNat, ())).fst.snd.snd.snd.snd.snd.fst.snd.snd.snd.fst, (linesN (st, su, li, at', tx, (m, p, q, hs, b, ()), le, ou, ()) (UInt8.ofNat (↑c.toNat:Int).toNat, ())).fst.snd.snd.snd.snd.snd.fst.snd.snd.snd.snd.fst, ()), (linesN (st, su, li, at', tx, (m, p, q, hs, b, ()), le, ou, ()) (UInt8.ofNat (↑c.toNat:Int).toNat, ())).fst.snd.snd.snd.snd.snd.snd.fst, (linesN (st, su, li, at', tx, (m, p, q, hs, b, ()), le, ou, ()) (UInt8.ofNat (↑c.toNat:Int).toNat, ())).fst.snd.snd.snd.snd.snd.snd.snd.fst, ()), (linesN (st, su, li, at', tx, (m, p, q, hs, b, ()), le, ou, ()) (UInt8.ofNat (↑c.toNat:Int).toNat, ())).snd.fst, ())))))))))) := by kernel_rfl
theorem ostep_g (x : (sigB).root.Den) (y : DenO (sigB).ts) : ostep x y = fOON Tryz.prog (envO [(65, capS), (73, visS)] [(70, longS), (71, linesS)]) (shOf shstep) Tryz.f51 (sigB) heads0 x y := rfl
noncomputable def stepP : (sigB).root.Den → DenO (sigB).ts → Bool := hid fun x y => (ostep x y).isSome
noncomputable def stepN : (sigB).root.Den → DenO (sigB).ts → (sigB).root.Den × DenO (sigB).rs := hid fun x y => (ostep x y).getD ((sigB).root.dflt, dfltO (sigB).rs)
theorem step_hid {x : (sigB).root.Den} {y : DenO (sigB).ts} {z : (sigB).root.Den × DenO (sigB).rs} (h : ostep x y = some z) : stepP x y = true ∧ stepN x y = z := by
  unfold stepP stepN
  rw [hid_eq, hid_eq]
  simp only [h]
  exact ⟨rfl, rfl⟩
noncomputable def stepS : OSpec := niceO sigB stepP stepN
abbrev shfeed : List (Nat × List (Nat × Sh)) := [(4, [(0, (.obj [.sym, .sym, .sym, .sym, (.vec .byte 5), .sym, .sym, .sym, (.vec (.pair .str (.pair .str .unit)) 59), .sym, .sym, (.vec ReqT 28)])), (1, (.one .sym)), (4, (.one .any)), (5, (.one .sym))])]
noncomputable def hfeed_0 (n : Nat) (t0_0:Int) (t0_1:Int) (t0_2:Int) (t0_3:Int) (t0_4 : List (Ty.Den .byte)) (t0_5 : List UInt8) (t0_6 : List UInt8) (t0_7 : List UInt8) (t0_8 : List (Ty.Den (.pair .str (.pair .str .unit)))) (t0_9 : List UInt8) (t0_10:Int) (t0_11 : List (Ty.Den ReqT)) (t1 : List UInt8) (t5:Int) : Option ((sigF).root.Den × DenO (sigF).rs) := rHO Tryz.prog (envO [] [(51, stepS)]) (shOf shfeed) Tryz.f35 (sigF) [12] n 0 [(0, .pointer (some ⟨12, 0, none⟩)), (1, sy (.string (bs t1))), (4, Value.slice none 0 0), (5, sy (.int .i64 t5))] [.vec .byte t0_4 5, .vec (.pair .str (.pair .str .unit)) t0_8 59, .vec ReqT t0_11 28, .row [sy (.int .i64 t0_0), sy (.int .i64 t0_1), sy (.int .i64 t0_2), sy (.int .i64 t0_3), dt 9, sy (.string (bs t0_5)), sy (.string (bs t0_6)), sy (.string (bs t0_7)), dt 10, sy (.string (bs t0_9)), sy (.int .i64 t0_10), dt 11] 77 false]
noncomputable def ofeed (x : (sigF).root.Den) (y : DenO (sigF).ts) : Option ((sigF).root.Den × DenO (sigF).rs) := fOO Tryz.prog (envO [] [(51, stepS)]) (shOf shfeed) Tryz.f35 (sigF) x y
theorem efeed_g (N : Nat) (st su li at':Int) (tx m p q : List UInt8) (hs : List HeadD) (b : List UInt8) (le:Int) (ou : List ReqD) (s : List UInt8) : fOON Tryz.prog (envO [] [(51, stepS)]) (shOf shfeed) Tryz.f35 (sigF) N (st, su, li, at', tx, (m, p, q, hs, b, ()), le, ou, ()) (s, ()) =
  (hfeed_0 N (st) (su) (li) (at') (tx) (m) (p) (q) (hs) (b) (le) (ou) (s) ((0:Int))) := by kernel_rfl
theorem ofeed_g (x : (sigF).root.Den) (y : DenO (sigF).ts) : ofeed x y = fOON Tryz.prog (envO [] [(51, stepS)]) (shOf shfeed) Tryz.f35 (sigF) heads0 x y := rfl
theorem efeed_0 (n : Nat) (t0_0:Int) (t0_1:Int) (t0_2:Int) (t0_3:Int) (t0_4 : List (Ty.Den .byte)) (t0_5 : List UInt8) (t0_6 : List UInt8) (t0_7 : List UInt8) (t0_8 : List (Ty.Den (.pair .str (.pair .str .unit)))) (t0_9 : List UInt8) (t0_10:Int) (t0_11 : List (Ty.Den ReqT)) (t1 : List UInt8) (t5:Int) : hfeed_0 (n + 1) t0_0 t0_1 t0_2 t0_3 t0_4 t0_5 t0_6 t0_7 t0_8 t0_9 t0_10 t0_11 t1 t5 =
  (bif decide (t5 < (↑t1.length:Int)) then
 (bif t0_1 == (0:Int) then
 (gd [decide (inK .i64 (t5 + (1:Int))), stepP (t0_0, t0_1, t0_2, t0_3, t0_4, (t0_5, t0_6, t0_7, t0_8, t0_9, ()), t0_10, t0_11, ()) (UInt8.ofNat (↑(t1.getD t5.toNat 0).toNat:Int).toNat, ()), decide (inK .u8 (↑(t1.getD t5.toNat 0).toNat:Int)), decide ((0:Int) ≤ t5), decide (t5 < (↑t1.length:Int))] (hfeed_0 n ((stepN (t0_0, t0_1, t0_2, t0_3, t0_4, (t0_5, t0_6, t0_7, t0_8, t0_9, ()), t0_10, t0_11, ()) (UInt8.ofNat (↑(t1.getD t5.toNat 0).toNat:Int).toNat, ())).fst.fst) ((stepN (t0_0, t0_1, t0_2, t0_3, t0_4, (t0_5, t0_6, t0_7, t0_8, t0_9, ()), t0_10, t0_11, ()) (UInt8.ofNat (↑(t1.getD t5.toNat 0).toNat:Int).toNat, ())).snd.fst) ((stepN (t0_0, t0_1, t0_2, t0_3, t0_4, (t0_5, t0_6, t0_7, t0_8, t0_9, ()), t0_10, t0_11, ()) (UInt8.ofNat (↑(t1.getD t5.toNat 0).toNat:Int).toNat, ())).fst.snd.snd.fst) ((stepN (t0_0, t0_1, t0_2, t0_3, t0_4, (t0_5, t0_6, t0_7, t0_8, t0_9, ()), t0_10, t0_11, ()) (UInt8.ofNat (↑(t1.getD t5.toNat 0).toNat:Int).toNat, ())).fst.snd.snd.snd.fst) ((stepN (t0_0, t0_1, t0_2, t0_3, t0_4, (t0_5, t0_6, t0_7, t0_8, t0_9, ()), t0_10, t0_11, ()) (UInt8.ofNat (↑(t1.getD t5.toNat 0).toNat:Int).toNat, ())).fst.snd.snd.snd.snd.fst) ((stepN (t0_0, t0_1, t0_2, t0_3, t0_4, (t0_5, t0_6, t0_7, t0_8, t0_9, ()), t0_10, t0_11, ()) (UInt8.ofNat (↑(t1.getD t5.toNat 0).toNat:Int).toNat, ())).fst.snd.snd.snd.snd.snd.fst.fst) ((stepN (t0_0, t0_1, t0_2, t0_3, t0_4, (t0_5, t0_6, t0_7, t0_8, t0_9, ()), t0_10, t0_11, ()) (UInt8.ofNat (↑(t1.getD t5.toNat 0).toNat:Int).toNat, ())).fst.snd.snd.snd.snd.snd.fst.snd.fst) ((stepN (t0_0, t0_1, t0_2, t0_3, t0_4, (t0_5, t0_6, t0_7, t0_8, t0_9, ()), t0_10, t0_11, ()) (UInt8.ofNat (↑(t1.getD t5.toNat 0).toNat:Int).toNat, ())).fst.snd.snd.snd.snd.snd.fst.snd.snd.fst) ((stepN (t0_0, t0_1, t0_2, t0_3, t0_4, (t0_5, t0_6, t0_7, t0_8, t0_9, ()), t0_10, t0_11, ()) (UInt8.ofNat (↑(t1.getD t5.toNat 0).toNat:Int).toNat, ())).fst.snd.snd.snd.snd.snd.fst.snd.snd.snd.fst) ((stepN (t0_0, t0_1, t0_2, t0_3, t0_4, (t0_5, t0_6, t0_7, t0_8, t0_9, ()), t0_10, t0_11, ()) (UInt8.ofNat (↑(t1.getD t5.toNat 0).toNat:Int).toNat, ())).fst.snd.snd.snd.snd.snd.fst.snd.snd.snd.snd.fst) ((stepN (t0_0, t0_1, t0_2, t0_3, t0_4, (t0_5, t0_6, t0_7, t0_8, t0_9, ()), t0_10, t0_11, ()) (UInt8.ofNat (↑(t1.getD t5.toNat 0).toNat:Int).toNat, ())).fst.snd.snd.snd.snd.snd.snd.fst) ((stepN (t0_0, t0_1, t0_2, t0_3, t0_4, (t0_5, t0_6, t0_7, t0_8, t0_9, ()), t0_10, t0_11, ()) (UInt8.ofNat (↑(t1.getD t5.toNat 0).toNat:Int).toNat, ())).fst.snd.snd.snd.snd.snd.snd.snd.fst) (t1) (t5 + (1:Int))))
 else
 (some ((t0_0, t0_1, t0_2, t0_3, t0_4, (t0_5, t0_6, t0_7, t0_8, t0_9, ()), t0_10, [], ()), t0_11, ())))
  else
 (some ((t0_0, t0_1, t0_2, t0_3, t0_4, (t0_5, t0_6, t0_7, t0_8, t0_9, ()), t0_10, [], ()), t0_11, ()))) := by kernel_rfl
noncomputable def feedP : (sigF).root.Den → DenO (sigF).ts → Bool := hid fun x y => (ofeed x y).isSome
noncomputable def feedN : (sigF).root.Den → DenO (sigF).ts → (sigF).root.Den × DenO (sigF).rs := hid fun x y => (ofeed x y).getD ((sigF).root.dflt, dfltO (sigF).rs)
theorem feed_hid {x : (sigF).root.Den} {y : DenO (sigF).ts} {z : (sigF).root.Den × DenO (sigF).rs} (h : ofeed x y = some z) : feedP x y = true ∧ feedN x y = z := by
  unfold feedP feedN
  rw [hid_eq, hid_eq]
  simp only [h]
  exact ⟨rfl, rfl⟩
noncomputable def feedS : OSpec := niceO sigF feedP feedN
abbrev shidle : List (Nat × List (Nat × Sh)) := []
noncomputable def oidle (x : (sig0b).root.Den) (y : DenO (sig0b).ts) : Option ((sig0b).root.Den × DenO (sig0b).rs) := fOO Tryz.prog (envO [] []) (shOf shidle) Tryz.f36 (sig0b) x y
theorem eidle_g (N : Nat) (st su li at':Int) (tx m p q : List UInt8) (hs : List HeadD) (b : List UInt8) (le:Int) (ou : List ReqD) : fOON Tryz.prog (envO [] []) (shOf shidle) Tryz.f36 (sig0b) N (st, su, li, at', tx, (m, p, q, hs, b, ()), le, ou, ()) () =
  (bif su != (0:Int) then
 (some ((st, su, li, at', tx, (m, p, q, hs, b, ()), le, ou, ()), true, ()))
  else
 (bif st == (0:Int) then
 (bif li == (0:Int) then
 (some ((st, su, li, at', tx, (m, p, q, hs, b, ()), le, ou, ()), true, ()))
 else
 (some ((st, su, li, at', tx, (m, p, q, hs, b, ()), le, ou, ()), false, ())))
 else
 (some ((st, su, li, at', tx, (m, p, q, hs, b, ()), le, ou, ()), false, ())))) := by kernel_rfl
theorem oidle_g (x : (sig0b).root.Den) (y : DenO (sig0b).ts) : oidle x y = fOON Tryz.prog (envO [] []) (shOf shidle) Tryz.f36 (sig0b) heads0 x y := rfl
end Go.Proofs.YtpdbgpkedehpgaaGreatDoor
