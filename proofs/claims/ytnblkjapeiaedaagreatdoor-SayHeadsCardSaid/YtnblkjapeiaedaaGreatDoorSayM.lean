/-
  Which answers may be, as the document says: the contract of its May. No condition.
-/
import Derived.Test.YtnblkjapeiaedaaGreatDoorSayR
namespace Nice
open Go Go.Eng
def cH (c : UInt8) (x : Option (DenL [.bool])) : Option (DenL [.bool]) := bif (c.toNat : Int) != 45 then bO false else x
def cD (c : UInt8) (x : Option (DenL [.bool])) : Option (DenL [.bool]) := bif decide ((c.toNat : Int) < 48) then cH c x else bif decide ((c.toNat : Int) > 57) then cH c x else x
def cA (c : UInt8) (x : Option (DenL [.bool])) : Option (DenL [.bool]) := bif decide ((c.toNat : Int) < 97) then cD c x else bif decide ((c.toNat : Int) > 122) then cD c x else x
noncomputable def step1 (nm : List UInt8) (j : Int) (nx nx2 : Option (DenL [.bool])) : Option (DenL [.bool]) :=
  bif decide (j < (nm.length : Int)) then gd [decide (0 ≤ j), decide (j < ((lower nm).length : Int)), lowerP nm] (cA ((lower nm).getD j.toNat 0) (gd [decide (inK .i64 (j + 1))] nx)) else nx2
noncomputable def step2 (v : List UInt8) (i j : Int) (nx nx0 : Option (DenL [.bool])) : Option (DenL [.bool]) :=
  bif decide (j < (v.length : Int)) then
    (bif decide (((v.getD j.toNat 0).toNat : Int) < 32) then gd [decide (0 ≤ j), decide (j < (v.length : Int))] (bO false)
    else bif decide (((v.getD j.toNat 0).toNat : Int) > 126) then gd [decide (0 ≤ j), decide (j < (v.length : Int)), decide (0 ≤ j), decide (j < (v.length : Int))] (bO false)
    else gd [decide (inK .i64 (j + 1)), decide (0 ≤ j), decide (j < (v.length : Int)), decide (0 ≤ j), decide (j < (v.length : Int))] nx)
  else gd [decide (inK .i64 (i + 1))] nx0
noncomputable def cV (nm v : List UInt8) (nx : Option (DenL [.bool])) : Option (DenL [.bool]) :=
  bif !v == [] then
    (bif ((v.getD 0 0).toNat : Int) == 32 then gd [decide ((0 : Int) < (v.length : Int)), lowerP nm] (bO false)
    else bif ((v.getD ((v.length : Int) - 1).toNat 0).toNat : Int) == 32 then gd [decide ((0 : Int) ≤ (v.length : Int) - 1), decide ((v.length : Int) - 1 < (v.length : Int)), decide (inK .i64 ((v.length : Int) - 1)), decide ((0 : Int) < (v.length : Int)), lowerP nm] (bO false)
    else gd [decide ((0 : Int) ≤ (v.length : Int) - 1), decide ((v.length : Int) - 1 < (v.length : Int)), decide (inK .i64 ((v.length : Int) - 1)), decide ((0 : Int) < (v.length : Int)), lowerP nm] nx)
  else gd [lowerP nm] nx
noncomputable def step0 (hs : List HeadD) (i : Int) (nx : HeadD → Option (DenL [.bool])) : Option (DenL [.bool]) :=
  bif decide (i < (hs.length : Int)) then gd [decide (i.toNat < hs.length), decide (0 ≤ i), decide (i < (hs.length : Int)), decide (i.toNat < hs.length), decide (0 ≤ i), decide (i < (hs.length : Int))]
    (bif decide (((hs.getD i.toNat (HeadT).dflt).1.length : Int) < 1) then bO false
    else bif decide (((hs.getD i.toNat (HeadT).dflt).1.length : Int) > 30) then bO false
    else bif decide (((hs.getD i.toNat (HeadT).dflt).2.1.length : Int) > 100) then bO false
    else bif lower (hs.getD i.toNat (HeadT).dflt).1 == clen then gd [lowerP (hs.getD i.toNat (HeadT).dflt).1] (bO false)
    else cV (hs.getD i.toNat (HeadT).dflt).1 (hs.getD i.toNat (HeadT).dflt).2.1 (nx (hs.getD i.toNat (HeadT).dflt)))
  else bO true
def stepM (n : Int) (hs : List HeadD) (b : List UInt8) (nx : Option (DenL [.bool])) : Option (DenL [.bool]) :=
  bif wordsN n == [] then bO false else bif decide ((hs.length : Int) > 10) then bO false else bif decide ((b.length : Int) > 20000) then bO false else bif n == 204 then (bif !b == [] then bO false else nx) else nx
end Nice
namespace Go.Proofs.YtnblkjapeiaedaaGreatDoor
open Go Go.Eng Nice Go.RowKit
set_option maxRecDepth 1000000
abbrev shrmay : List (Nat × List (Nat × Sh)) := [(4, [(1, (.obj [.sym, (.dat (.pair .str (.pair .str .unit))), .sym])), (2, (.one .sym)), (3, (.one .sym))]), (10, [(1, (.obj [.sym, (.dat (.pair .str (.pair .str .unit))), .sym])), (2, (.one .sym)), (3, (.one .sym)), (4, (.one .sym)), (5, (.one .sym)), (6, (.one .sym))]), (16, [(1, (.obj [.sym, (.dat (.pair .str (.pair .str .unit))), .sym])), (2, (.one .sym)), (3, (.one .sym)), (4, (.one .sym)), (5, (.one .sym)), (6, (.one .sym)), (8, (.one .sym))])]
noncomputable def hm0 (k : Nat) (n : Int) (hs : List HeadD) (b : List UInt8) (q : Bool) (i : Int) : Option (DenL [.bool]) := rH Tryz.prog (envS [(21, wordsS), (41, lowerS)]) (shOf shrmay) Tryz.f18 [.bool] k 0 [(1, .pointer (some ⟨11, 0, none⟩)), (2, .bool q), (3, sy (.int .i64 i))] [.dat (.pair .str (.pair .str .unit)) hs, .row [sy (.int .i64 n), dt 10, sy (.string (bs b))] 24 false]
noncomputable def hm1 (k : Nat) (n : Int) (hs : List HeadD) (b : List UInt8) (q : Bool) (i : Int) (nm v : List UInt8) (j : Int) : Option (DenL [.bool]) := rH Tryz.prog (envS [(21, wordsS), (41, lowerS)]) (shOf shrmay) Tryz.f18 [.bool] k 1 [(1, .pointer (some ⟨11, 0, none⟩)), (2, .bool q), (3, sy (.int .i64 i)), (4, sy (.string (bs nm))), (5, sy (.string (bs v))), (6, sy (.int .i64 j))] [.dat (.pair .str (.pair .str .unit)) hs, .row [sy (.int .i64 n), dt 10, sy (.string (bs b))] 24 false]
noncomputable def hm2 (k : Nat) (n : Int) (hs : List HeadD) (b : List UInt8) (q : Bool) (i : Int) (nm v : List UInt8) (j l : Int) : Option (DenL [.bool]) := rH Tryz.prog (envS [(21, wordsS), (41, lowerS)]) (shOf shrmay) Tryz.f18 [.bool] k 2 [(1, .pointer (some ⟨11, 0, none⟩)), (2, .bool q), (3, sy (.int .i64 i)), (4, sy (.string (bs nm))), (5, sy (.string (bs v))), (6, sy (.int .i64 j)), (8, sy (.int .i64 l))] [.dat (.pair .str (.pair .str .unit)) hs, .row [sy (.int .i64 n), dt 10, sy (.string (bs b))] 24 false]
noncomputable def ormay (x : DenL [AnsT]) : Option (DenL [.bool]) := fO Tryz.prog (envS [(21, wordsS), (41, lowerS)]) (shOf shrmay) Tryz.f18 [AnsT] [.bool] x
theorem ormay_g (x : DenL [AnsT]) : ormay x = fON Tryz.prog (envS [(21, wordsS), (41, lowerS)]) (shOf shrmay) Tryz.f18 [AnsT] [.bool] heads0 x := rfl
theorem ermay_g (N : Nat) (n : Int) (hs : List HeadD) (b : List UInt8) : fON Tryz.prog (envS [(21, wordsS), (41, lowerS)]) (shOf shrmay) Tryz.f18 [AnsT] [.bool] N ((n, hs, b, ()), ()) = stepM n hs b (hm0 N n hs b false 0) := by kernel_rfl
theorem em0 (k : Nat) (n : Int) (hs : List HeadD) (b : List UInt8) (q : Bool) (i : Int) : hm0 (k + 1) n hs b q i = step0 hs i fun h => hm1 k n hs b q i h.1 h.2.1 0 := by kernel_rfl
theorem em1 (k : Nat) (n : Int) (hs : List HeadD) (b : List UInt8) (q : Bool) (i : Int) (nm v : List UInt8) (j : Int) : hm1 (k + 1) n hs b q i nm v j = step1 nm j (hm1 k n hs b q i nm v (j + 1)) (hm2 k n hs b q i nm v j 0) := by kernel_rfl
theorem em2 (k : Nat) (n : Int) (hs : List HeadD) (b : List UInt8) (q : Bool) (i : Int) (nm v : List UInt8) (j l : Int) : hm2 (k + 1) n hs b q i nm v j l = step2 v i l (hm2 k n hs b q i nm v j (l + 1)) (hm0 k n hs b q (i + 1)) := by kernel_rfl
end Go.Proofs.YtnblkjapeiaedaaGreatDoor
