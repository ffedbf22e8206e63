/-
  Texts that are none's are told so: the contract. No condition.
-/
import Derived.Test.YtnblkjapeiaedaaGreatDoorQ7
namespace Nice
open Go Go.Eng
noncomputable def rdTS : PSpec := ⟨[.str], [.bool], fun x => decide (x.1.length ≤ 1073741824), fun _ => (true, ())⟩
abbrev dX (d : ShD) : ShD := (d.1, d.2.1, d.2.2.1, d.2.2.2.1, ())
noncomputable def wRd (s : List UInt8) (g : ShD × Int × Unit) : BO :=
  gd [sgetS.pre (s, ())] (bif g.2.1 != 0 then (bif g.2.1 == 1 then (bif eqShN (dX g.1) ([], [], false, [], ()) then gd [eqShP (dX g.1)] (bO true) else gd [eqShP (dX g.1)] (bO false)) else bO false)
    else bif decide ((s.length : Int) ≥ 13) then (bif s.take 6 == begL then (bif s.drop ((s.length : Int) - 7).toNat == endL then gd [decide (0 ≤ (s.length : Int) - 7), decide ((s.length : Int) - 7 ≤ (s.length : Int)), decide (inK .i64 ((s.length : Int) - 7)), decide (6 ≤ (s.length : Int))] (bO true)
        else gd [decide (0 ≤ (s.length : Int) - 7), decide ((s.length : Int) - 7 ≤ (s.length : Int)), decide (inK .i64 ((s.length : Int) - 7)), decide (6 ≤ (s.length : Int))] (bO false)) else gd [decide (6 ≤ (s.length : Int))] (bO false)) else bO false)
theorem wRd_n {s : List UInt8} (h : s.length ≤ 1073741824) : wRd s (sgetN s) = bO true := by
  have hp : sgetS.pre (s, ()) = true := decide_eq_true h
  unfold wRd
  rw [gdB hp, xG]
  rcases sget_cases s with e | ⟨d, e, _, ⟨q, hq⟩, _, _⟩
  · rw [e]; rfl
  · rw [e]
    dsimp only
    have hl : s.length = 6 + q.length + 7 := by
      rw [hq, List.length_append, List.length_append]; rfl
    have ht : s.take 6 = begL := by
      rw [hq, List.append_assoc]; rfl
    have hd : s.drop ((s.length : Int) - 7).toNat = endL := by
      rw [show ((s.length : Int) - 7).toNat = 6 + q.length by omega, hq, show 6 + q.length = (begL ++ q).length by rw [List.length_append]; rfl, List.drop_left]
    rw [show ((0 : Int) != 0) = false from rfl, xF, cdT (by omega), ht, hd, beq_self_eq_true, xT, beq_self_eq_true, xT, gdT (by omega), gdT (by omega), gdT (inK_i64.2 ⟨by omega, by omega⟩), gdT (by omega), xG]
end Nice
namespace Go.Proofs.YtnblkjapeiaedaaGreatDoor
open Go Go.Eng Nice Go.RowKit
set_option maxRecDepth 1000000
noncomputable def ord' (x : DenL [.str]) : BO := fO Tryz.prog (envS [(32, sgetS), (33, eqShS)]) (shOf []) Tryz.f31 [.str] [.bool] x
theorem erd' (s : List UInt8) : ord' (s, ()) = wRd s (sgetN s) := by kernel_rfl
theorem rd_c : PC 31 rdTS := (pureO (envS_ok (l := [(32, sgetS), (33, eqShS)]) ⟨sget_c, eqsh_c, trivial⟩) gl_ne Tryz.func31 (by kernel_rfl) (by decide)).nice fun ⟨s, ()⟩ h => by
  show ord' _ = bO true
  rw [erd', wRd_n (of_decide_eq_true h)]
end Go.Proofs.YtnblkjapeiaedaaGreatDoor
