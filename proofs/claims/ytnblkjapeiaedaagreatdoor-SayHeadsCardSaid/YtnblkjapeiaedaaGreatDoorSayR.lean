/-
  Which answers may be, as the document says: the contracts of its Lower and May. No condition.
-/
import Derived.Test.YtnblkjapeiaedaaGreatDoorSayC
namespace Nice
open Go Go.Eng
/-! ### Lower -/
noncomputable def g3 (l : List UInt8) (i : Int) (r : List Bool) : List Bool := decide (i.toNat < l.length) :: decide (0 ≤ i) :: decide (i < (l.length : Int)) :: r
noncomputable def stepL (l : List UInt8) (i : Int) (nx : List UInt8 → Option (DenL [.str])) : Option (DenL [.str]) :=
  bif decide (i < (l.length : Int)) then
    bif decide (((l.getD i.toNat Ty.byte.dflt).toNat : Int) ≥ 65) then
      bif decide (((l.getD i.toNat Ty.byte.dflt).toNat : Int) ≤ 90) then
        gd (decide (inK .i64 (i + 1)) :: decide (i.toNat < l.length) :: decide (inK .u8 (IntKind.u8.wrap (((l.getD i.toNat Ty.byte.dflt).toNat : Int) + 32))) :: decide (0 ≤ i) :: decide (i < (l.length : Int)) :: g3 l i (g3 l i (g3 l i []))) (nx (l.set i.toNat (UInt8.ofNat (IntKind.u8.wrap (((l.getD i.toNat Ty.byte.dflt).toNat : Int) + 32)).toNat)))
      else gd (decide (inK .i64 (i + 1)) :: g3 l i (g3 l i [])) (nx l)
    else gd (decide (inK .i64 (i + 1)) :: g3 l i []) (nx l)
  else some (l, ())
theorem g3_ok {l : List UInt8} {i : Nat} (h : i < l.length) {r : List Bool} {α : Type} {o : Option α} : gd (g3 l (i : Int) r) o = gd r o := by
  unfold g3
  rw [gdT (show ((i : Int)).toNat < l.length from h), gdT (by omega), gdT (by omega)]
theorem lo_upX {c : UInt8} (h1 : 65 ≤ c.toNat) (h2 : c.toNat ≤ 90) : UInt8.ofNat (IntKind.u8.wrap ((c.toNat : Int) + 32)).toNat = lo c := by
  have : (List.range 256).all (fun n => !(decide (65 ≤ n) && decide (n ≤ 90)) || (UInt8.ofNat (IntKind.u8.wrap (((UInt8.ofNat n).toNat : Int) + 32)).toNat == lo (UInt8.ofNat n))) = true := by kernel_rfl
  have := List.all_eq_true.1 this c.toNat (List.mem_range.2 c.toNat_lt)
  rw [decide_eq_true h1, decide_eq_true h2, UInt8.ofNat_toNat] at this
  exact beq_iff_eq.1 this
theorem lo_sameX {c : UInt8} (h : ¬ (65 ≤ c.toNat ∧ c.toNat ≤ 90)) : lo c = c := by
  unfold lo
  rw [if_neg]
  rintro ⟨a, b⟩
  exact h ⟨UInt8.le_iff_toNat_le.1 a, UInt8.le_iff_toNat_le.1 b⟩
end Nice
namespace Go.Proofs.YtnblkjapeiaedaaGreatDoor
open Go Go.Eng Nice Go.RowKit
set_option maxRecDepth 1000000
abbrev shrlow : List (Nat × List (Nat × Sh)) := [(3, [(2, (.one .sym)), (3, (.one (.vec .byte 5))), (4, (.one .sym))])]
noncomputable def hrlow (n : Nat) (t l : List UInt8) (i : Int) : Option (DenL [.str]) := rH Tryz.prog (envS []) (shOf shrlow) Tryz.f41 [.str] n 0 [(2, sy (.string (bs t))), (3, dt 10), (4, sy (.int .i64 i))] [.vec .byte l 5]
noncomputable def orlow (x : DenL [.str]) : Option (DenL [.str]) := fO Tryz.prog (envS []) (shOf shrlow) Tryz.f41 [.str] [.str] x
theorem orlow_g (x : DenL [.str]) : orlow x = fON Tryz.prog (envS []) (shOf shrlow) Tryz.f41 [.str] [.str] heads0 x := rfl
theorem erlow_g (N : Nat) (s : List UInt8) : fON Tryz.prog (envS []) (shOf shrlow) Tryz.f41 [.str] [.str] N (s, ()) = hrlow N [] s 0 := by kernel_rfl
theorem erlow_0 (n : Nat) (t l : List UInt8) (i : Int) : hrlow (n + 1) t l i = stepL l i fun l' => hrlow n t l' (i + 1) := by kernel_rfl
theorem rlow_l (t : List UInt8) : ∀ (r : List UInt8) (a : List UInt8) (n : Nat), a.length + r.length ≤ 140737488355328 → r.length < n → hrlow n t (a ++ r) (a.length : Int) = some (a ++ lower r, ())
  | [], a, n, hl, hn => by
    obtain ⟨n, rfl⟩ : ∃ k, n = k + 1 := ⟨n - 1, by omega⟩
    rw [erlow_0]
    unfold stepL
    rw [cdF (by rw [List.append_nil]; omega)]; rfl
  | c :: r, a, n, hl, hn => by
    obtain ⟨n, rfl⟩ : ∃ k, n = k + 1 := ⟨n - 1, by simp only [List.length_cons] at hn; omega⟩
    simp only [List.length_cons] at hl hn
    have hlt : a.length < (a ++ c :: r).length := by simp
    have hg : (a ++ c :: r).getD a.length Ty.byte.dflt = c := getD_mid a r c _
    have key := rlow_l t r (a ++ [lo c]) n (by simp; omega) (by omega)
    have e1 : a ++ [lo c] ++ r = a ++ lo c :: r := by simp
    have e2 : a ++ [lo c] ++ lower r = a ++ lower (c :: r) := by simp [lower]
    rw [e1, e2, List.length_append] at key
    simp only [List.length_singleton, Int.natCast_add, Int.natCast_one] at key
    have hi : inK .i64 ((a.length : Int) + 1) := inK_i64.2 ⟨by omega, by omega⟩
    rw [erlow_0]
    unfold stepL
    rw [cdT (by omega), show ((a.length : Int)).toNat = a.length from rfl, hg]
    by_cases h1 : (c.toNat : Int) ≥ 65
    · by_cases h2 : (c.toNat : Int) ≤ 90
      · have hw := lo_upX (c := c) (by omega) (by omega)
        have hu : inK .u8 (IntKind.u8.wrap ((c.toNat : Int) + 32)) := inK_u8.2 (by rw [wrap_u8]; omega)
        rw [cdT h1, cdT h2, gdT hi, gdT hlt, gdT hu, gdT (by omega), gdT (by omega), g3_ok hlt, g3_ok hlt, g3_ok hlt, xG, hw, set_mid]
        exact key
      · rw [lo_sameX (by omega)] at key
        rw [cdT h1, cdF h2, gdT hi, g3_ok hlt, g3_ok hlt, xG]
        exact key
    · rw [lo_sameX (by omega)] at key
      rw [cdF h1, gdT hi, g3_ok hlt, xG]
      exact key
theorem rlow_c : PC 41 lowerS := (pureO (sh := shOf shrlow) (envS_ok (l := []) trivial) gl_ne Tryz.func41 (by kernel_rfl) (by decide)).nice fun ⟨s, ()⟩ h => by
  have hs : s.length ≤ 140737488355328 := of_decide_eq_true h
  show orlow _ = some (lower s, ())
  rw [orlow_g, erlow_g]
  exact rlow_l [] s [] heads0 (by simpa using hs) (by unfold heads0; omega)
end Go.Proofs.YtnblkjapeiaedaaGreatDoor
