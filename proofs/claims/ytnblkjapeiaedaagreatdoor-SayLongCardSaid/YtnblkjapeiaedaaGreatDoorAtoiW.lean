/-
  strconv.Atoi as a contract of data. No condition.
-/
import Derived.Test.YtnblkjapeiaedaaGreatDoorShelfU
import Derived.Test.YtnblkjapeiaedaaGreatDoorP1
import Derived.Lib.AtoiErrMem
import Derived.Tactics2
import Derived.WalkKit
namespace Go.Proofs.YtnblkjapeiaedaaGreatDoor
open Go Go.Eng Nice Go.RowKit
set_option maxRecDepth 1000000
theorem glE {v : Value} (h : glR (er false) v) : v = .nilIface ∨ ∃ te pe, v = .iface te pe := by
  rcases h with ⟨hp, _⟩ | ⟨b, _, he⟩ | ⟨k, m, he, _⟩
  · cases hp
  · unfold isE at he
    split at he
    · exact .inl rfl
    · exact .inr ⟨_, _, rfl⟩
    · cases he
  · cases he
theorem same_ofA {w w' : World} (h : Below w.heap.size w w') : Same w w' := ⟨h.size, h.os, h.output, fun b hb => h.block b hb⟩
theorem bs_dataA (s : List UInt8) : (bs s).data.toList = s := by simp [bs]
theorem bs_lenA (s : List UInt8) : (bs s).size = s.length := by simp [bs, ByteArray.size]
theorem atoi_c : PC 138 atoiS := by
  intro fz w args x hfz hgl hr hp
  obtain ⟨s, ⟨⟩⟩ := x
  have hl : s.length ≤ 140737488355328 := of_decide_eq_true hp
  have ha : args = #[.string (bs s)] := by
    obtain ⟨v, r, e1, hv, hr⟩ := hr
    rcases hv with ⟨h, _⟩ | ⟨_, hv⟩
    · cases h
    · cases hv
      cases hr
      exact Array.toList_inj.1 e1
  subst ha
  have fin : ∀ (n : Int) (ev : Value) (b : Bool) (w' : World), isE b ev = true → Same w w' → atoiN s = (n, b) → ∃ vs fz', (Ending.returned (.tuple #[.int .i64 n, ev]) = .returned (resV vs)) ∧ (∀ b c, fz b = some c → fz' b = some c) ∧ FzOK fz' w' ∧ (∀ b c, fz' b = some c → fz b = some c ∨ w.heap.size ≤ b) ∧ RdAll fz' atoiS.rs (atoiS.g (s, ())) vs ∧ Same w w' := by
    intro n ev b w' he hs hn
    have hlt : ∀ b c, fz b = some c → b < w.heap.size := fun b c hb => by
      obtain ⟨e, fr, h⟩ := hfz b c hb
      exact (Array.getElem?_eq_some_iff.1 h).1
    refine ⟨[.int .i64 n, ev], fz, rfl, fun _ _ h => h, hfz.keep fun b c hb => hs.2.2.2 b (hlt b c hb), fun _ _ h => .inl h, ?_, hs⟩
    refine ⟨_, _, rfl, .inr ⟨rfl, ?_⟩, _, _, rfl, .inr ⟨rfl, ?_⟩, rfl⟩
    · show [Value.int .i64 n] = [Value.int .i64 (atoiN s).1]
      rw [hn]
    · exact ⟨ev, rfl, by show isE (atoiN s).2 ev = true; rw [hn]; exact he⟩
  have hb : ∀ (p : Nat) , (p, [er false]) ∈ glC → ∃ u, w.cell? ⟨p, 0, none⟩ = some u ∧ (u = .nilIface ∨ ∃ te pe, u = .iface te pe) := fun p hm => by
    obtain ⟨u, hu, hg⟩ := hgl.1 _ hm 0 (er false) rfl
    exact ⟨u, hu, glE hg⟩
  rcases h : Lib.atoiAll s with v | _ | _
  · refine (Tryz.strconv_Atoi_ok (bs s) (by rw [bs_lenA]; omega) v (by rw [bs_dataA]; exact h) w).mono ?_
    rintro e w' ⟨rfl, hw⟩
    refine fin v .nilIface true w' rfl ?_ (by unfold atoiN; rw [h])
    rcases hw with rfl | ⟨t, rfl⟩
    · exact same_ofA (Below.refl _ _)
    · exact same_ofA (Lib.bytesWorld_below _ _ _)
  · obtain ⟨u, hu, hi⟩ := hb 2 (by simp [glC])
    refine (Tryz.strconv_Atoi_syntax (bs s) (by rw [bs_lenA]; omega) (by rw [bs_dataA]; exact h) u w hu hi).mono ?_
    rintro e w' ⟨N, rfl, _, _, hbl⟩
    exact fin 0 _ false w' rfl (same_ofA hbl) (by unfold atoiN; rw [h])
  · obtain ⟨u, hu, hi⟩ := hb 3 (by simp [glC])
    refine (Tryz.strconv_Atoi_range (bs s) (by rw [bs_lenA]; omega) (by rw [bs_dataA]; exact h) u w hu hi).mono ?_
    rintro e w' ⟨N, rfl, _, _, hbl⟩
    rw [bs_dataA]
    exact fin _ _ false w' rfl (same_ofA hbl) (by unfold atoiN; rw [h])
end Go.Proofs.YtnblkjapeiaedaaGreatDoor
