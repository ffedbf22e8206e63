/-
  strconv.Atoi, strconv.ParseInt and strings.IndexFunc as contracts of data. No condition.
-/
import Derived.Test.YtpdbgpkedehpgaaGreatDoorLib15
import Derived.Test.YtpdbgpkedehpgaaGreatDoorShelf15B
import Derived.Test.YtpdbgpkedehpgaaGreatDoorSym
import Derived.Test.YtpdbgpkedehpgaaGreatDoorA1
import Derived.Lib.AtoiErrMem
import Derived.Tactics2
import Derived.WalkKit
namespace Go.Proofs
open Go.Shelf
open Go.RowKit Go.Lib in
/-- the test of a rune: no digit -/
theorem Tryz.notDig (w : World) : PredAt Tryz.prog 115 #[] encR Nice.notDig w := fun W r _ => by
  unfold FnGives
  by_cases h1 : r < 48 <;> by_cases h2 : 57 < r
  all_goals
    have z1 : (r : Int) < (48 : Int) ↔ r < 48 := by omega
    have z2 : (57 : Int) < (r : Int) ↔ 57 < r := by omega
    go_enter Tryz.func115, Tryz.ntmps115
    go_wp2
    all_goals first | (exfalso; omega) | (go_ret; exact ⟨by simp [Nice.notDig, h1, h2], 0, rfl⟩)
end Go.Proofs

namespace Go.Proofs.YtpdbgpkedehpgaaGreatDoor
open Go Go.Eng Nice Go.RowKit
set_option maxRecDepth 1000000
theorem parse_c : PC 116 parseS := pc_mk fun fz w args x hgl hr hp => by
  obtain ⟨s, b, c, ⟨⟩⟩ := x
  simp only [parseS, Bool.and_eq_true, decide_eq_true_eq] at hp
  obtain ⟨hl, rfl, rfl⟩ := hp
  have hl : s.length ≤ 140737488355328 := of_decide_eq_true hl
  obtain ⟨_, _, e1, h1, hr1⟩ := rd_cons rfl hr
  obtain ⟨_, _, rfl, h2, hr2⟩ := rd_cons rfl hr1
  obtain ⟨_, r3, rfl, h3, hr3⟩ := rd_cons rfl hr2
  obtain rfl : r3 = [] := hr3
  cases h1; cases h2; cases h3
  have ha : args = #[.string (bs s), .int .i64 10, .int .i64 64] := Array.toList_inj.1 e1
  subst ha
  have fin : ∀ (n : Int) (ev : Value) (b : Bool) (w' : World), isE b ev = true → Same w w' → intN s = (n, b) → ∃ vs, Ending.returned (.tuple #[.int .i64 n, ev]) = .returned (resV vs) ∧ RdAll fz parseS.rs (parseS.g (s, 10, 64, ())) vs ∧ Same w w' := by
    intro n ev b w' he hs hn
    refine ⟨[.int .i64 n, ev], rfl, ⟨_, _, rfl, .inr ⟨rfl, ?_⟩, _, _, rfl, .inr ⟨rfl, ?_⟩, rfl⟩, hs⟩
    · show [Value.int .i64 n] = [Value.int .i64 (intN s).1]
      rw [hn]
    · exact ⟨ev, rfl, by show isE (intN s).2 ev = true; rw [hn]; exact he⟩
  have hb : ∀ (p : Nat), (p, [er false]) ∈ glC → ∃ u, w.cell? ⟨p, 0, none⟩ = some u ∧ (u = .nilIface ∨ ∃ te pe, u = .iface te pe) := fun p hm => by
    obtain ⟨u, hu, hg⟩ := hgl.1 _ hm 0 (er false) rfl
    exact ⟨u, hu, glE hg⟩
  rcases h : Lib.parseIntB 64 s with v | _ | _
  · refine (Tryz.strconv_ParseInt_10_at64_ok (bs s) (by rw [bs_len]; omega) v (by rw [bs_data]; exact h) w).mono ?_
    rintro e w' ⟨rfl, hw⟩
    refine fin v .nilIface true w' rfl ?_ (by unfold intN; rw [h])
    rcases hw with rfl | ⟨t, rfl⟩
    · exact same_of (Below.refl _ _)
    · exact same_of (Lib.bytesWorld_below _ _ _)
  · obtain ⟨u, hu, hi⟩ := hb 1 (by simp [glC])
    refine (Tryz.strconv_ParseInt_10_at64_syntax (bs s) (by rw [bs_len]; omega) (by rw [bs_data]; exact h) u w hu hi).mono ?_
    rintro e w' ⟨N, rfl, _, _, hbl⟩
    exact fin 0 _ false w' rfl (same_of hbl) (by unfold intN; rw [h])
  · obtain ⟨u, hu, hi⟩ := hb 2 (by simp [glC])
    refine (Tryz.strconv_ParseInt_10_at64_range (bs s) (by rw [bs_len]; omega) (by rw [bs_data]; exact h) u w hu hi).mono ?_
    rintro e w' ⟨N, rfl, _, _, hbl⟩
    rw [bs_data]
    exact fin _ _ false w' rfl (same_of hbl) (by unfold intN; rw [h])
theorem idxF_c : PC 114 (idxFS 115) := pc_mk fun fz w args x hgl hr hp => by
  obtain ⟨s, u, ⟨⟩⟩ := x
  obtain ⟨_, _, e1, h1, hr1⟩ := rd_cons rfl hr
  obtain ⟨_, r2, rfl, h2, hr2⟩ := rd_cons rfl hr1
  obtain rfl : r2 = [] := hr2
  cases h1; cases h2
  have ha : args = #[.string (bs s), .func (.func 115) #[] #[]] := Array.toList_inj.1 e1
  subst ha
  refine (Tryz.strings_IndexFunc 115 #[] (enters_of Tryz.func115 (by kernel_rfl) rfl) notDig (bs s) w (Tryz.notDig w)).mono ?_
  rintro e w' ⟨rfl, hb⟩
  exact ⟨[_], rfl, ⟨_, _, rfl, .inr ⟨rfl, rfl⟩, rfl⟩, same_of hb⟩
end Go.Proofs.YtpdbgpkedehpgaaGreatDoor
