/-
  strconv.Atoi, strconv.ParseInt and strings.IndexFunc as contracts of data. No condition.
-/
import Derived.Test.YtpdbgpkedehpgaaGreatDoorShelf15
import Derived.Test.YtpdbgpkedehpgaaGreatDoorSym
import Derived.Test.YtpdbgpkedehpgaaGreatDoorNiceK
import Derived.Lib.AtoiErrMem
import Derived.Tactics2
import Derived.WalkKit
namespace Go.Proofs.YtpdbgpkedehpgaaGreatDoor
open Go Go.Eng Nice Go.RowKit
set_option maxRecDepth 1000000
theorem glE {v : Value} (h : glR (er false) v) : v = .nilIface ∨ ∃ te pe, v = .iface te pe := by
  rcases h with ⟨hp, _⟩ | ⟨b, _, he⟩ | ⟨k, m, he, _⟩
  · cases hp
  · unfold isE at he
    split at he
    · exact .inl rfl
    · exact .inr ⟨_, _, rfl⟩
    · cases he
  · cases he
theorem same_of {w w' : World} (h : Below w.heap.size w w') : Same w w' := ⟨h.size, h.os, h.output, fun b hb => h.block b hb⟩
theorem bs_data (s : List UInt8) : (bs s).data.toList = s := by simp [bs]
theorem bs_len (s : List UInt8) : (bs s).size = s.length := by simp [bs, ByteArray.size]
/-- a contract whose results are words -/
theorem pc_mk {f : FuncId} {S : PSpec} (h : ∀ (fz : Nat → Option (Array Value)) (w : World) (args : Array Value) (x : DenL S.ts), GlW glC w → RdAll fz S.ts x args.toList → S.pre x = true →
    Calls Tryz.prog f args w fun e w' => ∃ vs, e = .returned (resV vs) ∧ RdAll fz S.rs (S.g x) vs ∧ Same w w') : PC f S := by
  intro fz w args x hfz hgl hr hp
  refine (h fz w args x hgl hr hp).mono ?_
  rintro e w' ⟨vs, rfl, hv, hs⟩
  have hlt : ∀ b c, fz b = some c → b < w.heap.size := fun b c hb => by
    obtain ⟨e, fr, h⟩ := hfz b c hb
    exact (Array.getElem?_eq_some_iff.1 h).1
  exact ⟨vs, fz, rfl, fun _ _ h => h, hfz.keep fun b c hb => hs.2.2.2 b (hlt b c hb), fun _ _ h => .inl h, hv, hs⟩
theorem rd_cons {fz : Nat → Option (Array Value)} {t : Ty} {ts : List Ty} {x : DenL (t :: ts)} {l : List Value} (ht : t.agg = false) (h : RdAll fz (t :: ts) x l) : ∃ v r, l = v :: r ∧ RdC fz t x.1 [v] ∧ RdAll fz ts x.2 r := by
  obtain ⟨v, r, e, hv, hr⟩ := h
  rcases hv with ⟨h, _⟩ | ⟨_, hv⟩
  · rw [ht] at h; cases h
  · exact ⟨v, r, e, hv, hr⟩
theorem atoi_c : PC 64 atoiS := by
  intro fz w args x hfz hgl hr hp
  obtain ⟨s, ⟨⟩⟩ := x
  have hl : s.length ≤ 140737488355328 := of_decide_eq_true hp
  have ha : args = #[.string (bs s)] := by
    obtain ⟨v, r, e1, hv, hr⟩ := hr
    rcases hv with ⟨h, _⟩ | ⟨_, hv⟩
    · cases h
    · cases hv
      cases hr
      exact Array.toList_inj.1 e1
  subst ha
  have fin : ∀ (n : Int) (ev : Value) (b : Bool) (w' : World), isE b ev = true → Same w w' → atoiN s = (n, b) → ∃ vs fz', (Ending.returned (.tuple #[.int .i64 n, ev]) = .returned (resV vs)) ∧ (∀ b c, fz b = some c → fz' b = some c) ∧ FzOK fz' w' ∧ (∀ b c, fz' b = some c → fz b = some c ∨ w.heap.size ≤ b) ∧ RdAll fz' atoiS.rs (atoiS.g (s, ())) vs ∧ Same w w' := by
    intro n ev b w' he hs hn
    have hlt : ∀ b c, fz b = some c → b < w.heap.size := fun b c hb => by
      obtain ⟨e, fr, h⟩ := hfz b c hb
      exact (Array.getElem?_eq_some_iff.1 h).1
    refine ⟨[.int .i64 n, ev], fz, rfl, fun _ _ h => h, hfz.keep fun b c hb => hs.2.2.2 b (hlt b c hb), fun _ _ h => .inl h, ?_, hs⟩
    refine ⟨_, _, rfl, .inr ⟨rfl, ?_⟩, _, _, rfl, .inr ⟨rfl, ?_⟩, rfl⟩
    · show [Value.int .i64 n] = [Value.int .i64 (atoiN s).1]
      rw [hn]
    · exact ⟨ev, rfl, by show isE (atoiN s).2 ev = true; rw [hn]; exact he⟩
  have hb : ∀ (p : Nat) , (p, [er false]) ∈ glC → ∃ u, w.cell? ⟨p, 0, none⟩ = some u ∧ (u = .nilIface ∨ ∃ te pe, u = .iface te pe) := fun p hm => by
    obtain ⟨u, hu, hg⟩ := hgl _ hm 0 (er false) rfl
    exact ⟨u, hu, glE hg⟩
  rcases h : Lib.atoiAll s with v | _ | _
  · refine (Tryz.strconv_Atoi_ok (bs s) (by rw [bs_len]; omega) v (by rw [bs_data]; exact h) w).mono ?_
    rintro e w' ⟨rfl, hw⟩
    refine fin v .nilIface true w' rfl ?_ (by unfold atoiN; rw [h])
    rcases hw with rfl | ⟨t, rfl⟩
    · exact same_of (Below.refl _ _)
    · exact same_of (Lib.bytesWorld_below _ _ _)
  · obtain ⟨u, hu, hi⟩ := hb 1 (by simp [glC])
    refine (Tryz.strconv_Atoi_syntax (bs s) (by rw [bs_len]; omega) (by rw [bs_data]; exact h) u w hu hi).mono ?_
    rintro e w' ⟨N, rfl, _, _, hbl⟩
    exact fin 0 _ false w' rfl (same_of hbl) (by unfold atoiN; rw [h])
  · obtain ⟨u, hu, hi⟩ := hb 2 (by simp [glC])
    refine (Tryz.strconv_Atoi_range (bs s) (by rw [bs_len]; omega) (by rw [bs_data]; exact h) u w hu hi).mono ?_
    rintro e w' ⟨N, rfl, _, _, hbl⟩
    rw [bs_data]
    exact fin _ _ false w' rfl (same_of hbl) (by unfold atoiN; rw [h])
end Go.Proofs.YtpdbgpkedehpgaaGreatDoor
