/-
  strconv.Atoi, strconv.ParseInt and strings.IndexFunc as contracts of data. No condition.
-/
import Derived.Test.YtpdbgpkedehpgaaGreatDoorShelf15
import Derived.Test.YtpdbgpkedehpgaaGreatDoorSym
import Derived.Test.YtpdbgpkedehpgaaGreatDoorA1
import Derived.Lib.AtoiErrMem
import Derived.Tactics2
import Derived.WalkKit
namespace Go.Proofs.YtpdbgpkedehpgaaGreatDoor
open Go Go.Eng Nice Go.RowKit
set_option maxRecDepth 1000000
theorem glE {v : Value} (h : glR (er false) v) : v = .nilIface ∨ ∃ te pe, v = .iface te pe := by
  rcases h with ⟨hp, _⟩ | ⟨b, _, he⟩ | ⟨k, m, he, _⟩
  · cases hp
  · unfold isE at he
    split at he
    · exact .inl rfl
    · exact .inr ⟨_, _, rfl⟩
    · cases he
  · cases he
theorem same_of {w w' : World} (h : Below w.heap.size w w') : Same w w' := ⟨h.size, h.os, h.output, fun b hb => h.block b hb⟩
theorem bs_data (s : List UInt8) : (bs s).data.toList = s := by simp [bs]
theorem bs_len (s : List UInt8) : (bs s).size = s.length := by simp [bs, ByteArray.size]
/-- a contract whose results are words -/
theorem pc_mk {f : FuncId} {S : PSpec} (h : ∀ (fz : Nat → Option (Array Value)) (w : World) (args : Array Value) (x : DenL S.ts), GlW glC w → RdAll fz S.ts x args.toList → S.pre x = true →
    Calls Tryz.prog f args w fun e w' => ∃ vs, e = .returned (resV vs) ∧ RdAll fz S.rs (S.g x) vs ∧ Same w w') : PC f S := by
  intro fz w args x hfz hgl hr hp
  refine (h fz w args x hgl hr hp).mono ?_
  rintro e w' ⟨vs, rfl, hv, hs⟩
  have hlt : ∀ b c, fz b = some c → b < w.heap.size := fun b c hb => by
    obtain ⟨e, fr, h⟩ := hfz b c hb
    exact (Array.getElem?_eq_some_iff.1 h).1
  exact ⟨vs, fz, rfl, fun _ _ h => h, hfz.keep fun b c hb => hs.2.2.2 b (hlt b c hb), fun _ _ h => .inl h, hv, hs⟩
theorem rd_cons {fz : Nat → Option (Array Value)} {t : Ty} {ts : List Ty} {x : DenL (t :: ts)} {l : List Value} (ht : t.agg = false) (h : RdAll fz (t :: ts) x l) : ∃ v r, l = v :: r ∧ RdC fz t x.1 [v] ∧ RdAll fz ts x.2 r := by
  obtain ⟨v, r, e, hv, hr⟩ := h
  rcases hv with ⟨h, _⟩ | ⟨_, hv⟩
  · rw [ht] at h; cases h
  · exact ⟨v, r, e, hv, hr⟩
end Go.Proofs.YtpdbgpkedehpgaaGreatDoor
