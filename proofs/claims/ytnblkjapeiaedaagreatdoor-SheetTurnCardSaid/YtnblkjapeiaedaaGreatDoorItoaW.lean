/-
  strconv.Itoa as a contract of data. No condition.
-/
import Derived.Test.YtnblkjapeiaedaaGreatDoorSym
import Derived.Test.YtnblkjapeiaedaaGreatDoorShelfW
import Derived.Test.YtnblkjapeiaedaaGreatDoorNiceK
namespace Nice
open Go Go.Eng
def i64P (n : Int) : Bool := decide (-9223372036854775808 ≤ n) && decide (n ≤ 9223372036854775807)
def fmtN (n : Int) : List UInt8 := Lib.itoa n
end Nice
namespace Go.Proofs.YtnblkjapeiaedaaGreatDoor
open Go Go.Eng Nice Go.RowKit Go.Sort
set_option maxRecDepth 1000000
theorem pc_mk {f : FuncId} {S : PSpec} (h : ∀ (fz : Nat → Option (Array Value)) (w : World) (args : Array Value) (x : DenL S.ts), GlW glC w → RdAll fz S.ts x args.toList → S.pre x = true →
    Calls Tryz.prog f args w fun e w' => ∃ vs, e = .returned (resV vs) ∧ RdAll fz S.rs (S.g x) vs ∧ Same w w') : PC f S := by
  intro fz w args x hfz hgl hr hp
  refine (h fz w args x hgl hr hp).mono ?_
  rintro e w' ⟨vs, rfl, hv, hs⟩
  have hlt : ∀ b c, fz b = some c → b < w.heap.size := fun b c hb => by
    obtain ⟨e, fr, h⟩ := hfz b c hb
    exact (Array.getElem?_eq_some_iff.1 h).1
  exact ⟨vs, fz, rfl, fun _ _ h => h, hfz.keep fun b c hb => hs.2.2.2 b (hlt b c hb), fun _ _ h => .inl h, hv, hs⟩
theorem rd_cons' {fz : Nat → Option (Array Value)} {t : Ty} {ts : List Ty} {x : DenL (t :: ts)} {l : List Value} (ht : t.agg = false) (h : RdAll fz (t :: ts) x l) : ∃ v r, l = v :: r ∧ RdC fz t x.1 [v] ∧ RdAll fz ts x.2 r := by
  obtain ⟨v, r, e, hv, hr⟩ := h
  rcases hv with ⟨h, _⟩ | ⟨_, hv⟩
  · rw [ht] at h; cases h
  · exact ⟨v, r, e, hv, hr⟩
theorem pow10C_eq : pow10C = Lib.pow10Tab.map fun z => Value.int .u64 z := by kernel_rfl
theorem pow10_at : Tryz.prog.globalNamed "internal/strconv.uint64pow10" = some 0 := by kernel_rfl
theorem glTab {w : World} (hgl : GlW glC w) : Lib.TabIs Tryz.prog w "internal/strconv.uint64pow10" .u64 Lib.pow10Tab := by
  obtain ⟨c, e, fr, h1, h2⟩ := hgl.2 (0, pow10C) (by simp [glC])
  unfold Lib.TabIs World.var?
  rw [pow10_at]
  simp only [Option.bind_some, h1]
  congr 1
  rw [← pow10C_eq]
  apply Array.ext
  · simpa using h2
  · intro i hi hj
    have hj' : i < pow10C.length := by simpa using hj
    obtain ⟨u, hu, hg⟩ := hgl.1 (0, pow10C) (by simp [glC]) i pow10C[i] (List.getElem?_eq_getElem hj')
    have hz : ∃ z, pow10C[i] = Value.int .u64 z := by
      have hm : pow10C[i] ∈ Lib.pow10Tab.map fun z => Value.int .u64 z := by rw [← pow10C_eq]; exact List.getElem_mem hj'
      obtain ⟨z, _, hz⟩ := List.mem_map.1 hm
      exact ⟨z, hz.symm⟩
    obtain ⟨z, hz⟩ := hz
    have e : u = pow10C[i] := by
      rcases hg with ⟨_, h⟩ | ⟨b, he, _⟩ | ⟨k, m, he, _⟩
      · exact h
      · rw [hz] at he; cases he
      · rw [hz] at he; cases he
    simp only [World.cell?, h1] at hu
    have : c[i]? = some u := by simpa using hu
    rw [Array.getElem?_eq_getElem hi] at this
    rw [Option.some.inj this, e]
    simp
theorem same_grow (w : World) (k : Nat) (os : Array Obj) : Same w (grow (w.drewN k) os) := by
  refine ⟨?_, rfl, rfl, fun b hb => ?_⟩
  · show w.heap.size ≤ (w.heap ++ os).size
    simp
  · show (w.heap ++ os)[b]? = w.heap[b]?
    rw [Array.getElem?_append_left hb]
theorem i64P_iff {n : Int} : i64P n = true ↔ -9223372036854775808 ≤ n ∧ n ≤ 9223372036854775807 := by
  unfold i64P; rw [Bool.and_eq_true, decide_eq_true_eq, decide_eq_true_eq]
end Go.Proofs.YtnblkjapeiaedaaGreatDoor
