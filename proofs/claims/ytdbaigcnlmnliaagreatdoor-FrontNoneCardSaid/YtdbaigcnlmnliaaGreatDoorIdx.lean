/-
  The library's contracts for this program: printed by the shelf's own tool (plain mode); and what the engine takes of them. No condition.
-/
import Derived.Test.YtdbaigcnlmnliaaGreatDoorEnv
import Derived.Shelf.Strings.Search2
namespace Go.Proofs
open Go.Shelf
def Tryz.lays219_ren : Go.Shelf.Ren := ⟨fun | 219 => 231 | 217 => 251 | 225 => 247 | 224 => 246 | 267 => 252 | 266 => 278 | 314 => 279 | n => n, fun | 9 => 9 | 3 => 3 | 4 => 4 | 5 => 5 | 46 => 237 | 146 => 309 | 51 => 234 | n => n, fun | 1 => 6 | n => n⟩
theorem Tryz.lays219 : Go.Proofs.Lays.n219 Tryz.prog Tryz.lays219_ren := {
  mixed := by kernel_rfl
  f217 := Tryz.func251.trans (congrArg some (by kernel_rfl))
  f219 := Tryz.func231.trans (congrArg some (by kernel_rfl))
  f224 := Tryz.func246.trans (congrArg some (by kernel_rfl))
  f225 := Tryz.func247.trans (congrArg some (by kernel_rfl))
  f266 := Tryz.func278.trans (congrArg some (by kernel_rfl))
  f267 := Tryz.func252.trans (congrArg some (by kernel_rfl))
  f314 := Tryz.func279.trans (congrArg some (by kernel_rfl))
  t3 := Tryz.underlying3
  a3 := Tryz.isAgg3
  z3 := Tryz.sizeOf3
  v3 := Tryz.zeroValue3
  t4 := Tryz.underlying4
  a4 := Tryz.isAgg4
  z4 := Tryz.sizeOf4
  v4 := Tryz.zeroValue4
  t5 := Tryz.underlying5
  a5 := Tryz.isAgg5
  z5 := Tryz.sizeOf5
  v5 := Tryz.zeroValue5
  t9 := Tryz.underlying9
  a9 := Tryz.isAgg9
  z9 := Tryz.sizeOf9
  v9 := Tryz.zeroValue9
  t46 := Tryz.underlying237
  a46 := Tryz.isAgg237
  z46 := Tryz.sizeOf237
  v46 := Tryz.zeroValue237
  t51 := Tryz.underlying234
  a51 := Tryz.isAgg234
  z51 := Tryz.sizeOf234
  v51 := Tryz.zeroValue234
  t146 := Tryz.underlying309
  a146 := Tryz.isAgg309
  z146 := Tryz.sizeOf309
  v146 := Tryz.zeroValue309
  g1 := by kernel_rfl }
open Go.RowKit Go.Lib in
/-- internal/stringslite.Index (what strings.Index calls) AT A substr OF ONE BYTE c: IT RETURNS 'Lib.indexByte s c'; the world is as it was. (LAID: no walk: one application.) -/
theorem Tryz.stringslite_Index_one (s : ByteArray) (c : UInt8) (w : World) :
    Calls Tryz.prog 231 #[.string s, .string ⟨#[c]⟩] w fun e w' => e = .returned (.int .i64 (Lib.indexByte s.data.toList c)) ∧ w' = w := Any.stringslite_Index_one Tryz.lays219 s c w
open Go.RowKit Go.Lib in
/-- internal/stringslite.Index (what strings.Index calls) AT A substr OF WHATEVER LENGTH: IT RETURNS 'Lib.index s substr'; the world is as it was. 'm': what internal/bytealg.MaxLen holds: whatever. (LAID: no walk: one application.) -/
theorem Tryz.stringslite_Index (s sub : ByteArray) (m : Int) (w : World) (hs : s.size < 4294967281) (hm : w.cell? ⟨6, 0, none⟩ = some (.int .i64 m)) :
    Calls Tryz.prog 231 #[.string s, .string sub] w fun e w' => e = .returned (.int .i64 (Lib.index s.data.toList sub.data.toList)) ∧ w' = w := Any.stringslite_Index Tryz.lays219 s sub m w hs hm
end Go.Proofs
namespace Go.Proofs.YtdbaigcnlmnliaaGreatDoor
open Go Go.Eng
/-- stringslite.Index at texts that are written out -/
noncomputable def sumI (sum : FuncId → List Value → Option Value) (f : FuncId) (a : List Value) : Option Value :=
  bif Nat.beq f 231 then match a with
    | [.string s, .string t] => bif Nat.blt s.size 60 then some (.int .i64 (Lib.index s.data.toList t.data.toList)) else none
    | _ => none
  else sum f a
theorem env_idx {sum : FuncId → List Value → Option Value} {spec : FuncId → Option PSpec} (h : (envC sum spec).OK Tryz.prog) : (envC (sumI sum) spec).OK Tryz.prog :=
  env_ok (fun f a v hs => by
    unfold sumI at hs
    cases hb : Nat.beq f 231
    · rw [hb, cond_false] at hs
      exact h.sum f a v hs
    · rw [hb, cond_true] at hs
      rw [beq_eq hb]
      split at hs
      · rename_i s t
        cases hl : Nat.blt s.size 60
        · rw [hl] at hs; cases hs
        · rw [hl, cond_true] at hs
          cases hs
          have hl : s.size < 60 := by simpa using hl
          refine ⟨rfl, rfl, fun w hw => ?_⟩
          obtain ⟨u, hu, hr⟩ := hw (6, [ai .i64]) (by simp [glC]) 0 (ai .i64) rfl
          rcases hr with ⟨hp, _⟩ | ⟨b, he, _⟩ | ⟨k, m, he, rfl⟩
          · cases hp
          · cases he
          · cases he
            refine (Tryz.stringslite_Index s t m w (by omega) hu).mono ?_
            rintro e w' ⟨rfl, rfl⟩
            exact ⟨rfl, Nat.le_refl _, rfl, rfl, fun _ _ => rfl⟩
      · cases hs) h.spec
end Go.Proofs.YtdbaigcnlmnliaaGreatDoor
