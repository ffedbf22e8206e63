/-
  What serves every row: the laid variables, a world that holds them, what a row needs behind a call that leaves what stood. No condition.
-/
import Derived.Test.YtpdbgpkedehpgaaGreatDoorEnv
import Derived.Test.YtpdbgpkedehpgaaGreatDoorCards
import Derived.Test.YtpdbgpkedehpgaaGreatDoorTie
import Derived.WalkKit
import Derived.ProofKit
import Derived.OpenShut
import Derived.Deep.DeepHandedRow
import Derived.Lib.LaidTab
namespace Go.Proofs.YtpdbgpkedehpgaaGreatDoor
open Go Go.Eng Go.ChangeShapes Go.WideShapes Go.ChangeAt Go.RowKit
set_option maxRecDepth 100000

theorem ownC : ownKnob Tryz.prog.godebug = none := by kernel_rfl

/-- the rows' list, once -/
noncomputable def laidAll : List (String × DataW Unit) := [("math/bits.deBruijn32tab", Rows.laid_math_bits_deBruijn32tab), ("math/bits.deBruijn64tab", Rows.laid_math_bits_deBruijn64tab), ("internal/strconv.uint64pow10", Rows.laid_internal_strconv_uint64pow10), ("unicode/utf8.acceptRanges", Rows.laid_unicode_utf8_acceptRanges), ("strconv.ErrRange", Rows.laid_strconv_ErrRange), ("strconv.ErrSyntax", Rows.laid_strconv_ErrSyntax), ("unicode/utf8.first", Rows.laid_unicode_utf8_first)]
theorem noHandle : (laidAll.filter fun x => x.2.handleName?.isSome) = [] := by kernel_rfl

theorem pow10_glob : Tryz.prog.globalNamed "internal/strconv.uint64pow10" = some 0 := by kernel_rfl
theorem pow10_type : (Tryz.prog.globals[0]?).map (·.type) = some 245 := by kernel_rfl
theorem pow10_cells : Tryz.prog.cellsOf 245 = 20 := by kernel_rfl
theorem u64_cells : Tryz.prog.cellsOf 74 = 1 := by kernel_rfl
theorem pow10_under : Tryz.prog.underlying 245 = some (.array 20 74) := by kernel_rfl
theorem u64_under : Tryz.prog.underlying 74 = some (.int .u64) := by kernel_rfl
def pow10Z : List Int := [1, 10, 100, 1000, 10000, 100000, 1000000, 10000000, 100000000, 1000000000, 10000000000, 100000000000, 1000000000000, 10000000000000, 100000000000000, 1000000000000000, 10000000000000000, 100000000000000000, 1000000000000000000, 10000000000000000000]
theorem pow10_data : (Rows.laid_internal_strconv_uint64pow10 : DataW Unit) = Lib.tabData .u64 pow10Z := by kernel_rfl

theorem glW_of_laid {W : World} (h : laidMetH Tryz.prog laidAll W) : GlW [(0, pow10C)] W := by
  unfold laidMetH at h
  rw [noHandle] at h
  have h : laidMet Tryz.prog laidAll W := h
  obtain ⟨ps, hL, -⟩ := h
  obtain ⟨_, _, _, _, _, _, -, -, -, -, hL, -⟩ := hL
  obtain ⟨_, _, _, _, _, _, -, -, -, -, hL, -⟩ := hL
  obtain ⟨g, t, cs, fuel, p, q, hg, ht, hvar, hd, -, -⟩ := hL
  obtain rfl := Option.some.inj (pow10_glob.symm.trans hg)
  obtain rfl := Option.some.inj (pow10_type.symm.trans ht)
  rw [pow10_data] at hd
  have hcs := Lib.cells_of_tab pow10_under u64_under u64_cells pow10_cells hd
  intro x hx i c hc
  rw [List.mem_singleton] at hx
  subst hx
  have hv := World.var?_cell hg hvar i
  simp only at hc ⊢
  rw [hv, ← Array.getElem?_toList, hcs]
  exact hc

/-- behind a call that leaves what stood -/
theorem same_frozen {w w' : World} (h : Same w w') (a : Addr) (ha : a.block < w.heap.size) : w'.frozen? a = w.frozen? a := by
  simp only [World.frozen?, h.2.2.2 a.block ha]
theorem same_kept {w w' : World} (h : Same w w') (may : MemPlace → Prop) : w.keptBut w' may := by
  refine ⟨h.2.1, h.2.2.1, fun i hi => ?_⟩
  rw [h.2.2.2 i hi]
  exact (World.keptBut_refl w may).2.2 i hi

theorem post_same {H : Type} {enc : TypeId × Value → H} {P : Program} {f : Func} {s : ChangeSpec} {apart fresh handsOn again : Bool} {W W' : World} {args : Array Value} {v : Value} {ds gs : List (DataW H)} {before pa pv : List MemPlace}
    (hW : DataW.Whole enc P f.params.toList s.vars apart W args.toList ds gs before)
    (hres : ∀ (b : Nat) (sp : Nat → Bool) (hd : Bool), DataW.TrodAll enc P W' b sp hd f.resultTypes.toList (v.resultList f.resultTypes.size) (s.fn H (ds ++ gs)).results [])
    (hargs : ∀ sp : Nat → Bool, (∀ p ∈ before, sp p.block = true) → DataW.TrodAll enc P W' 0 sp true f.params.toList args.toList (s.fn H (ds ++ gs)).args pa)
    (hvars : ∀ sp : Nat → Bool, (∀ p ∈ before, sp p.block = true) → DataW.TrodVars enc P W' sp s.vars (s.fn H (ds ++ gs)).vars pv)
    (hps : before = pa ++ pv) (hs : Same W W')
    (hok : ∀ (j : Nat) (t : TypeId) (r : Value), f.resultTypes[j]? = some t → (v.resultList f.resultTypes.size)[j]? = some r → Value.okWide P W' .any 0 t r) :
    s.post enc P f apart fresh handsOn again W args v W' := by
  have hold : ∀ p ∈ before, (fun b => decide (b < W.heap.size)) p.block = true := fun p hp => by simpa using hW.lt p hp
  have hlt : ∀ p ∈ before, p.block < W.heap.size := fun p hp => hW.lt p hp
  refine ⟨ds, gs, before, [], pa, pv, hW, hres _ _ _, hargs _ hold, hvars _ hold, World.keptBut_mono (fun p hp => ⟨hp, ?_⟩) (same_kept hs (· ∈ before)), fun _ => ?_⟩
  · rw [hps, List.mem_append] at hp
    exact Or.inr hp
  · obtain ⟨_, _, _, _, _, hz, hn⟩ := hW
    refine ⟨hok, _, _, ([] ++ pa) ++ pv, ⟨[] ++ pa, pv, trodAll_append (hargs _ (fun _ _ => rfl)) (hres _ _ _), hvars _ (fun _ _ => rfl), rfl, ?_, ?_⟩, ?_⟩
    · intro b off hp
      have hp' : MemPlace.cell b off ∈ before := by rw [hps]; simpa using hp
      rw [same_frozen hs _ (hlt _ hp')]
      exact hz b off hp'
    · intro ha
      have := hn ha
      rw [hps] at this
      simpa using this
    · intro p hp _
      rw [hps]
      simpa using hp

/-- A WORLD FOR THE WITNESSES: the settled one, the listed variables holding what the program's text lays. -/
def cells1 : DataW Unit → List Value
  | .lit (.int k n) => [.int k n]
  | _ => []
def cells2 : DataW Unit → List Value
  | .agg l => l.flatMap cells1
  | d => cells1 d
def cells3 : DataW Unit → List Value
  | .agg l => l.flatMap cells2
  | d => cells1 d
def layC (c : List Value) : Obj → Obj
  | .cells _ t fr => .cells c.toArray t fr
  | o => o
noncomputable def laidWorld (os : Os) : World :=
  { World.holding Tryz.prog os ⟨#[], #[], []⟩ with heap := (((((((((World.holding Tryz.prog os ⟨#[], #[], []⟩).heap.modify 0 (layC (cells3 Rows.laid_internal_strconv_uint64pow10))).modify 4 (layC (cells3 Rows.laid_math_bits_deBruijn32tab))).modify 5 (layC (cells3 Rows.laid_math_bits_deBruijn64tab))).modify 6 (layC (cells3 Rows.laid_unicode_utf8_first))).modify 7 (layC (cells3 Rows.laid_unicode_utf8_acceptRanges))).modify 1
    (layC [.iface 303 (.pointer (some ⟨(World.holding Tryz.prog os ⟨#[], #[], []⟩).heap.size, 0, none⟩))])).modify 2 (layC [.iface 303 (.pointer (some ⟨(World.holding Tryz.prog os ⟨#[], #[], []⟩).heap.size + 1, 0, none⟩))])).push
    (.cells #[.string ⟨#[105, 110, 118, 97, 108, 105, 100, 32, 115, 121, 110, 116, 97, 120]⟩] 305)).push (.cells #[.string ⟨#[118, 97, 108, 117, 101, 32, 111, 117, 116, 32, 111, 102, 32, 114, 97, 110, 103, 101]⟩] 305) }
theorem laid_met (os : Os) (args : Array Value) : laidMet Tryz.prog laidAll ((laidWorld os).forCall (fun _ _ => 0) ⟨#[], args, []⟩).memory :=
  laidMet_of_run' 12 (by kernel_rfl) (by kernel_rfl)
theorem laid_metH (os : Os) (args : Array Value) : laidMetH Tryz.prog laidAll ((laidWorld os).forCall (fun _ _ => 0) ⟨#[], args, []⟩).memory := by
  unfold laidMetH
  rw [noHandle]
  exact laid_met os args
end Go.Proofs.YtpdbgpkedehpgaaGreatDoor
