/-
  What serves every row: the laid variables, a world that holds them, what a row needs behind a call that leaves what stood. No condition.
-/
import Derived.Test.YtikedhemjoljpaaGreatDoorEnv
import Derived.Test.YtikedhemjoljpaaGreatDoorCards
import Derived.Test.YtikedhemjoljpaaGreatDoorTieB
import Derived.WalkKit
import Derived.ProofKit
import Derived.OpenShut
import Derived.Deep.DeepHandedRow
import Derived.Lib.LaidTab
import Derived.Lay
import Derived.Shelf.Strings.Shaped
namespace Go.Proofs.YtikedhemjoljpaaGreatDoor
open Go Go.Eng Go.ChangeShapes Go.WideShapes Go.ChangeAt Go.RowKit
set_option maxRecDepth 100000

theorem ownC : ownKnob Tryz.prog.godebug = none := by kernel_rfl

/-- the rows' list, once -/
noncomputable def laidAll : List (String × DataW Unit) := [("internal/strconv.uint64pow10", Rows.laid_internal_strconv_uint64pow10), ("math/bits.deBruijn32tab", Rows.laid_math_bits_deBruijn32tab), ("math/bits.deBruijn64tab", Rows.laid_math_bits_deBruijn64tab), ("strconv.ErrSyntax", Rows.laid_strconv_ErrSyntax), ("strconv.ErrRange", Rows.laid_strconv_ErrRange), ("unicode/utf8.first", Rows.laid_unicode_utf8_first), ("unicode/utf8.acceptRanges", Rows.laid_unicode_utf8_acceptRanges), ("unicode.CaseRanges", Rows.laid_unicode_CaseRanges)]
theorem noHandle : (laidAll.filter fun x => x.2.handleName?.isSome) = [] := by kernel_rfl

theorem laid_at {P : Program} {w : World} : ∀ {l : List (String × DataW Unit)} {ps : List MemPlace}, DataW.LaidVars P w l ps → ∀ n d, (n, d) ∈ l → ∃ g t cs fuel p, P.globalNamed n = some g ∧ (P.globals[g]?).map (·.type) = some t ∧ w.var? P n = some cs ∧ DataW.trod (fun _ => ()) P w 0 (fun _ => true) false fuel t cs.toList = some (d, p)
  | [], _, _, n, d, h => by cases h
  | x :: l, ps, h, n, d, hm => by
    obtain ⟨g, t, cs, fuel, p, q, hg, ht, hvar, hd, hL, -⟩ := h
    rcases List.mem_cons.1 hm with rfl | hm
    · exact ⟨g, t, cs, fuel, p, hg, ht, hvar, hd⟩
    · exact laid_at hL n d hm
theorem iface_of_trod {P : Program} {w : World} {fuel : Nat} {t : TypeId} {i} {cs : List Value} {nm : String} {d : DataW Unit} {p : List MemPlace} (ht : P.underlying t = some (.interface i))
    (h : DataW.trod (fun _ => ()) P w 0 (fun _ => true) false fuel t cs = some (.iface nm d, p)) : ∃ u v, cs = [.iface u v] := by
  cases fuel with
  | zero => simp [DataW.trod] at h
  | succ fuel =>
    simp only [DataW.trod, ht] at h
    split at h <;> first | (rename_i hh; cases hh; done) | skip
    all_goals first | exact ⟨_, _, rfl⟩ | cases h

theorem pow10_glob : Tryz.prog.globalNamed "internal/strconv.uint64pow10" = some 1 := by kernel_rfl
theorem pow10_type : (Tryz.prog.globals[1]?).map (·.type) = some 417 := by kernel_rfl
theorem pow10_cells : Tryz.prog.cellsOf 417 = 20 := by kernel_rfl
theorem u64_cells : Tryz.prog.cellsOf 383 = 1 := by kernel_rfl
theorem pow10_under : Tryz.prog.underlying 417 = some (.array 20 383) := by kernel_rfl
theorem u64_under : Tryz.prog.underlying 383 = some (.int .u64) := by kernel_rfl
def pow10Z : List Int := [1, 10, 100, 1000, 10000, 100000, 1000000, 10000000, 100000000, 1000000000, 10000000000, 100000000000, 1000000000000, 10000000000000, 100000000000000, 1000000000000000, 10000000000000000, 100000000000000000, 1000000000000000000, 10000000000000000000]
theorem pow10_data : (Rows.laid_internal_strconv_uint64pow10 : DataW Unit) = Lib.tabData .u64 pow10Z := by kernel_rfl
theorem pow10_gl {W : World} {ps : List MemPlace} (hL : DataW.LaidVars Tryz.prog W laidAll ps) (i : Nat) (c : Value) (hc : pow10C[i]? = some c) : ∃ u, W.cell? ⟨1, i, none⟩ = some u ∧ glR c u := by
  obtain ⟨g, t, cs, fuel, p, hg, ht, hvar, hd⟩ := laid_at hL "internal/strconv.uint64pow10" Rows.laid_internal_strconv_uint64pow10 (by simp [laidAll])
  obtain rfl := Option.some.inj (pow10_glob.symm.trans hg)
  obtain rfl := Option.some.inj (pow10_type.symm.trans ht)
  rw [pow10_data] at hd
  have hcs := Lib.cells_of_tab pow10_under u64_under u64_cells pow10_cells hd
  have hp : plainN 8 c = true := by
    have : (pow10C.all (plainN 8)) = true := by kernel_rfl
    exact List.all_eq_true.1 this c (List.mem_of_getElem? hc)
  refine ⟨c, ?_, .inl ⟨hp, rfl⟩⟩
  rw [World.var?_cell hg hvar, ← Array.getElem?_toList, hcs]
  exact hc

theorem ErrSyntax_glob : Tryz.prog.globalNamed "strconv.ErrSyntax" = some 5 := by kernel_rfl
theorem ErrSyntax_type : (Tryz.prog.globals[5]?).map (·.type) = some 377 := by kernel_rfl
theorem ErrSyntax_under : ∃ i, Tryz.prog.underlying 377 = some (.interface i) := by
  have h : (match Tryz.prog.underlying 377 with | some (.interface _) => true | _ => false) = true := by kernel_rfl
  split at h
  · rename_i i hi; exact ⟨i, hi⟩
  · cases h
theorem ErrSyntax_gl {W : World} {ps : List MemPlace} (hL : DataW.LaidVars Tryz.prog W laidAll ps) (i : Nat) (c : Value) (hc : [er false][i]? = some c) : ∃ u, W.cell? ⟨5, i, none⟩ = some u ∧ glR c u := by
  obtain ⟨g, t, cs, fuel, p, hg, ht, hvar, hd⟩ := laid_at hL "strconv.ErrSyntax" Rows.laid_strconv_ErrSyntax (by simp [laidAll])
  obtain rfl := Option.some.inj (ErrSyntax_glob.symm.trans hg)
  obtain rfl := Option.some.inj (ErrSyntax_type.symm.trans ht)
  obtain ⟨j, hj⟩ := ErrSyntax_under
  obtain ⟨u, v, hcs⟩ := iface_of_trod hj hd
  rcases i with _ | i
  · simp only [List.getElem?_cons_zero, Option.some.injEq] at hc
    subst hc
    refine ⟨.iface u v, ?_, .inr (.inl ⟨false, rfl, rfl⟩)⟩
    rw [World.var?_cell hg hvar, ← Array.getElem?_toList, hcs]
    rfl
  · simp at hc

theorem ErrRange_glob : Tryz.prog.globalNamed "strconv.ErrRange" = some 6 := by kernel_rfl
theorem ErrRange_type : (Tryz.prog.globals[6]?).map (·.type) = some 377 := by kernel_rfl
theorem ErrRange_under : ∃ i, Tryz.prog.underlying 377 = some (.interface i) := by
  have h : (match Tryz.prog.underlying 377 with | some (.interface _) => true | _ => false) = true := by kernel_rfl
  split at h
  · rename_i i hi; exact ⟨i, hi⟩
  · cases h
theorem ErrRange_gl {W : World} {ps : List MemPlace} (hL : DataW.LaidVars Tryz.prog W laidAll ps) (i : Nat) (c : Value) (hc : [er false][i]? = some c) : ∃ u, W.cell? ⟨6, i, none⟩ = some u ∧ glR c u := by
  obtain ⟨g, t, cs, fuel, p, hg, ht, hvar, hd⟩ := laid_at hL "strconv.ErrRange" Rows.laid_strconv_ErrRange (by simp [laidAll])
  obtain rfl := Option.some.inj (ErrRange_glob.symm.trans hg)
  obtain rfl := Option.some.inj (ErrRange_type.symm.trans ht)
  obtain ⟨j, hj⟩ := ErrRange_under
  obtain ⟨u, v, hcs⟩ := iface_of_trod hj hd
  rcases i with _ | i
  · simp only [List.getElem?_cons_zero, Option.some.injEq] at hc
    subst hc
    refine ⟨.iface u v, ?_, .inr (.inl ⟨false, rfl, rfl⟩)⟩
    rw [World.var?_cell hg hvar, ← Array.getElem?_toList, hcs]
    rfl
  · simp at hc

theorem maxLen_cell {W : World} (h : W.ShapedOpen Tryz.prog) : ∃ m, W.cell? ⟨2, 0, none⟩ = some (.int .i64 m) :=
  Go.Proofs.cell_of_shapedOpen_int (zero := #[.int .i64 0]) (t := 3) h (of_decide_eq_true (by kernel_rfl)) (by kernel_rfl) rfl (by kernel_rfl) (by kernel_rfl) Tryz.underlying3
theorem maxLen_gl {W : World} (h : W.ShapedOpen Tryz.prog) (i : Nat) (c : Value) (hc : [ai .i64][i]? = some c) : ∃ u, W.cell? ⟨2, i, none⟩ = some u ∧ glR c u := by
  rcases i with _ | i
  · simp only [List.getElem?_cons_zero, Option.some.injEq] at hc
    subst hc
    obtain ⟨m, hm⟩ := maxLen_cell h
    exact ⟨_, hm, .inr (.inr ⟨_, _, rfl, rfl⟩)⟩
  · simp at hc

theorem gl_size {W : World} (h : W.ShapedOpen Tryz.prog) {g : Nat} {zero : Array Value} {t : TypeId} (hg : g < Tryz.prog.globals.size) (h0 : ((begin Tryz.prog (fun _ _ => 0) default).world.heap[g]?).bind Obj.row? = some (zero, t)) :
    ∃ (c : Array Value) (e : TypeId) (fr : Nat × Nat), W.heap[g]? = some (.cells c e fr) ∧ c.size = zero.size := by
  obtain ⟨cs, h1, h2, -⟩ := h.1 g zero t hg h0
  exact ⟨cs, t, _, h1, h2⟩
theorem glW_of_laid {W : World} (h : laidMetH Tryz.prog laidAll W) (hsh : W.ShapedOpen Tryz.prog) : GlW glC W := by
  unfold laidMetH at h
  rw [noHandle] at h
  have h : laidMet Tryz.prog laidAll W := h
  obtain ⟨ps, hL, -⟩ := h
  refine ⟨fun x hx i c hc => ?_, fun x hx => ?_⟩
  · unfold glC at hx
    simp only [List.mem_cons, List.not_mem_nil, or_false] at hx
    rcases hx with rfl | rfl | rfl | rfl
    · exact pow10_gl hL i c hc
    · exact ErrSyntax_gl hL i c hc
    · exact ErrRange_gl hL i c hc
    · exact maxLen_gl hsh i c hc
  · unfold glC at hx
    simp only [List.mem_cons, List.not_mem_nil, or_false] at hx
    rcases hx with rfl | rfl | rfl | rfl
    · exact gl_size (zero := Array.replicate 20 (.int .u64 0)) (t := 417) hsh (of_decide_eq_true (by kernel_rfl)) (by kernel_rfl)
    · exact gl_size (zero := #[.nilIface]) (t := 377) hsh (of_decide_eq_true (by kernel_rfl)) (by kernel_rfl)
    · exact gl_size (zero := #[.nilIface]) (t := 377) hsh (of_decide_eq_true (by kernel_rfl)) (by kernel_rfl)
    · exact gl_size (zero := #[.int .i64 0]) (t := 3) hsh (of_decide_eq_true (by kernel_rfl)) (by kernel_rfl)

/-- behind a call that leaves what stood -/
theorem same_frozen {w w' : World} (h : Same w w') (a : Addr) (ha : a.block < w.heap.size) : w'.frozen? a = w.frozen? a := by
  simp only [World.frozen?, h.2.2.2 a.block ha]
theorem same_kept {w w' : World} (h : Same w w') (may : MemPlace → Prop) : w.keptBut w' may := by
  refine ⟨h.2.1, h.2.2.1, fun i hi => ?_⟩
  rw [h.2.2.2 i hi]
  exact (World.keptBut_refl w may).2.2 i hi

theorem post_same {H : Type} {enc : TypeId × Value → H} {P : Program} {f : Func} {s : ChangeSpec} {apart fresh handsOn again : Bool} {W W' : World} {args : Array Value} {v : Value} {ds gs : List (DataW H)} {before pa pv : List MemPlace}
    (hW : DataW.Whole enc P f.params.toList s.vars apart W args.toList ds gs before)
    (hres : ∀ (b : Nat) (sp : Nat → Bool) (hd : Bool), DataW.TrodAll enc P W' b sp hd f.resultTypes.toList (v.resultList f.resultTypes.size) (s.fn H (ds ++ gs)).results [])
    (hargs : ∀ sp : Nat → Bool, (∀ p ∈ before, sp p.block = true) → DataW.TrodAll enc P W' 0 sp true f.params.toList args.toList (s.fn H (ds ++ gs)).args pa)
    (hvars : ∀ sp : Nat → Bool, (∀ p ∈ before, sp p.block = true) → DataW.TrodVars enc P W' sp s.vars (s.fn H (ds ++ gs)).vars pv)
    (hps : before = pa ++ pv) (hs : Same W W')
    (hok : ∀ (j : Nat) (t : TypeId) (r : Value), f.resultTypes[j]? = some t → (v.resultList f.resultTypes.size)[j]? = some r → Value.okWide P W' .any 0 t r) :
    s.post enc P f apart fresh handsOn again W args v W' := by
  have hold : ∀ p ∈ before, (fun b => decide (b < W.heap.size)) p.block = true := fun p hp => by simpa using hW.lt p hp
  have hlt : ∀ p ∈ before, p.block < W.heap.size := fun p hp => hW.lt p hp
  refine ⟨ds, gs, before, [], pa, pv, hW, hres _ _ _, hargs _ hold, hvars _ hold, World.keptBut_mono (fun p hp => ⟨hp, ?_⟩) (same_kept hs (· ∈ before)), fun _ => ?_⟩
  · rw [hps, List.mem_append] at hp
    exact Or.inr hp
  · obtain ⟨_, _, _, _, _, hz, hn⟩ := hW
    refine ⟨hok, _, _, ([] ++ pa) ++ pv, ⟨[] ++ pa, pv, trodAll_append (hargs _ (fun _ _ => rfl)) (hres _ _ _), hvars _ (fun _ _ => rfl), rfl, ?_, ?_⟩, ?_⟩
    · intro b off hp
      have hp' : MemPlace.cell b off ∈ before := by rw [hps]; simpa using hp
      rw [same_frozen hs _ (hlt _ hp')]
      exact hz b off hp'
    · intro ha
      have := hn ha
      rw [hps] at this
      simpa using this
    · intro p hp _
      rw [hps]
      simpa using hp
theorem laidMetH_of {l : List (String × DataW Unit)} {w : World} (hn : (l.filter fun x => x.2.handleName?.isSome) = []) (h : laidMet Tryz.prog l w) : laidMetH Tryz.prog l w := by
  unfold laidMetH
  rw [hn]
  exact h
/-- 'there is an input that fits', the shape being known -/
theorem witness_row_shaped {H : Type} {enc : TypeId × Value → H} {C : Checked} {os : Os} {f : FuncId} {fn : Func} {s : OpenSpec} {conds : List PathCond} {apart : Bool} {laid : List (String × DataW Unit)} (modest : Bool) (w0 : World) (args : Array Value) (hos : w0.os = os)
    (hsh : (w0.forCall (fun _ _ => 0) ⟨#[], args, []⟩).Shaped C.prog)
    (hok : Input.okWideB C.prog (w0.forCall (fun _ _ => 0) ⟨#[], args, []⟩) f ⟨#[], args, []⟩ = true)
    (hrow : s.preRow enc C.prog fn conds apart laid (w0.forCall (fun _ _ => 0) ⟨#[], args, []⟩).memory args) :
    ∃ (w : World) (tape : Tape) (i : Input), w.os = os ∧ (w.forCall tape i).Shaped C.prog ∧ i.vars = [] ∧ Input.okWide C.prog (w.forCall tape i) .any w.heap.size f i ∧
      s.preRow enc C.prog fn conds apart laid (w.forCall tape i).memory i.args ∧ ({ modest := modest } : Assume).holds C.prog (lone (Frame.enter C.prog f i.args .normal) [] (w.forCall tape i)) :=
  ⟨w0, fun _ _ => 0, ⟨#[], args, []⟩, hos, hsh, (Input.okWide_of_okWideB (base := 0) hok).1, (Input.okWide_of_okWideB hok).2, hrow, by
    simp only [Assume.holds]
    exact ⟨by simp, by simp, fun _ => Modest.zero, by simp, by simp⟩⟩
end Go.Proofs.YtikedhemjoljpaaGreatDoor
