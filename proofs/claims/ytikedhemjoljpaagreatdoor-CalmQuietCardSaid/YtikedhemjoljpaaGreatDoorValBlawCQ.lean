/-
  armarium/armariumlaw22.CalmQuiet: the statement, for every input.
  It holds on these conditions, which the card names: the listed variables begin as the text lays them; the program is a pruned copy of the project.
-/
import Derived.Test.YtikedhemjoljpaaGreatDoorLawCQ
import Derived.Test.YtikedhemjoljpaaGreatDoorValAlawCQ
import Derived.Test.YtikedhemjoljpaaGreatDoorFactAlawCQ
import Derived.Test.YtikedhemjoljpaaGreatDoorFactClawCQ
import Derived.Test.YtikedhemjoljpaaGreatDoorFactDlawCQ
import Derived.ReadAgain
import Derived.ChangeBears
namespace Go.Proofs.YtikedhemjoljpaaGreatDoor
open Go Go.Eng Go.ChangeShapes Go.WideShapes Go.ChangeAt Go.RowKit
set_option maxRecDepth 100000

theorem kidsC : Kids Tryz.prog (· < Tryz.prog.types.size) := kids_rows prog_laidOut prog_mapsRowed
theorem fullC : ∀ t e, t < Tryz.prog.types.size → Tryz.prog.underlying t = some (.slice e) → 0 < Tryz.prog.cellsOf e := slices_full_of Tryz.prog (by kernel_rfl)
theorem paramsLt : (Tryz.f8.params.toList.all fun t => decide (t < Tryz.prog.types.size)) = true := by kernel_rfl
theorem params_ty : tyXL (teOf tyT) 10 Tryz.f8.params.toList = some [.int .i64, .int .i64] := by kernel_rfl

theorem lawCQ_contract (H : Type) (enc : TypeId × Value → H) (W : World) (base : Nat) (args : Array Value) (ds gs : List (DataW H)) (before : List MemPlace)
    (hval : ∀ (j : Nat) t v, Tryz.f8.params[j]? = some t → args[j]? = some v → Value.okWide Tryz.prog W .any base t v)
    (hW : DataW.Whole enc Tryz.prog Tryz.f8.params.toList Rows.calmQuietSpec.vars false W args.toList ds gs before)
    (hwt : ∀ z, z ∈ DataW.weightsEach Tryz.prog Tryz.f8.params.toList ds → z ≤ reachBytes)
    (hL : laidMetH Tryz.prog laidAll W) (hsh : W.ShapedOpen Tryz.prog) :
    Calls Tryz.prog 8 args W fun e W' => ∃ v, e = .returned v ∧ Rows.calmQuietSpec.post enc Tryz.prog Tryz.f8 false true false false W args v W' := by
  have hW' := hW
  obtain ⟨p, q, hA, hV, rfl, hfz, hnd⟩ := hW
  obtain ⟨rfl, rfl⟩ := trodVars_none hV
  obtain ⟨x, hx, hb⟩ := trodAll_rd (envS_ok (l := []) trivial).T hA params_ty (fun j t v ht hv => hval j t v (by rw [← Array.getElem?_toList]; exact ht) (by rw [← Array.getElem?_toList]; exact hv)) hwt
  refine (lawCQ_run (glW_of_laid hL hsh) hx hb).mono fun e W' ⟨he, hg⟩ => ?_
  subst he
  refine ⟨_, rfl, ?_⟩
  have hlt : ∀ t, t ∈ Tryz.f8.params.toList → t < Tryz.prog.types.size := fun t ht => by simpa using List.all_eq_true.1 paramsLt t ht
  have hca : ∀ sp : Nat → Bool, (∀ r ∈ p, sp r.block = true) → DataW.TrodAll enc Tryz.prog W' 0 sp true Tryz.f8.params.toList args.toList ds p := fun sp hsp =>
    trodAll_carry hg kidsC fullC hlt hA hsp
  have h2 : ∃ d1 d2, ds = [d1, d2] := by
    have hA2 := hA
    rw [Tryz.params8] at hA2
    obtain ⟨v, v', d, d', p1, p2, -, e, -⟩ := trodAll_two hA2
    exact ⟨d, d', e⟩
  obtain ⟨d1, d2, rfl⟩ := h2
  exact post_same (pa := p) (pv := []) hW' (fun _ _ _ => trodAll_cons_mk (shut_bool Tryz.underlying4 _) trodAll_mk0) (fun sp hsp => hca sp fun r hr => hsp r (List.mem_append.2 (.inl hr))) (fun _ _ => rfl) rfl
    hg (ok_one (by kernel_rfl) rfl (okWide_bool_mk Tryz.underlying4 _))

theorem lawCQ_lifted (os : Os) (started : os.Started) (H : Type) (enc : TypeId × Value → H) (F : Stop.Interp) :
    ReturnsInHanded {} Tryz.checked os 8 .any ((OpenSpec.ofChange Rows.calmQuietSpec).preRow enc Tryz.prog Tryz.f8 Rows.calmQuietRow.domain false Rows.calmQuietRow.laid) (((OpenSpec.ofChange Rows.calmQuietSpec).at F).post enc Tryz.prog Tryz.f8 false true false false) := by
  obtain ⟨places, hx⟩ := w_reads os enc
  refine returnsInHanded_of_row (C := Tryz.checked) (s := OpenSpec.ofChange Rows.calmQuietSpec) ownC started (by kernel_rfl) Tryz.func8
    (witness_row_shaped (enc := enc) (C := Tryz.checked) false (World.laidAll Tryz.prog os laidAll) wArgs (World.laidAll_os _ _ _) (w_shaped os) (w_ok os)
      (OpenSpec.preRow_of_cond 8 hx (by kernel_rfl) (fun k hk => by cases hk) (by kernel_rfl) (laidMetH_of noHandle (w_met os)))) ?_
  intro W base args ds gs before hval hW _ _ hwt hL hsh _
  have hgs : gs = [] := by
    obtain ⟨p, q, hA, hV, -⟩ := hW
    exact (trodVars_none hV).1
  subst hgs
  have hwt' : ∀ z, z ∈ DataW.weightsEach Tryz.prog Tryz.f8.params.toList ds → z ≤ reachBytes := by
    have e : Tryz.f8.params.toList ++ (OpenSpec.ofChange Rows.calmQuietSpec).bare.plain.varTypes Tryz.prog = Tryz.f8.params.toList := by
      rw [show (OpenSpec.ofChange Rows.calmQuietSpec).bare.plain.varTypes Tryz.prog = [] from rfl, List.append_nil]
    have hwt : (DataW.weightsEach Tryz.prog (Tryz.f8.params.toList ++ (OpenSpec.ofChange Rows.calmQuietSpec).bare.plain.varTypes Tryz.prog) (ds ++ [])).all (· ≤ reachBytes) = true := hwt
    rw [e, List.append_nil] at hwt
    intro z hz
    simpa using List.all_eq_true.1 hwt z hz
  exact lawCQ_contract H enc W base args ds [] before hval hW hwt' hL hsh

theorem lawCQ_said : Rows.CalmQuietSaid :=
  OpenClaim.holds_of_cond 8 Tryz.f8 rfl rfl rfl rfl rfl rfl rfl ⟨rfl, rfl, rfl, rfl, rfl⟩ rfl rfl rfl rfl rfl (by kernel_rfl) Tryz.func8 lawCQ_facts
    (of_decide_eq_true (by kernel_rfl)) (by unfold Func.isWrapper; first | (rw [if_pos (by decide +kernel)]; kernel_rfl) | (rw [if_neg (by decide +kernel)]; exact ⟨rfl, rfl⟩))
    (fun os started H enc _ F => by rw [OpenClaim.pre_eq_preRow]; exact lawCQ_lifted os started H enc F)

theorem lawCQ_plain (f : FuncId) (fn : Func) (hf : Tryz.pinned.checked.prog.funcNamed "armarium/armariumlaw22.CalmQuiet" = some f) (hfn : Tryz.pinned.checked.prog.funcs[f]? = some fn) :
    true = Tryz.pinned.checked.prog.looks [] ∧ ∀ (j : Nat) t, fn.params[j]? = some t → Tryz.pinned.checked.prog.wantsStandIn t = false := by
  obtain rfl : f = 8 := Option.some.inj ((show Tryz.prog.funcNamed "armarium/armariumlaw22.CalmQuiet" = some 8 by kernel_rfl).symm.trans hf) |>.symm
  obtain rfl : fn = Tryz.f8 := (Option.some.inj (Tryz.func8.symm.trans hfn)).symm
  refine ⟨lawCQ_looks, fun j t ht => ?_⟩
  have hall : (Tryz.f8.params.toList.all fun t => !(Tryz.pinned.checked.prog.wantsStandIn t)) = true := by kernel_rfl
  have := List.all_eq_true.1 hall t (by rw [← Array.getElem?_toList] at ht; exact List.mem_of_getElem? ht)
  simpa using this

/-- THE CARD -/
theorem lawCQ_card : Rows.CalmQuietCardSaid :=
  Claim7.holds_tied_plain_at .later [] _ _ _ _ lawCQ_said (fun _ h => by cases h) lawCQ_wfText (fun _ h => by cases h) calmQuiet_row_tie rfl ⟨rfl, rfl⟩ lawCQ_mainIs rfl lawCQ_plain lawCQ_goes
#print axioms lawCQ_card
end Go.Proofs.YtikedhemjoljpaaGreatDoor
