/-
  armarium/armariumlaw22.WorldTime: the statement, for every input.
  It holds on these conditions, which the card names: the listed variables begin as the text lays them; the program is a pruned copy of the project.
-/
import Derived.Test.YtikedhemjoljpaaGreatDoorLawWT
import Derived.Test.YtikedhemjoljpaaGreatDoorValAlawWT
import Derived.Test.YtikedhemjoljpaaGreatDoorFactAlawWT
import Derived.Test.YtikedhemjoljpaaGreatDoorFactClawWT
import Derived.Test.YtikedhemjoljpaaGreatDoorFactDlawWT
import Derived.ReadAgain
import Derived.ChangeBears
namespace Go.Proofs.YtikedhemjoljpaaGreatDoor
open Go Go.Eng Go.ChangeShapes Go.WideShapes Go.ChangeAt Go.RowKit
set_option maxRecDepth 100000

theorem kidsC : Kids Tryz.prog (· < Tryz.prog.types.size) := kids_rows prog_laidOut prog_mapsRowed
theorem fullC : ∀ t e, t < Tryz.prog.types.size → Tryz.prog.underlying t = some (.slice e) → 0 < Tryz.prog.cellsOf e := slices_full_of Tryz.prog (by kernel_rfl)
theorem paramsLt : (Tryz.f5.params.toList.all fun t => decide (t < Tryz.prog.types.size)) = true := by kernel_rfl
theorem params_ty : tyXL (teOf tyT) 10 Tryz.f5.params.toList = some [.int .i64, .int .i64] := by kernel_rfl

theorem lawWT_contract (H : Type) (enc : TypeId × Value → H) (W : World) (base : Nat) (args : Array Value) (ds gs : List (DataW H)) (before : List MemPlace)
    (hval : ∀ (j : Nat) t v, Tryz.f5.params[j]? = some t → args[j]? = some v → Value.okWide Tryz.prog W .any base t v)
    (hW : DataW.Whole enc Tryz.prog Tryz.f5.params.toList Rows.worldTimeSpec.vars false W args.toList ds gs before)
    (hwt : ∀ z, z ∈ DataW.weightsEach Tryz.prog Tryz.f5.params.toList ds → z ≤ reachBytes)
    (hL : laidMetH Tryz.prog laidAll W) (hsh : W.ShapedOpen Tryz.prog) :
    Calls Tryz.prog 5 args W fun e W' => ∃ v, e = .returned v ∧ Rows.worldTimeSpec.post enc Tryz.prog Tryz.f5 false true false false W args v W' := by
  have hW' := hW
  obtain ⟨p, q, hA, hV, rfl, hfz, hnd⟩ := hW
  obtain ⟨rfl, rfl⟩ := trodVars_none hV
  obtain ⟨x, hx, hb⟩ := trodAll_rd (envS_ok (l := []) trivial).T hA params_ty (fun j t v ht hv => hval j t v (by rw [← Array.getElem?_toList]; exact ht) (by rw [← Array.getElem?_toList]; exact hv)) hwt
  refine (lawWT_run (glW_of_laid hL hsh) hx hb).mono fun e W' ⟨he, hg⟩ => ?_
  subst he
  refine ⟨_, rfl, ?_⟩
  have hlt : ∀ t, t ∈ Tryz.f5.params.toList → t < Tryz.prog.types.size := fun t ht => by simpa using List.all_eq_true.1 paramsLt t ht
  have hca : ∀ sp : Nat → Bool, (∀ r ∈ p, sp r.block = true) → DataW.TrodAll enc Tryz.prog W' 0 sp true Tryz.f5.params.toList args.toList ds p := fun sp hsp =>
    trodAll_carry hg kidsC fullC hlt hA hsp
  have h2 : ∃ d1 d2, ds = [d1, d2] := by
    have hA2 := hA
    rw [Tryz.params5] at hA2
    obtain ⟨v, v', d, d', p1, p2, -, e, -⟩ := trodAll_two hA2
    exact ⟨d, d', e⟩
  obtain ⟨d1, d2, rfl⟩ := h2
  exact post_same (pa := p) (pv := []) hW' (fun _ _ _ => trodAll_cons_mk (shut_bool Tryz.underlying4 _) trodAll_mk0) (fun sp hsp => hca sp fun r hr => hsp r (List.mem_append.2 (.inl hr))) (fun _ _ => rfl) rfl
    hg (ok_one (by kernel_rfl) rfl (okWide_bool_mk Tryz.underlying4 _))

theorem lawWT_lifted (os : Os) (started : os.Started) (H : Type) (enc : TypeId × Value → H) (F : Stop.Interp) :
    ReturnsInHanded {} Tryz.checked os 5 .any ((OpenSpec.ofChange Rows.worldTimeSpec).preRow enc Tryz.prog Tryz.f5 Rows.worldTimeRow.domain false Rows.worldTimeRow.laid) (((OpenSpec.ofChange Rows.worldTimeSpec).at F).post enc Tryz.prog Tryz.f5 false true false false) := by
  obtain ⟨places, hx⟩ := w_reads os enc
  refine returnsInHanded_of_row (C := Tryz.checked) (s := OpenSpec.ofChange Rows.worldTimeSpec) ownC started (by kernel_rfl) Tryz.func5
    (witness_row_shaped (enc := enc) (C := Tryz.checked) false (World.laidAll Tryz.prog os laidAll) wArgs (World.laidAll_os _ _ _) (w_shaped os) (w_ok os)
      (OpenSpec.preRow_of_cond 8 hx (by kernel_rfl) (fun k hk => by cases hk) (by kernel_rfl) (laidMetH_of noHandle (w_met os)))) ?_
  intro W base args ds gs before hval hW _ _ hwt hL hsh _
  have hgs : gs = [] := by
    obtain ⟨p, q, hA, hV, -⟩ := hW
    exact (trodVars_none hV).1
  subst hgs
  have hwt' : ∀ z, z ∈ DataW.weightsEach Tryz.prog Tryz.f5.params.toList ds → z ≤ reachBytes := by
    have e : Tryz.f5.params.toList ++ (OpenSpec.ofChange Rows.worldTimeSpec).bare.plain.varTypes Tryz.prog = Tryz.f5.params.toList := by
      rw [show (OpenSpec.ofChange Rows.worldTimeSpec).bare.plain.varTypes Tryz.prog = [] from rfl, List.append_nil]
    have hwt : (DataW.weightsEach Tryz.prog (Tryz.f5.params.toList ++ (OpenSpec.ofChange Rows.worldTimeSpec).bare.plain.varTypes Tryz.prog) (ds ++ [])).all (· ≤ reachBytes) = true := hwt
    rw [e, List.append_nil] at hwt
    intro z hz
    simpa using List.all_eq_true.1 hwt z hz
  exact lawWT_contract H enc W base args ds [] before hval hW hwt' hL hsh

theorem lawWT_said : Rows.WorldTimeSaid :=
  OpenClaim.holds_of_cond 5 Tryz.f5 rfl rfl rfl rfl rfl rfl rfl ⟨rfl, rfl, rfl, rfl, rfl⟩ rfl rfl rfl rfl rfl (by kernel_rfl) Tryz.func5 lawWT_facts
    (of_decide_eq_true (by kernel_rfl)) (by unfold Func.isWrapper; first | (rw [if_pos (by decide +kernel)]; kernel_rfl) | (rw [if_neg (by decide +kernel)]; exact ⟨rfl, rfl⟩))
    (fun os started H enc _ F => by rw [OpenClaim.pre_eq_preRow]; exact lawWT_lifted os started H enc F)

theorem lawWT_plain (f : FuncId) (fn : Func) (hf : Tryz.pinned.checked.prog.funcNamed "armarium/armariumlaw22.WorldTime" = some f) (hfn : Tryz.pinned.checked.prog.funcs[f]? = some fn) :
    true = Tryz.pinned.checked.prog.looks [] ∧ ∀ (j : Nat) t, fn.params[j]? = some t → Tryz.pinned.checked.prog.wantsStandIn t = false := by
  obtain rfl : f = 5 := Option.some.inj ((show Tryz.prog.funcNamed "armarium/armariumlaw22.WorldTime" = some 5 by kernel_rfl).symm.trans hf) |>.symm
  obtain rfl : fn = Tryz.f5 := (Option.some.inj (Tryz.func5.symm.trans hfn)).symm
  refine ⟨lawWT_looks, fun j t ht => ?_⟩
  have hall : (Tryz.f5.params.toList.all fun t => !(Tryz.pinned.checked.prog.wantsStandIn t)) = true := by kernel_rfl
  have := List.all_eq_true.1 hall t (by rw [← Array.getElem?_toList] at ht; exact List.mem_of_getElem? ht)
  simpa using this

/-- THE CARD -/
theorem lawWT_card : Rows.WorldTimeCardSaid :=
  Claim7.holds_tied_plain_at .later [] _ _ _ _ lawWT_said (fun _ h => by cases h) lawWT_wfText (fun _ h => by cases h) worldTime_row_tie rfl ⟨rfl, rfl⟩ lawWT_mainIs rfl lawWT_plain lawWT_goes
#print axioms lawWT_card
end Go.Proofs.YtikedhemjoljpaaGreatDoor
