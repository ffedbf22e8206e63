/-
  armarium/armariumlaw15.AskTurn: the statement of the second form: for every input that holds at most 1048576 values and letters.
  It holds on these conditions, which the card names: the listed variables begin as the text lays them; the program is a pruned copy of the project.
-/
import Derived.Test.YtpdbgpkedehpgaaGreatDoorLawAT
import Derived.Test.YtpdbgpkedehpgaaGreatDoorValAlawATurn
import Derived.Test.YtpdbgpkedehpgaaGreatDoorFactAlawATurn
import Derived.Test.YtpdbgpkedehpgaaGreatDoorFactClawATurn
import Derived.Test.YtpdbgpkedehpgaaGreatDoorFactDlawATurn
import Derived.ReadAgain
import Derived.ChangeBears
namespace Go.Proofs.YtpdbgpkedehpgaaGreatDoor
open Go Go.Eng Go.ChangeShapes Go.WideShapes Go.ChangeAt Go.RowKit
set_option maxRecDepth 100000

theorem kidsC : Kids Tryz.prog (· < Tryz.prog.types.size) := kids_rows prog_laidOut prog_mapsRowed
theorem fullC : ∀ t e, t < Tryz.prog.types.size → Tryz.prog.underlying t = some (.slice e) → 0 < Tryz.prog.cellsOf e := slices_full_of Tryz.prog (by kernel_rfl)
theorem paramsLt : (Tryz.f10.params.toList.all fun t => decide (t < Tryz.prog.types.size)) = true := by kernel_rfl
theorem params_ty : tyXL (teOf tyT) 10 Tryz.f10.params.toList = some [Nice.ReqT, .int .i64, .str, .int .i64] := by kernel_rfl

theorem bulk_all {H : Type} : ∀ l : List (DataW H), Rows.uptoBulkAll l = (l.map Rows.uptoBulk).sum
  | [] => rfl
  | d :: r => by rw [List.map_cons, List.sum_cons, ← bulk_all r]; rfl
theorem bulk_ok {H : Type} : Bulk (Rows.uptoBulk (H := H)) where
  one := fun d => by
    cases d with
    | lit l => cases l <;> simp [Rows.uptoBulk]
    | _ => simp [Rows.uptoBulk]
  str := fun b => by simp [Rows.uptoBulk]
  sl := fun es sp => by rw [← bulk_all]; simp only [Rows.uptoBulk]; omega
  agg := fun ps => by rw [← bulk_all]; simp only [Rows.uptoBulk]; omega
theorem lawATurn_contract (H : Type) (enc : TypeId × Value → H) (W : World) (base : Nat) (args : Array Value) (ds gs : List (DataW H)) (before : List MemPlace)
    (hval : ∀ (j : Nat) t v, Tryz.f10.params[j]? = some t → args[j]? = some v → Value.okWide Tryz.prog W .any base t v)
    (hW : DataW.Whole enc Tryz.prog Tryz.f10.params.toList Rows.askTurnSpec.vars false W args.toList ds gs before)
    (hwt : ∀ z, z ∈ DataW.weightsEach Tryz.prog Tryz.f10.params.toList ds → z ≤ reachBytes)
    (hL : laidMetH Tryz.prog laidAll W) (hsh : W.ShapedOpen Tryz.prog) (hsm : Rows.uptoBulkAll ds ≤ 1048576) :
    Calls Tryz.prog 10 args W fun e W' => ∃ v, e = .returned v ∧ Rows.askTurnSpec.post enc Tryz.prog Tryz.f10 false true false false W args v W' := by
  have hW' := hW
  obtain ⟨p, q, hA, hV, rfl, hfz, hnd⟩ := hW
  obtain ⟨rfl, rfl⟩ := trodVars_none hV
  obtain ⟨x, hx, hb, hB⟩ := trodAll_rdB (envS_ok (l := []) trivial).T bulk_ok hA params_ty (fun j t v ht hv => hval j t v (by rw [← Array.getElem?_toList]; exact ht) (by rw [← Array.getElem?_toList]; exact hv)) hwt
  refine (lawATurn_run (glW_of_laid hL hsh) hx hb (Nat.le_trans hB (by rw [← bulk_all]; exact hsm))).mono fun e W' ⟨he, hg⟩ => ?_
  subst he
  refine ⟨_, rfl, ?_⟩
  have hlt : ∀ t, t ∈ Tryz.f10.params.toList → t < Tryz.prog.types.size := fun t ht => by simpa using List.all_eq_true.1 paramsLt t ht
  have hca : ∀ sp : Nat → Bool, (∀ r ∈ p, sp r.block = true) → DataW.TrodAll enc Tryz.prog W' 0 sp true Tryz.f10.params.toList args.toList ds p := fun sp hsp =>
    trodAll_carry hg kidsC fullC hlt hA hsp
  have h2 : ∃ d1 d2 d3 d4, ds = [d1, d2, d3, d4] := by
    have hA2 := hA
    rw [Tryz.params10] at hA2
    obtain ⟨v, v', v'', v3, d, d', d'', d3, p1, p2, p3, p4, -, e, -⟩ := trodAll_four hA2
    exact ⟨d, d', d'', d3, e⟩
  obtain ⟨d1, d2, d3, d4, rfl⟩ := h2
  exact post_same (pa := p) (pv := []) hW' (fun _ _ _ => trodAll_cons_mk (shut_bool Tryz.underlying4 _) trodAll_mk0) (fun sp hsp => hca sp fun r hr => hsp r (List.mem_append.2 (.inl hr))) (fun _ _ => rfl) rfl
    hg (ok_one (by kernel_rfl) rfl (okWide_bool_mk Tryz.underlying4 _))

theorem lawATurn_lifted (os : Os) (started : os.Started) (H : Type) (enc : TypeId × Value → H) (F : Stop.Interp) :
    ReturnsInHanded {} Tryz.checked os 10 .any ((Rows.OpenSpec.upto Rows.askTurnSpec).preRow enc Tryz.prog Tryz.f10 Rows.askTurnUptoRow.domain false Rows.askTurnUptoRow.laid) (((Rows.OpenSpec.upto Rows.askTurnSpec).at F).post enc Tryz.prog Tryz.f10 false true false false) := by
  obtain ⟨places, hx⟩ := w_reads os enc
  refine returnsInHanded_of_row (C := Tryz.checked) (s := Rows.OpenSpec.upto Rows.askTurnSpec) ownC started (by kernel_rfl) Tryz.func10
    (witness_row_shaped (enc := enc) (C := Tryz.checked) false (World.laidAll Tryz.prog os laidAll) wArgs (World.laidAll_os _ _ _) (w_shaped os) (w_ok os)
      (OpenSpec.preRow_of_cond 8 hx (by kernel_rfl) (fun k hk => by cases hk; rfl) (by kernel_rfl) (laidMetH_of noHandle (w_met os)))) ?_
  intro W base args ds gs before hval hW _ hcond hwt hL hsh _
  have hgs : gs = [] := by
    obtain ⟨p, q, hA, hV, -⟩ := hW
    exact (trodVars_none hV).1
  subst hgs
  have hsm : Rows.uptoBulkAll ds ≤ 1048576 := by
    have := hcond Rows.uptoSmall rfl
    rw [List.append_nil] at this
    exact of_decide_eq_true this
  have hwt' : ∀ z, z ∈ DataW.weightsEach Tryz.prog Tryz.f10.params.toList ds → z ≤ reachBytes := by
    have e : Tryz.f10.params.toList ++ (Rows.OpenSpec.upto Rows.askTurnSpec).bare.plain.varTypes Tryz.prog = Tryz.f10.params.toList := by
      rw [show (Rows.OpenSpec.upto Rows.askTurnSpec).bare.plain.varTypes Tryz.prog = [] from rfl, List.append_nil]
    have hwt : (DataW.weightsEach Tryz.prog (Tryz.f10.params.toList ++ (Rows.OpenSpec.upto Rows.askTurnSpec).bare.plain.varTypes Tryz.prog) (ds ++ [])).all (· ≤ reachBytes) = true := hwt
    rw [e, List.append_nil] at hwt
    intro z hz
    simpa using List.all_eq_true.1 hwt z hz
  exact lawATurn_contract H enc W base args ds [] before hval hW hwt' hL hsh hsm

theorem lawATurn_said : Rows.AskTurnUptoSaid :=
  OpenClaim.holds_of_cond 10 Tryz.f10 rfl rfl rfl rfl rfl rfl rfl ⟨rfl, rfl, rfl, rfl, rfl⟩ rfl rfl rfl rfl rfl (by kernel_rfl) Tryz.func10 lawATurn_facts
    (of_decide_eq_true (by kernel_rfl)) (by unfold Func.isWrapper; first | (rw [if_pos (by decide +kernel)]; kernel_rfl) | (rw [if_neg (by decide +kernel)]; exact ⟨rfl, rfl⟩))
    (fun os started H enc _ F => by rw [OpenClaim.pre_eq_preRow]; exact lawATurn_lifted os started H enc F)

theorem lawATurn_plain (f : FuncId) (fn : Func) (hf : Tryz.pinned.checked.prog.funcNamed "armarium/armariumlaw15.AskTurn" = some f) (hfn : Tryz.pinned.checked.prog.funcs[f]? = some fn) :
    true = Tryz.pinned.checked.prog.looks [] ∧ ∀ (j : Nat) t, fn.params[j]? = some t → Tryz.pinned.checked.prog.wantsStandIn t = false := by
  obtain rfl : f = 10 := Option.some.inj ((show Tryz.prog.funcNamed "armarium/armariumlaw15.AskTurn" = some 10 by kernel_rfl).symm.trans hf) |>.symm
  obtain rfl : fn = Tryz.f10 := (Option.some.inj (Tryz.func10.symm.trans hfn)).symm
  refine ⟨lawATurn_looks, fun j t ht => ?_⟩
  have hall : (Tryz.f10.params.toList.all fun t => !(Tryz.pinned.checked.prog.wantsStandIn t)) = true := by kernel_rfl
  have := List.all_eq_true.1 hall t (by rw [← Array.getElem?_toList] at ht; exact List.mem_of_getElem? ht)
  simpa using this

/-- THE CARD -/
theorem lawATurn_card : Rows.AskTurnUptoCardSaid :=
  Claim7.holds_tied_plain_at .later [] _ _ _ _ lawATurn_said (fun _ h => by cases h) lawATurn_wfText (fun _ h => by cases h) askTurnUpto_row_tie rfl ⟨rfl, rfl⟩ lawATurn_mainIs rfl lawATurn_plain lawATurn_goes
#print axioms lawATurn_card
end Go.Proofs.YtpdbgpkedehpgaaGreatDoor
