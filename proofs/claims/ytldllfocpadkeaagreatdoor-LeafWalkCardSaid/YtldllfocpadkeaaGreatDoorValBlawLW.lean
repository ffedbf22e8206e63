/-
  armarium/armariumlaw19.LeafWalk: the statement, for every input.
  It holds on these conditions, which the card names: the listed variables begin as the text lays them; the program is a pruned copy of the project.
-/
import Derived.Test.YtldllfocpadkeaaGreatDoorG9
import Derived.Test.YtldllfocpadkeaaGreatDoorValAlawLW
import Derived.Test.YtldllfocpadkeaaGreatDoorFactAlawLW
import Derived.Test.YtldllfocpadkeaaGreatDoorFactClawLW
import Derived.Test.YtldllfocpadkeaaGreatDoorFactDlawLW
import Derived.ReadAgain
import Derived.ChangeBears
namespace Go.Proofs.YtldllfocpadkeaaGreatDoor
open Go Go.Eng Go.ChangeShapes Go.WideShapes Go.ChangeAt Go.RowKit
set_option maxRecDepth 100000
theorem kidsC:Kids Tryz.prog (· <Tryz.prog.types.size):=kids_rows prog_laidOut prog_mapsRowed
theorem fullC:∀t e,t<Tryz.prog.types.size→Tryz.prog.underlying t=some (.slice e)→0<Tryz.prog.cellsOf e:=slices_full_of Tryz.prog (by kernel_rfl)
theorem paramsLt:(Tryz.f10.params.toList.all fun t=>decide (t<Tryz.prog.types.size))=true:=by kernel_rfl
theorem params_ty:tyXL (teOf tyT) 10 Tryz.f10.params.toList=some [Nice.StT,.str,.str,.int .i64,.bool]:=by kernel_rfl
theorem lawLW_contract (H:Type) (enc:TypeId×Value→H) (W:World) (base:Nat) (args:Array Value) (ds gs:List (DataW H)) (before:List MemPlace)
  (hval:∀(j:Nat) t v,Tryz.f10.params[j]?=some t→args[j]?=some v→Value.okWide Tryz.prog W .any base t v)
  (hW:DataW.Whole enc Tryz.prog Tryz.f10.params.toList Rows.leafWalkSpec.vars false W args.toList ds gs before)
  (hwt:∀z,z∈DataW.weightsEach Tryz.prog Tryz.f10.params.toList ds→z≤reachBytes)
  (hL:laidMetH Tryz.prog laidAll W) (hsh:W.ShapedOpen Tryz.prog):
  Calls Tryz.prog 10 args W fun e W'=>∃v,e=.returned v∧Rows.leafWalkSpec.post enc Tryz.prog Tryz.f10 false true false false W args v W':=by
 have hW':=hW;obtain⟨p,q,hA,hV,rfl,hfz,hnd⟩:=hW;obtain⟨rfl,rfl⟩:=trodVars_none hV;obtain⟨x,hx,hb⟩:=trodAll_rd (envS_ok (l:=[]) trivial).T hA params_ty (fun j t v ht hv=>hval j t v (by rw[←Array.getElem?_toList];exact ht) (by rw[←Array.getElem?_toList];exact hv)) hwt;refine(lawLW_run (glW_of_laid hL hsh) hx hb).mono fun e W' ⟨he,hg⟩=> ?_
 subst he;refine⟨_,rfl,?_⟩;have hlt:∀t,t∈Tryz.f10.params.toList→t<Tryz.prog.types.size:=fun t ht=>by simpa using List.all_eq_true.1 paramsLt t ht
 have hca:∀sp:Nat→Bool,(∀r∈p,sp r.block=true)→DataW.TrodAll enc Tryz.prog W' 0 sp true Tryz.f10.params.toList args.toList ds p:=fun sp hsp=>
  trodAll_carry hg kidsC fullC hlt hA hsp
 have h2:∃d1 d2 d3 d4 d5,ds=[d1,d2,d3,d4,d5]:=by
  have hA2:=hA;rw[Tryz.params10] at hA2;obtain⟨v,vs,d,ds',p1,q1, -,rfl,rfl, -,hr⟩:=trodAll_cons hA2;obtain⟨v2,vs2,d2,ds2,p2,q2, -,rfl,rfl, -,hr2⟩:=trodAll_cons hr;obtain⟨v3,vs3,d3,ds3,p3,q3, -,rfl,rfl, -,hr3⟩:=trodAll_cons hr2;obtain⟨v4,vs4,d4,ds4,p4,q4, -,rfl,rfl, -,hr4⟩:=trodAll_cons hr3;obtain⟨v5,vs5,d5,ds5,p5,q5, -,rfl,rfl, -,hr5⟩:=trodAll_cons hr4
  obtain⟨_,rfl,_⟩:=trodAll_nil hr5;exact⟨d,d2,d3,d4,d5,rfl⟩
 obtain⟨d1,d2,d3,d4,d5,rfl⟩:=h2;exact post_same (pa:=p) (pv:=[]) hW' (fun _ _ _=>trodAll_cons_mk (shut_bool Tryz.underlying4 _) trodAll_mk0) (fun sp hsp=>hca sp fun r hr=>hsp r (List.mem_append.2 (.inl hr))) (fun _ _=>rfl) rfl
  hg (ok_one (by kernel_rfl) rfl (okWide_bool_mk Tryz.underlying4 _))
theorem lawLW_lifted (os:Os) (started:os.Started) (H:Type) (enc:TypeId×Value→H) (F:Stop.Interp):
  ReturnsInHanded {} Tryz.checked os 10 .any ((OpenSpec.ofChange Rows.leafWalkSpec).preRow enc Tryz.prog Tryz.f10 Rows.leafWalkRow.domain false Rows.leafWalkRow.laid) (((OpenSpec.ofChange Rows.leafWalkSpec).at F).post enc Tryz.prog Tryz.f10 false true false false):=by
 obtain⟨places,hx⟩:=w_reads os enc;refine returnsInHanded_of_row (C:=Tryz.checked) (s:=OpenSpec.ofChange Rows.leafWalkSpec) ownC started (by kernel_rfl) Tryz.func10
  (witness_row_shaped (enc:=enc) (C:=Tryz.checked) false (World.laidAll Tryz.prog os laidAll) wArgs (World.laidAll_os _ _ _) (w_shaped os) (w_ok os)
   (OpenSpec.preRow_of_cond 8 hx (by kernel_rfl) (fun k hk=>by cases hk) (by kernel_rfl) (laidMetH_of noHandle (w_met os)))) ?_
 intro W base args ds gs before hval hW _ _ hwt hL hsh _;have hgs:gs=[]:=by
  obtain⟨p,q,hA,hV, -⟩:=hW;exact(trodVars_none hV).1
 subst hgs;have hwt':∀z,z∈DataW.weightsEach Tryz.prog Tryz.f10.params.toList ds→z≤reachBytes:=by
  have e:Tryz.f10.params.toList++(OpenSpec.ofChange Rows.leafWalkSpec).bare.plain.varTypes Tryz.prog=Tryz.f10.params.toList:=by
   rw[show(OpenSpec.ofChange Rows.leafWalkSpec).bare.plain.varTypes Tryz.prog=[] from rfl,List.append_nil]
  have hwt:(DataW.weightsEach Tryz.prog (Tryz.f10.params.toList++(OpenSpec.ofChange Rows.leafWalkSpec).bare.plain.varTypes Tryz.prog) (ds++[])).all (· ≤reachBytes)=true:=hwt;rw[e,List.append_nil] at hwt;intro z hz;simpa using List.all_eq_true.1 hwt z hz
 exact lawLW_contract H enc W base args ds [] before hval hW hwt' hL hsh
theorem lawLW_said:Rows.LeafWalkSaid:=
 OpenClaim.holds_of_cond 10 Tryz.f10 rfl rfl rfl rfl rfl rfl rfl ⟨rfl,rfl,rfl,rfl,rfl⟩ rfl rfl rfl rfl rfl (by kernel_rfl) Tryz.func10 lawLW_facts
  (of_decide_eq_true (by kernel_rfl)) (by unfold Func.isWrapper;first|(rw[if_pos (by decide+kernel)];kernel_rfl)|(rw[if_neg (by decide+kernel)];exact⟨rfl,rfl⟩))
  (fun os started H enc _ F=>by rw[OpenClaim.pre_eq_preRow];exact lawLW_lifted os started H enc F)
theorem lawLW_plain (f:FuncId) (fn:Func) (hf:Tryz.pinned.checked.prog.funcNamed "armarium/armariumlaw19.LeafWalk" =some f) (hfn:Tryz.pinned.checked.prog.funcs[f]?=some fn):
  true=Tryz.pinned.checked.prog.looks []∧∀(j:Nat) t,fn.params[j]?=some t→Tryz.pinned.checked.prog.wantsStandIn t=false:=by
 obtain rfl:f=10:=Option.some.inj ((show Tryz.prog.funcNamed "armarium/armariumlaw19.LeafWalk" =some 10 by kernel_rfl).symm.trans hf)|>.symm;obtain rfl:fn=Tryz.f10:=(Option.some.inj (Tryz.func10.symm.trans hfn)).symm;refine⟨lawLW_looks,fun j t ht=> ?_⟩;have hall:(Tryz.f10.params.toList.all fun t=> !(Tryz.pinned.checked.prog.wantsStandIn t))=true:=by kernel_rfl
 have:=List.all_eq_true.1 hall t (by rw[←Array.getElem?_toList] at ht;exact List.mem_of_getElem? ht);simpa using this
theorem lawLW_card:Rows.LeafWalkCardSaid:=
 Claim7.holds_tied_plain_at .later [] _ _ _ _ lawLW_said (fun _ h=>by cases h) lawLW_wfText (fun _ h=>by cases h) leafWalk_row_tie rfl ⟨rfl,rfl⟩ lawLW_mainIs rfl lawLW_plain lawLW_goes
#print axioms lawLW_card
end Go.Proofs.YtldllfocpadkeaaGreatDoor
