/-
  armarium/armariumlaw25.TaleRight: the statement, for every input.
  It holds on these conditions, which the card names: the listed variables begin as the text lays them; the program is a pruned copy of the project.
-/
import Derived.Test.YtkgejlchafionaaGreatDoorG11
import Derived.Test.YtkgejlchafionaaGreatDoorValAlawTR
import Derived.Test.YtkgejlchafionaaGreatDoorFactAlawTR
import Derived.Test.YtkgejlchafionaaGreatDoorFactClawTR
import Derived.Test.YtkgejlchafionaaGreatDoorFactDlawTR
import Derived.ChangeBears
namespace Go.Proofs.YtkgejlchafionaaGreatDoor
open Go Go.Eng Go.ChangeShapes Go.WideShapes Go.ChangeAt Go.RowKit
set_option maxRecDepth 100000
theorem kidsC:Kids Tryz.prog (· <Tryz.prog.types.size):=kids_rows prog_laidOut prog_mapsRowed
theorem fullC:∀t e,t<Tryz.prog.types.size->Tryz.prog.underlying t=some (.slice e)->0<Tryz.prog.cellsOf e:=slices_full_of Tryz.prog (by kernel_rfl)
theorem paramsLt:(Tryz.f5.params.toList.all λt=>decide (t<Tryz.prog.types.size))=true:=by kernel_rfl
theorem params_ty:rB (Sx sb) 10 Tryz.f5.params.toList=some [.slice (Nice.BF)]:=by kernel_rfl
theorem lawTR_contract (H:Type) (enc:TypeId×Value->H) (W:World) (base:Nat) (args:Array Value) (ds gs:List (DataW H)) (before:List MemPlace)
  (hval:∀(j:Nat) t v,Tryz.f5.params[j]?=some t->args[j]?=some v->Value.okWide Tryz.prog W .any base t v)
  (hW:DataW.Whole enc Tryz.prog Tryz.f5.params.toList Rows.taleRightSpec.vars false W args.toList ds gs before)
  (hwt:∀z,z∈DataW.weightsEach Tryz.prog Tryz.f5.params.toList ds->z<=reachBytes)
  (hL:laidMetH Tryz.prog laidAll W) (hsh:W.ShapedOpen Tryz.prog):
  Calls Tryz.prog 5 args W λe W'=>∃v,e=.returned v/\Rows.taleRightSpec.post enc Tryz.prog Tryz.f5 false true false false W args v W':=by
 have hW':=hW;obtain⟨p,q,hA,hV,rfl,hfz,hnd⟩:=hW;obtain⟨rfl,rfl⟩:=trodVars_none hV;obtain⟨x,hx,hb⟩:=Ub (Ac (l:=[]) trivial).T hA params_ty (λj t v ht hv=>hval j t v (by rw[<-Array.getElem?_toList];exact ht) (by rw[<-Array.getElem?_toList];exact hv)) hwt;refine(lG (az hL hsh) hx hb).mono λe W' ⟨he,hg⟩=> ?_
 subst he;refine⟨_,rfl,?_⟩;have hlt:∀t,t∈Tryz.f5.params.toList->t<Tryz.prog.types.size:=λt ht=>by simpa using List.all_eq_true.1 paramsLt t ht
 have hca:∀sp:Nat->Bool,(∀r∈p,sp r.block=true)->DataW.TrodAll enc Tryz.prog W' 0 sp true Tryz.f5.params.toList args.toList ds p:=λsp hsp=>
  VH hg kidsC fullC hlt hA hsp
 have h2:∃d1,ds=[d1]:=by
  have hA2:=hA;rw[Tryz.params5] at hA2;obtain⟨v,d, -,e, -⟩:=trodAll_one hA2;exact⟨d,e⟩
 obtain⟨d1,rfl⟩:=h2;exact lA (pa:=p) (pv:=[]) hW' (λ_ _ _=>trodAll_cons_mk (shut_bool Tryz.underlying4 _) trodAll_mk0) (λsp hsp=>hca sp λr hr=>hsp r (List.mem_append.2 (.inl hr))) (λ_ _=>rfl) rfl
  hg (ok_one (by kernel_rfl) rfl (okWide_bool_mk Tryz.underlying4 _))
theorem lawTR_lifted (os:Os) (started:os.Started) (H:Type) (enc:TypeId×Value->H) (F:Stop.Interp):
  ReturnsInHanded {} Tryz.checked os 5 .any ((OpenSpec.ofChange Rows.taleRightSpec).preRow enc Tryz.prog Tryz.f5 Rows.taleRightRow.domain false Rows.taleRightRow.laid) (((OpenSpec.ofChange Rows.taleRightSpec).at F).post enc Tryz.prog Tryz.f5 false true false false):=by
 obtain⟨places,hx⟩:=w_reads os enc;refine returnsInHanded_of_row (C:=Tryz.checked) (s:=OpenSpec.ofChange Rows.taleRightSpec) ALr started (by kernel_rfl) Tryz.func5
  (Nh (enc:=enc) (C:=Tryz.checked) false (World.laidAll Tryz.prog os laidAll) wArgs (World.laidAll_os _ _ _) (w_shaped os) (w_ok os)
   (OpenSpec.preRow_of_cond 8 hx (by kernel_rfl) (λk hk=>by cases hk) (by kernel_rfl) (a7 ar (w_met os)))) ?_
 intro W base args ds gs before hval hW _ _ hwt hL hsh _;have hgs:gs=[]:=by
  obtain⟨p,q,hA,hV, -⟩:=hW;exact(trodVars_none hV).1
 subst hgs;have hwt':∀z,z∈DataW.weightsEach Tryz.prog Tryz.f5.params.toList ds->z<=reachBytes:=by
  have e:Tryz.f5.params.toList++(OpenSpec.ofChange Rows.taleRightSpec).bare.plain.varTypes Tryz.prog=Tryz.f5.params.toList:=by
   rw[show(OpenSpec.ofChange Rows.taleRightSpec).bare.plain.varTypes Tryz.prog=[] from rfl,List.append_nil]
  have hwt:(DataW.weightsEach Tryz.prog (Tryz.f5.params.toList++(OpenSpec.ofChange Rows.taleRightSpec).bare.plain.varTypes Tryz.prog) (ds++[])).all (· <=reachBytes)=true:=hwt;rw[e,List.append_nil] at hwt;intro z hz;simpa using List.all_eq_true.1 hwt z hz
 exact lawTR_contract H enc W base args ds [] before hval hW hwt' hL hsh
theorem lawTR_said:Rows.TaleRightSaid:=
 OpenClaim.holds_of_cond 5 Tryz.f5 rfl rfl rfl rfl rfl rfl rfl ⟨rfl,rfl,rfl,rfl,rfl⟩ rfl rfl rfl rfl rfl (by kernel_rfl) Tryz.func5 lawTR_facts
  (of_decide_eq_true (by kernel_rfl)) (by unfold Func.isWrapper;first|(rw[if_pos (by decide+kernel)];kernel_rfl)|(rw[if_neg (by decide+kernel)];exact⟨rfl,rfl⟩))
  (λos started H enc _ F=>by rw[OpenClaim.pre_eq_preRow];exact lawTR_lifted os started H enc F)
theorem lawTR_plain (f:FuncId) (fn:Func) (hf:Tryz.pinned.checked.prog.funcNamed "armarium/armariumlaw25.TaleRight" =some f) (hfn:Tryz.pinned.checked.prog.funcs[f]?=some fn):
  true=Tryz.pinned.checked.prog.looks []/\∀(j:Nat) t,fn.params[j]?=some t->Tryz.pinned.checked.prog.wantsStandIn t=false:=by
 obtain rfl:f=5:=Option.some.inj ((show Tryz.prog.funcNamed "armarium/armariumlaw25.TaleRight" =some 5 by kernel_rfl).symm.trans hf)|>.symm;obtain rfl:fn=Tryz.f5:=(Option.some.inj (Tryz.func5.symm.trans hfn)).symm;refine⟨lawTR_looks,λj t ht=> ?_⟩;have hall:(Tryz.f5.params.toList.all λt=> !(Tryz.pinned.checked.prog.wantsStandIn t))=true:=by kernel_rfl
 have:=List.all_eq_true.1 hall t (by rw[<-Array.getElem?_toList] at ht;exact List.mem_of_getElem? ht);simpa using this
theorem lawTR_card:Rows.TaleRightCardSaid:=
 Claim7.holds_tied_plain_at .later [] _ _ _ _ lawTR_said (λ_ h=>by cases h) lawTR_wfText (λ_ h=>by cases h) taleRight_row_tie rfl ⟨rfl,rfl⟩ lawTR_mainIs rfl lawTR_plain lawTR_goes
#print axioms lawTR_card
