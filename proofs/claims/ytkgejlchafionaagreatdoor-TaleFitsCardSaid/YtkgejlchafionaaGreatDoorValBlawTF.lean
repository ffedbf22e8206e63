/-
  armarium/armariumlaw25.TaleFits: the statement, for every input.
  It holds on these conditions, which the card names: the listed variables begin as the text lays them; the program is a pruned copy of the project.
-/
import Derived.Test.YtkgejlchafionaaGreatDoorG10
import Derived.Test.YtkgejlchafionaaGreatDoorValAlawTF
import Derived.Test.YtkgejlchafionaaGreatDoorFactAlawTF
import Derived.Test.YtkgejlchafionaaGreatDoorFactClawTF
import Derived.Test.YtkgejlchafionaaGreatDoorFactDlawTF
import Derived.ChangeBears
namespace Go.Proofs.YtkgejlchafionaaGreatDoor
open Go Go.Eng Go.ChangeShapes Go.WideShapes Go.ChangeAt Go.RowKit
set_option maxRecDepth 100000
theorem kidsC:Kids Tryz.prog (· <Tryz.prog.types.size):=kids_rows prog_laidOut prog_mapsRowed
theorem fullC:∀t e,t<Tryz.prog.types.size->Tryz.prog.underlying t=some (.slice e)->0<Tryz.prog.cellsOf e:=slices_full_of Tryz.prog (by kernel_rfl)
theorem paramsLt:(Tryz.f3.params.toList.all λt=>decide (t<Tryz.prog.types.size))=true:=by kernel_rfl
theorem params_ty:ABj (Lt dC) 10 Tryz.f3.params.toList=some [Nice.Ah,Nice.A9,Nice.A7,.bool]:=by kernel_rfl
theorem lawTF_contract (H:Type) (enc:TypeId×Value->H) (W:World) (base:Nat) (args:Array Value) (ds gs:List (DataW H)) (before:List MemPlace)
  (hval:∀(j:Nat) t v,Tryz.f3.params[j]?=some t->args[j]?=some v->Value.okWide Tryz.prog W .any base t v)
  (hW:DataW.Whole enc Tryz.prog Tryz.f3.params.toList Rows.taleFitsSpec.vars false W args.toList ds gs before)
  (hwt:∀z,z∈DataW.weightsEach Tryz.prog Tryz.f3.params.toList ds->z<=reachBytes)
  (hL:laidMetH Tryz.prog laidAll W) (hsh:W.ShapedOpen Tryz.prog):
  Calls Tryz.prog 3 args W λe W'=>∃v,e=.returned v/\Rows.taleFitsSpec.post enc Tryz.prog Tryz.f3 false true false false W args v W':=by
 have hW':=hW;obtain⟨p,q,hA,hV,rfl,hfz,hnd⟩:=hW;obtain⟨rfl,rfl⟩:=trodVars_none hV;obtain⟨x,hx,hb⟩:=Oy (AG (l:=[]) trivial).T hA params_ty (λj t v ht hv=>hval j t v (by rw[<-Array.getElem?_toList];exact ht) (by rw[<-Array.getElem?_toList];exact hv)) hwt;refine(aA (Ul hL hsh) hx hb).mono λe W' ⟨he,hg⟩=> ?_
 subst he;refine⟨_,rfl,?_⟩;have hlt:∀t,t∈Tryz.f3.params.toList->t<Tryz.prog.types.size:=λt ht=>by simpa using List.all_eq_true.1 paramsLt t ht
 have hca:∀sp:Nat->Bool,(∀r∈p,sp r.block=true)->DataW.TrodAll enc Tryz.prog W' 0 sp true Tryz.f3.params.toList args.toList ds p:=λsp hsp=>
  PL hg kidsC fullC hlt hA hsp
 have h2:∃d1 d2 d3 d4,ds=[d1,d2,d3,d4]:=by
  have hA2:=hA;rw[Tryz.params3] at hA2;obtain⟨v,v',v'',v3,d,d',d'',d3,p1,p2,p3,p4, -,e, -⟩:=trodAll_four hA2;exact⟨d,d',d'',d3,e⟩
 obtain⟨d1,d2,d3,d4,rfl⟩:=h2;exact ABL (pa:=p) (pv:=[]) hW' (λ_ _ _=>trodAll_cons_mk (shut_bool Tryz.underlying4 _) trodAll_mk0) (λsp hsp=>hca sp λr hr=>hsp r (List.mem_append.2 (.inl hr))) (λ_ _=>rfl) rfl
  hg (ok_one (by kernel_rfl) rfl (okWide_bool_mk Tryz.underlying4 _))
theorem lawTF_lifted (os:Os) (started:os.Started) (H:Type) (enc:TypeId×Value->H) (F:Stop.Interp):
  ReturnsInHanded {} Tryz.checked os 3 .any ((OpenSpec.ofChange Rows.taleFitsSpec).preRow enc Tryz.prog Tryz.f3 Rows.taleFitsRow.domain false Rows.taleFitsRow.laid) (((OpenSpec.ofChange Rows.taleFitsSpec).at F).post enc Tryz.prog Tryz.f3 false true false false):=by
 obtain⟨places,hx⟩:=w_reads os enc;refine returnsInHanded_of_row (C:=Tryz.checked) (s:=OpenSpec.ofChange Rows.taleFitsSpec) zb started (by kernel_rfl) Tryz.func3
  (JM (enc:=enc) (C:=Tryz.checked) false (World.laidAll Tryz.prog os laidAll) wArgs (World.laidAll_os _ _ _) (w_shaped os) (w_ok os)
   (OpenSpec.preRow_of_cond 8 hx (by kernel_rfl) (λk hk=>by cases hk) (by kernel_rfl) (Un Ug (w_met os)))) ?_
 intro W base args ds gs before hval hW _ _ hwt hL hsh _;have hgs:gs=[]:=by
  obtain⟨p,q,hA,hV, -⟩:=hW;exact(trodVars_none hV).1
 subst hgs;have hwt':∀z,z∈DataW.weightsEach Tryz.prog Tryz.f3.params.toList ds->z<=reachBytes:=by
  have e:Tryz.f3.params.toList++(OpenSpec.ofChange Rows.taleFitsSpec).bare.plain.varTypes Tryz.prog=Tryz.f3.params.toList:=by
   rw[show(OpenSpec.ofChange Rows.taleFitsSpec).bare.plain.varTypes Tryz.prog=[] from rfl,List.append_nil]
  have hwt:(DataW.weightsEach Tryz.prog (Tryz.f3.params.toList++(OpenSpec.ofChange Rows.taleFitsSpec).bare.plain.varTypes Tryz.prog) (ds++[])).all (· <=reachBytes)=true:=hwt;rw[e,List.append_nil] at hwt;intro z hz;simpa using List.all_eq_true.1 hwt z hz
 exact lawTF_contract H enc W base args ds [] before hval hW hwt' hL hsh
theorem lawTF_said:Rows.TaleFitsSaid:=
 OpenClaim.holds_of_cond 3 Tryz.f3 rfl rfl rfl rfl rfl rfl rfl ⟨rfl,rfl,rfl,rfl,rfl⟩ rfl rfl rfl rfl rfl (by kernel_rfl) Tryz.func3 lawTF_facts
  (of_decide_eq_true (by kernel_rfl)) (by unfold Func.isWrapper;first|(rw[if_pos (by decide+kernel)];kernel_rfl)|(rw[if_neg (by decide+kernel)];exact⟨rfl,rfl⟩))
  (λos started H enc _ F=>by rw[OpenClaim.pre_eq_preRow];exact lawTF_lifted os started H enc F)
theorem lawTF_plain (f:FuncId) (fn:Func) (hf:Tryz.pinned.checked.prog.funcNamed "armarium/armariumlaw25.TaleFits" =some f) (hfn:Tryz.pinned.checked.prog.funcs[f]?=some fn):
  true=Tryz.pinned.checked.prog.looks []/\∀(j:Nat) t,fn.params[j]?=some t->Tryz.pinned.checked.prog.wantsStandIn t=false:=by
 obtain rfl:f=3:=Option.some.inj ((show Tryz.prog.funcNamed "armarium/armariumlaw25.TaleFits" =some 3 by kernel_rfl).symm.trans hf)|>.symm;obtain rfl:fn=Tryz.f3:=(Option.some.inj (Tryz.func3.symm.trans hfn)).symm;refine⟨lawTF_looks,λj t ht=> ?_⟩;have hall:(Tryz.f3.params.toList.all λt=> !(Tryz.pinned.checked.prog.wantsStandIn t))=true:=by kernel_rfl
 have:=List.all_eq_true.1 hall t (by rw[<-Array.getElem?_toList] at ht;exact List.mem_of_getElem? ht);simpa using this
theorem lawTF_card:Rows.TaleFitsCardSaid:=
 Claim7.holds_tied_plain_at .later [] _ _ _ _ lawTF_said (λ_ h=>by cases h) lawTF_wfText (λ_ h=>by cases h) taleFits_row_tie rfl ⟨rfl,rfl⟩ lawTF_mainIs rfl lawTF_plain lawTF_goes
#print axioms lawTF_card
