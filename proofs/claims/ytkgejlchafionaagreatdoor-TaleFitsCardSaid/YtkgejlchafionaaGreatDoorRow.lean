/-
  What serves every row: the laid variables, a world that holds them, what a row needs behind a call that leaves what stood. No condition.
-/
import Derived.Test.YtkgejlchafionaaGreatDoorEnv
import Derived.Test.YtkgejlchafionaaGreatDoorCards
import Derived.Test.YtkgejlchafionaaGreatDoorTie
import Derived.WalkKit
import Derived.ProofKit
import Derived.OpenShut
import Derived.Deep.DeepHandedRow
import Derived.Lib.LaidTab
import Derived.Lay
import Derived.Shelf.Strings.Shaped
namespace Go.Proofs.YtkgejlchafionaaGreatDoor
open Go Go.Eng Go.ChangeShapes Go.WideShapes Go.ChangeAt Go.RowKit
set_option maxRecDepth 100000
theorem zb:ownKnob Tryz.prog.godebug=none:=by kernel_rfl
noncomputable def laidAll:List (String×DataW Unit):=[("math/bits.deBruijn32tab",Rows.laid_math_bits_deBruijn32tab),("math/bits.deBruijn64tab",Rows.laid_math_bits_deBruijn64tab),("internal/strconv.uint64pow10",Rows.laid_internal_strconv_uint64pow10),("unicode/utf8.acceptRanges",Rows.laid_unicode_utf8_acceptRanges),("strconv.ErrRange",Rows.laid_strconv_ErrRange),("strconv.ErrSyntax",Rows.laid_strconv_ErrSyntax),("unicode.CaseRanges",Rows.laid_unicode_CaseRanges),("unicode/utf8.first",Rows.laid_unicode_utf8_first)]
theorem Ug:(laidAll.filter λx=>x.2.handleName?.isSome)=[]:=by kernel_rfl
theorem Mc {P:Program} {w:World}:∀{l:List (String×DataW Unit)} {e:List MemPlace},DataW.LaidVars P w l e->∀n d,(n,d)∈l->∃g t c a p,P.globalNamed n=some g/\(P.globals[g]?).map (·.type)=some t/\w.var? P n=some c/\DataW.trod (λ_=>()) P w 0 (λ_=>true) false a t c.toList=some (d,p)
 |[],_,_,n,d,h=>by cases h
 |x::l,e,h,n,d,hm=>by
  obtain⟨g,t,c,a,p,q,f,i,b,hd,j, -⟩:=h;rcases List.mem_cons.1 hm with rfl|hm
  ·exact⟨g,t,c,a,p,f,i,b,hd⟩
  ·exact Mc j n d hm
theorem Ik {P:Program} {w:World} {a:Nat} {t:TypeId} {i} {b:List Value} {c:String} {d:DataW Unit} {p:List MemPlace} (e:P.underlying t=some (.interface i))
  (h:DataW.trod (λ_=>()) P w 0 (λ_=>true) false a t b=some (.iface c d,p)):∃u v,b=[.iface u v]:=by
 cases a with
 |zero=>simp[DataW.trod] at h
 |succ a=>
  simp only[DataW.trod,e] at h
  split at h<;>first|(rename_i f;cases f;done)|skip
  all_goals first|exact⟨_,_,rfl⟩|cases h
theorem W0:Tryz.prog.globalNamed "internal/strconv.uint64pow10" =some 0:=by kernel_rfl
theorem W2:(Tryz.prog.globals[0]?).map (·.type)=some 238:=by kernel_rfl
theorem Uh:Tryz.prog.cellsOf 238=20:=by kernel_rfl
theorem ah:Tryz.prog.cellsOf 119=1:=by kernel_rfl
theorem Ui:Tryz.prog.underlying 238=some (.array 20 119):=by kernel_rfl
theorem aj:Tryz.prog.underlying 119=some (.int .u64):=by kernel_rfl
def qo:List Int:=[1,10,100,1000,10000,100000,1000000,10000000,100000000,1000000000,10000000000,100000000000,1000000000000,10000000000000,100000000000000,1000000000000000,10000000000000000,100000000000000000,1000000000000000000,10000000000000000000]
theorem W3:(Rows.laid_internal_strconv_uint64pow10:DataW Unit)=Lib.tabData .u64 qo:=by kernel_rfl
theorem gB {W:World} {h:List MemPlace} (j:DataW.LaidVars Tryz.prog W laidAll h) (i:Nat) (c:Value) (d:Ep[i]?=some c):∃u,W.cell? ⟨0,i,none⟩=some u/\bC c u:=by
 obtain⟨g,t,m,e,p,f,k,a,hd⟩:=Mc j "internal/strconv.uint64pow10" Rows.laid_internal_strconv_uint64pow10 (by simp[laidAll]);obtain rfl:=Option.some.inj (W0.symm.trans f);obtain rfl:=Option.some.inj (W2.symm.trans k);rw[W3] at hd;have b:=Lib.cells_of_tab Ui aj ah Uh hd
 have l:AW 8 c=true:=by
  have:(Ep.all (AW 8))=true:=by kernel_rfl
  exact List.all_eq_true.1 this c (List.mem_of_getElem? d)
 refine⟨c,?_,.inl ⟨l,rfl⟩⟩;rw[World.var?_cell f a,<-Array.getElem?_toList,b];exact d
theorem Oj:Tryz.prog.globalNamed "strconv.ErrSyntax" =some 5:=by kernel_rfl
theorem Ol:(Tryz.prog.globals[5]?).map (·.type)=some 192:=by kernel_rfl
theorem L6:∃i,Tryz.prog.underlying 192=some (.interface i):=by
 have h:(match Tryz.prog.underlying 192 with|some (.interface _)=>true|_=>false)=true:=by kernel_rfl
 split at h
 ·rename_i i a;exact⟨i,a⟩
 ·cases h
theorem SH {W:World} {h:List MemPlace} (k:DataW.LaidVars Tryz.prog W laidAll h) (i:Nat) (c:Value) (b:[er false][i]?=some c):∃u,W.cell? ⟨5,i,none⟩=some u/\bC c u:=by
 obtain⟨g,t,n,e,p,f,l,a,hd⟩:=Mc k "strconv.ErrSyntax" Rows.laid_strconv_ErrSyntax (by simp[laidAll]);obtain rfl:=Option.some.inj (Oj.symm.trans f);obtain rfl:=Option.some.inj (Ol.symm.trans l);obtain⟨j,m⟩:=L6;obtain⟨u,v,d⟩:=Ik m hd;rcases i with _|i
 ·simp only[List.getElem?_cons_zero,Option.some.injEq] at b;subst b;refine⟨.iface u v,?_,.inr (.inl ⟨false,rfl,rfl⟩)⟩;rw[World.var?_cell f a,<-Array.getElem?_toList,d];rfl
 ·simp at b
theorem PJ:Tryz.prog.globalNamed "strconv.ErrRange" =some 6:=by kernel_rfl
theorem PK:(Tryz.prog.globals[6]?).map (·.type)=some 192:=by kernel_rfl
theorem Om:∃i,Tryz.prog.underlying 192=some (.interface i):=by
 have h:(match Tryz.prog.underlying 192 with|some (.interface _)=>true|_=>false)=true:=by kernel_rfl
 split at h
 ·rename_i i a;exact⟨i,a⟩
 ·cases h
theorem Uj {W:World} {h:List MemPlace} (k:DataW.LaidVars Tryz.prog W laidAll h) (i:Nat) (c:Value) (b:[er false][i]?=some c):∃u,W.cell? ⟨6,i,none⟩=some u/\bC c u:=by
 obtain⟨g,t,n,e,p,f,l,a,hd⟩:=Mc k "strconv.ErrRange" Rows.laid_strconv_ErrRange (by simp[laidAll]);obtain rfl:=Option.some.inj (PJ.symm.trans f);obtain rfl:=Option.some.inj (PK.symm.trans l);obtain⟨j,m⟩:=Om;obtain⟨u,v,d⟩:=Ik m hd;rcases i with _|i
 ·simp only[List.getElem?_cons_zero,Option.some.injEq] at b;subst b;refine⟨.iface u v,?_,.inr (.inl ⟨false,rfl,rfl⟩)⟩;rw[World.var?_cell f a,<-Array.getElem?_toList,d];rfl
 ·simp at b
theorem Uk {W:World} (h:W.ShapedOpen Tryz.prog):∃m,W.cell? ⟨3,0,none⟩=some (.int .i64 m):=
 Go.Proofs.cell_of_shapedOpen_int (zero:=#[.int .i64 0]) (t:=3) h (of_decide_eq_true (by kernel_rfl)) (by kernel_rfl) rfl (by kernel_rfl) (by kernel_rfl) Tryz.underlying3
theorem ak {W:World} (h:W.ShapedOpen Tryz.prog) (i:Nat) (c:Value) (a:[ai .i64][i]?=some c):∃u,W.cell? ⟨3,i,none⟩=some u/\bC c u:=by
 rcases i with _|i
 ·simp only[List.getElem?_cons_zero,Option.some.injEq] at a;subst a;obtain⟨m,b⟩:=Uk h;exact⟨_,b,.inr (.inr ⟨_,_,rfl,rfl⟩)⟩
 ·simp at a
theorem Md {W:World} (h:W.ShapedOpen Tryz.prog) {g:Nat} {zero:Array Value} {t:TypeId} (a:g<Tryz.prog.globals.size) (b:((begin Tryz.prog (λ_ _=>0) default).world.heap[g]?).bind Obj.row?=some (zero,t)):
  ∃(c:Array Value) (e:TypeId) (fr:Nat×Nat),W.heap[g]?=some (.cells c e fr)/\c.size=zero.size:=by
 obtain⟨d,f,i, -⟩:=h.1 g zero t a b;exact⟨d,t,_,f,i⟩
theorem Ul {W:World} (h:laidMetH Tryz.prog laidAll W) (a:W.ShapedOpen Tryz.prog):I6 FP W:=by
 unfold laidMetH at h;rw[Ug] at h;have h:laidMet Tryz.prog laidAll W:=h;obtain⟨f,e, -⟩:=h;refine⟨λx b i c d=> ?_,λx b=> ?_⟩
 ·unfold FP at b;simp only[List.mem_cons,List.not_mem_nil,or_false] at b;rcases b with rfl|rfl|rfl|rfl
  ·exact gB e i c d
  ·exact SH e i c d
  ·exact Uj e i c d
  ·exact ak a i c d
 ·unfold FP at b;simp only[List.mem_cons,List.not_mem_nil,or_false] at b;rcases b with rfl|rfl|rfl|rfl
  ·exact Md (zero:=Array.replicate 20 (.int .u64 0)) (t:=238) a (of_decide_eq_true (by kernel_rfl)) (by kernel_rfl)
  ·exact Md (zero:=#[.nilIface]) (t:=192) a (of_decide_eq_true (by kernel_rfl)) (by kernel_rfl)
  ·exact Md (zero:=#[.nilIface]) (t:=192) a (of_decide_eq_true (by kernel_rfl)) (by kernel_rfl)
  ·exact Md (zero:=#[.int .i64 0]) (t:=3) a (of_decide_eq_true (by kernel_rfl)) (by kernel_rfl)
theorem Um {w w':World} (h:Bx w w') (a:Addr) (b:a.block<w.heap.size):w'.frozen? a=w.frozen? a:=by
 simp only[World.frozen?,h.2.2.2 a.block b]
theorem al {w w':World} (h:Bx w w') (a:MemPlace->Prop):w.keptBut w' a:=by
 refine⟨h.2.1,h.2.2.1,λi b=> ?_⟩;rw[h.2.2.2 i b];exact(World.keptBut_refl w a).2.2 i b
theorem ABL {H:Type} {enc:TypeId×Value->H} {P:Program} {f:Func} {s:ChangeSpec} {apart fresh c l:Bool} {W W':World} {args:Array Value} {v:Value} {ds gs:List (DataW H)} {a pa pv:List MemPlace}
  (o:DataW.Whole enc P f.params.toList s.vars apart W args.toList ds gs a)
  (i:∀(b:Nat) (m:Nat->Bool) (hd:Bool),DataW.TrodAll enc P W' b m hd f.resultTypes.toList (v.resultList f.resultTypes.size) (s.fn H (ds++gs)).results [])
  (d:∀m:Nat->Bool,(∀p∈a,m p.block=true)->DataW.TrodAll enc P W' 0 m true f.params.toList args.toList (s.fn H (ds++gs)).args pa)
  (e:∀m:Nat->Bool,(∀p∈a,m p.block=true)->DataW.TrodVars enc P W' m s.vars (s.fn H (ds++gs)).vars pv)
  (h:a=pa++pv) (w:Bx W W')
  (q:∀(j:Nat) (t:TypeId) (r:Value),f.resultTypes[j]?=some t->(v.resultList f.resultTypes.size)[j]?=some r->Value.okWide P W' .any 0 t r):
  s.post enc P f apart fresh c l W args v W':=by
 have k:∀p∈a,(λb=>decide (b<W.heap.size)) p.block=true:=λp g=>by simpa using o.lt p g
 have u:∀p∈a,p.block<W.heap.size:=λp g=>o.lt p g
 refine⟨ds,gs,a,[],pa,pv,o,i _ _ _,d _ k,e _ k,World.keptBut_mono (λp g=>⟨g,?_⟩) (al w (· ∈a)),λ_=> ?_⟩
 ·rw[h,List.mem_append] at g;exact Or.inr g
 ·obtain⟨_,_,_,_,_,x,y⟩:=o;refine⟨q,_,_,([]++pa)++pv,⟨[]++pa,pv,trodAll_append (d _ (λ_ _=>rfl)) (i _ _ _),e _ (λ_ _=>rfl),rfl,?_,?_⟩,?_⟩
  ·intro b off g;have n:MemPlace.cell b off∈a:=by rw[h];simpa using g
   rw[Um w _ (u _ n)];exact x b off n
  ·intro z;have:=y z;rw[h] at this;simpa using this
  ·intro p g _;rw[h];simpa using g
theorem Un {l:List (String×DataW Unit)} {w:World} (a:(l.filter λx=>x.2.handleName?.isSome)=[]) (h:laidMet Tryz.prog l w):laidMetH Tryz.prog l w:=by
 unfold laidMetH;rw[a];exact h
theorem JM {H:Type} {enc:TypeId×Value->H} {C:Checked} {os:Os} {f:FuncId} {fn:Func} {s:OpenSpec} {a:List PathCond} {apart:Bool} {laid:List (String×DataW Unit)} (modest:Bool) (w0:World) (args:Array Value) (d:w0.os=os)
  (e:(w0.forCall (λ_ _=>0) ⟨#[],args,[]⟩).Shaped C.prog)
  (b:Input.okWideB C.prog (w0.forCall (λ_ _=>0) ⟨#[],args,[]⟩) f ⟨#[],args,[]⟩=true)
  (c:s.preRow enc C.prog fn a apart laid (w0.forCall (λ_ _=>0) ⟨#[],args,[]⟩).memory args):
  ∃(w:World) (tape:Tape) (i:Input),w.os=os/\(w.forCall tape i).Shaped C.prog/\i.vars=[]/\Input.okWide C.prog (w.forCall tape i) .any w.heap.size f i/\
   s.preRow enc C.prog fn a apart laid (w.forCall tape i).memory i.args/\({ modest:=modest}:Assume).holds C.prog (lone (Frame.enter C.prog f i.args .normal) [] (w.forCall tape i)):=
 ⟨w0,λ_ _=>0,⟨#[],args,[]⟩,d,e,(Input.okWide_of_okWideB (base:=0) b).1,(Input.okWide_of_okWideB b).2,c,by
  simp only[Assume.holds];exact⟨by simp,by simp,λ_=>Modest.zero,by simp,by simp⟩⟩
