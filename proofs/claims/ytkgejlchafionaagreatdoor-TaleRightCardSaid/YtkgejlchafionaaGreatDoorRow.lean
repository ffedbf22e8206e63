/-
  What serves every row: the laid variables, a world that holds them, what a row needs behind a call that leaves what stood. No condition.
-/
import Derived.Test.YtkgejlchafionaaGreatDoorEnv
import Derived.Test.YtkgejlchafionaaGreatDoorCards
import Derived.Test.YtkgejlchafionaaGreatDoorTie
import Derived.WalkKit
import Derived.ProofKit
import Derived.OpenShut
import Derived.Deep.DeepHandedRow
import Derived.Lib.LaidTab
import Derived.Lay
import Derived.Shelf.Strings.Shaped
open Array renaming getElem?_toList->Bf
open Bool renaming false->AK,true->AD
open Go renaming DataW->Hk,MemPlace->Ih,Program->Ao,TypeId->AQ,Value->AJ,World->AN,laidMetH->ANz
open Go.DataW renaming LaidVars->jA,TrodAll->Ux,trod->Uy
open Go.Input renaming okWide_of_okWideB->AAM
open Go.MemPlace renaming cell->AJc
open Go.Proofs renaming cell_of_shapedOpen_int->AJd
open Go.Proofs.YtkgejlchafionaaGreatDoor.Rows renaming laid_internal_strconv_uint64pow10->sQ,laid_strconv_ErrRange->AAN,laid_strconv_ErrSyntax->AAO
open Go.World renaming var?_cell->sS
open List renaming getElem?_cons_zero->EM,mem_cons->Dv,not_mem_nil->RS
open Option renaming some->AC
open Option.some renaming inj->Dw,injEq->BJ
open _root_ renaming Bool->AH,List->AE,String->b8,of_decide_eq_true->BL
namespace Go.Proofs.YtkgejlchafionaaGreatDoor
open Go Go.Eng Go.ChangeShapes Go.WideShapes Go.ChangeAt Go.RowKit
set_option maxRecDepth 100000
theorem ALr:ownKnob Tryz.prog.godebug=none:=by kernel_rfl
noncomputable def laidAll:AE (b8×Hk Unit):=[("math/bits.deBruijn32tab",Rows.laid_math_bits_deBruijn32tab),("math/bits.deBruijn64tab",Rows.laid_math_bits_deBruijn64tab),("internal/strconv.uint64pow10",sQ),("unicode/utf8.acceptRanges",Rows.laid_unicode_utf8_acceptRanges),("strconv.ErrRange",AAN),("strconv.ErrSyntax",AAO),("unicode.CaseRanges",Rows.laid_unicode_CaseRanges),("unicode/utf8.first",Rows.laid_unicode_utf8_first)]
theorem ar:(laidAll.filter λx=>x.2.handleName?.isSome)=[]:=by kernel_rfl
theorem ANR{P:Ao}{w:AN}:∀{l:AE (b8×Hk Unit)} {e:AE Ih},jA P w l e->∀n d,(n,d)∈l->∃g t c a p,P.globalNamed n=AC g/\(P.globals[g]?).map (·.type)=AC t/\w.var? P n=AC c/\Uy (λ_=>()) P w 0 (λ_=>AD) AK a t c.toList=AC (d,p)
 |[],_,_,n,d,h=>by cases h
 |x::l,e,h,n,d,hm=>by
  obtain⟨g,t,c,a,p,q,f,i,b,hd,j, -⟩:=h;rcases Dv.1 hm with rfl|hm
  ·exact⟨g,t,c,a,p,f,i,b,hd⟩
  ·exact ANR j n d hm
theorem Ms{P:Ao}{w:AN}{a:Nat}{t:AQ}{i}{b:AE AJ}{c:b8}{d:Hk Unit}{p:AE Ih}(e:P.underlying t=AC (.interface i))(h:Uy (λ_=>()) P w 0 (λ_=>AD) AK a t b=AC (.iface c d,p)):∃u v,b=[.iface u v]:=by
 cases a with
 |zero=>simp[Uy]at h
 |succ a=>
  simp only[Uy,e]at h
  split at h<;>first|(rename_i f;cases f;done)|skip
  all_goals first|exact⟨_,_,rfl⟩|cases h
theorem eU:Tryz.prog.globalNamed "internal/strconv.uint64pow10" =AC 0:=by kernel_rfl
theorem eV:(Tryz.prog.globals[0]?).map (·.type)=AC 238:=by kernel_rfl
theorem au:Tryz.prog.cellsOf 238=20:=by kernel_rfl
theorem k6:Tryz.prog.cellsOf 119=1:=by kernel_rfl
theorem aw:Tryz.prog.underlying 238=AC (.array 20 119):=by kernel_rfl
theorem k7:Tryz.prog.underlying 119=AC (.int .u64):=by kernel_rfl
def ADv:AE Int:=[1,10,100,1000,10000,100000,1000000,10000000,100000000,1000000000,10000000000,100000000000,1000000000000,10000000000000,100000000000000,1000000000000000,10000000000000000,100000000000000000,1000000000000000000,10000000000000000000]
theorem eW:(sQ:Hk Unit)=Lib.tabData .u64 ADv:=by kernel_rfl
theorem qP{W:AN}{h:AE Ih}(j:jA Tryz.prog W laidAll h)(i:Nat)(c:AJ)(d:ANL[i]?=AC c):∃u,W.cell? ⟨0,i,none⟩=AC u/\lU c u:=by
 obtain⟨g,t,m,e,p,f,k,a,hd⟩:=ANR j "internal/strconv.uint64pow10" sQ (by simp[laidAll]);obtain rfl:=Dw (eU.symm.trans f);obtain rfl:=Dw (eV.symm.trans k);rw[eW]at hd;have b:=Lib.cells_of_tab aw k7 k6 au hd
 have l:Au 8 c=true:=by
  have:(ANL.all (Au 8))=true:=by kernel_rfl
  exact List.all_eq_true.1 this c (List.mem_of_getElem? d)
 refine⟨c,?_,.inl ⟨l,rfl⟩⟩;rw[sS f a,<-Bf,b];exact d
theorem UP:Tryz.prog.globalNamed "strconv.ErrSyntax" =AC 5:=by kernel_rfl
theorem UQ:(Tryz.prog.globals[5]?).map (·.type)=AC 192:=by kernel_rfl
theorem Re:∃i,Tryz.prog.underlying 192=AC (.interface i):=by
 have h:(match Tryz.prog.underlying 192 with|some (.interface _)=>AD|_=>AK)=true:=by kernel_rfl
 split at h
 ·rename_i i a;exact⟨i,a⟩
 ·cases h
theorem YO{W:AN}{h:AE Ih}(k:jA Tryz.prog W laidAll h)(i:Nat)(c:AJ)(b:[er AK][i]?=AC c):∃u,W.cell? ⟨5,i,none⟩=AC u/\lU c u:=by
 obtain⟨g,t,n,e,p,f,l,a,hd⟩:=ANR k "strconv.ErrSyntax" AAO (by simp[laidAll]);obtain rfl:=Dw (UP.symm.trans f);obtain rfl:=Dw (UQ.symm.trans l);obtain⟨j,m⟩:=Re;obtain⟨u,v,d⟩:=Ms m hd;rcases i with _|i
 ·simp only[EM,BJ]at b;subst b;refine⟨.iface u v,?_,.inr (.inl ⟨AK,rfl,rfl⟩)⟩;rw[sS f a,<-Bf,d];rfl
 ·simp at b
theorem VE:Tryz.prog.globalNamed "strconv.ErrRange" =AC 6:=by kernel_rfl
theorem VF:(Tryz.prog.globals[6]?).map (·.type)=AC 192:=by kernel_rfl
theorem UR:∃i,Tryz.prog.underlying 192=AC (.interface i):=by
 have h:(match Tryz.prog.underlying 192 with|some (.interface _)=>AD|_=>AK)=true:=by kernel_rfl
 split at h
 ·rename_i i a;exact⟨i,a⟩
 ·cases h
theorem ax{W:AN}{h:AE Ih}(k:jA Tryz.prog W laidAll h)(i:Nat)(c:AJ)(b:[er AK][i]?=AC c):∃u,W.cell? ⟨6,i,none⟩=AC u/\lU c u:=by
 obtain⟨g,t,n,e,p,f,l,a,hd⟩:=ANR k "strconv.ErrRange" AAN (by simp[laidAll]);obtain rfl:=Dw (VE.symm.trans f);obtain rfl:=Dw (VF.symm.trans l);obtain⟨j,m⟩:=UR;obtain⟨u,v,d⟩:=Ms m hd;rcases i with _|i
 ·simp only[EM,BJ]at b;subst b;refine⟨.iface u v,?_,.inr (.inl ⟨AK,rfl,rfl⟩)⟩;rw[sS f a,<-Bf,d];rfl
 ·simp at b
theorem ay{W:AN}(h:W.ShapedOpen Tryz.prog):∃m,W.cell? ⟨3,0,none⟩=AC (.int .i64 m):=
 AJd (zero:=#[.int .i64 0]) (t:=3) h (BL (by kernel_rfl)) (by kernel_rfl) rfl (by kernel_rfl) (by kernel_rfl) Tryz.underlying3
theorem k8{W:AN}(h:W.ShapedOpen Tryz.prog)(i:Nat)(c:AJ)(a:[ai .i64][i]?=AC c):∃u,W.cell? ⟨3,i,none⟩=AC u/\lU c u:=by
 rcases i with _|i
 ·simp only[EM,BJ]at a;subst a;obtain⟨m,b⟩:=ay h;exact⟨_,b,.inr (.inr ⟨_,_,rfl,rfl⟩)⟩
 ·simp at a
theorem SP{W:AN}(h:W.ShapedOpen Tryz.prog){g:Nat}{zero:Array AJ}{t:AQ}(a:g<Tryz.prog.globals.size)(b:((begin Tryz.prog (λ_ _=>0) default).world.heap[g]?).bind Obj.row?=AC (zero,t)):
  ∃(c:Array AJ) (e:AQ) (fr:Nat×Nat),W.heap[g]?=AC (.cells c e fr)/\c.size=zero.size:=by
 obtain⟨d,f,i, -⟩:=h.1 g zero t a b;exact⟨d,t,_,f,i⟩
theorem az{W:AN}(h:ANz Tryz.prog laidAll W)(a:W.ShapedOpen Tryz.prog):NP IP W:=by
 unfold ANz at h;rw[ar]at h;have h:laidMet Tryz.prog laidAll W:=h;obtain⟨f,e, -⟩:=h;refine⟨λx b i c d=> ?_,λx b=> ?_⟩
 ·unfold IP at b;simp only[Dv,RS,or_false]at b;rcases b with rfl|rfl|rfl|rfl
  ·exact qP e i c d
  ·exact YO e i c d
  ·exact ax e i c d
  ·exact k8 a i c d
 ·unfold IP at b;simp only[Dv,RS,or_false]at b;rcases b with rfl|rfl|rfl|rfl
  ·exact SP (zero:=Array.replicate 20 (.int .u64 0)) (t:=238) a (BL (by kernel_rfl)) (by kernel_rfl)
  ·exact SP (zero:=#[.nilIface]) (t:=192) a (BL (by kernel_rfl)) (by kernel_rfl)
  ·exact SP (zero:=#[.nilIface]) (t:=192) a (BL (by kernel_rfl)) (by kernel_rfl)
  ·exact SP (zero:=#[.int .i64 0]) (t:=3) a (BL (by kernel_rfl)) (by kernel_rfl)
theorem a6{w w':AN}(h:DU w w')(a:Addr)(b:a.block<w.heap.size):w'.frozen? a=w.frozen? a:=by
 simp only[World.frozen?,h.2.2.2 a.block b]
theorem k9{w w':AN}(h:DU w w')(a:Ih->Prop):w.keptBut w' a:=by
 refine⟨h.2.1,h.2.2.1,λi b=> ?_⟩;rw[h.2.2.2 i b];exact(World.keptBut_refl w a).2.2 i b
theorem lA{H:Type}{enc:AQ×AJ->H}{P:Ao}{f:Func}{s:ChangeSpec}{apart fresh c l:AH}{W W':AN}{args:Array AJ}{v:AJ}{ds gs:AE (Hk H)}{a pa pv:AE Ih}(o:DataW.Whole enc P f.params.toList s.vars apart W args.toList ds gs a)(i:∀(b:Nat) (m:Nat->AH) (hd:AH),Ux enc P W' b m hd f.resultTypes.toList (v.resultList f.resultTypes.size) (s.fn H (ds++gs)).results [])(d:∀m:Nat->AH,(∀p∈a,m p.block=AD)->Ux enc P W' 0 m AD f.params.toList args.toList (s.fn H (ds++gs)).args pa)(e:∀m:Nat->AH,(∀p∈a,m p.block=AD)->DataW.TrodVars enc P W' m s.vars (s.fn H (ds++gs)).vars pv)(h:a=pa++pv)(w:DU W W')(q:∀(j:Nat) (t:AQ) (r:AJ),f.resultTypes[j]?=AC t->(v.resultList f.resultTypes.size)[j]?=AC r->Value.okWide P W' .any 0 t r):
  s.post enc P f apart fresh c l W args v W':=by
 have k:∀p∈a,(λb=>decide (b<W.heap.size)) p.block=true:=λp g=>by simpa using o.lt p g
 have u:∀p∈a,p.block<W.heap.size:=λp g=>o.lt p g
 refine⟨ds,gs,a,[],pa,pv,o,i _ _ _,d _ k,e _ k,World.keptBut_mono (λp g=>⟨g,?_⟩) (k9 w (· ∈a)),λ_=> ?_⟩
 ·rw[h,List.mem_append]at g;exact Or.inr g
 ·obtain⟨_,_,_,_,_,x,y⟩:=o;refine⟨q,_,_,([]++pa)++pv,⟨[]++pa,pv,trodAll_append (d _ (λ_ _=>rfl)) (i _ _ _),e _ (λ_ _=>rfl),rfl,?_,?_⟩,?_⟩
  ·intro b off g;have n:AJc b off∈a:=by rw[h];simpa using g
   rw[a6 w _ (u _ n)];exact x b off n
  ·intro z;have:=y z;rw[h]at this;simpa using this
  ·intro p g _;rw[h];simpa using g
theorem a7{l:AE (b8×Hk Unit)}{w:AN}(a:(l.filter λx=>x.2.handleName?.isSome)=[])(h:laidMet Tryz.prog l w):ANz Tryz.prog l w:=by
 unfold ANz;rw[a];exact h
theorem Nh{H:Type}{enc:AQ×AJ->H}{C:Checked}{os:Os}{f:FuncId}{fn:Func}{s:OpenSpec}{a:AE PathCond}{apart:AH}{laid:AE (b8×Hk Unit)}(modest:AH)(w0:AN)(args:Array AJ)(d:w0.os=os)(e:(w0.forCall (λ_ _=>0) ⟨#[],args,[]⟩).Shaped C.prog)(b:Input.okWideB C.prog (w0.forCall (λ_ _=>0) ⟨#[],args,[]⟩) f ⟨#[],args,[]⟩=AD)(c:s.preRow enc C.prog fn a apart laid (w0.forCall (λ_ _=>0) ⟨#[],args,[]⟩).memory args):
  ∃(w:AN) (tape:Tape) (i:Input),w.os=os/\(w.forCall tape i).Shaped C.prog/\i.vars=[]/\Input.okWide C.prog (w.forCall tape i) .any w.heap.size f i/\
   s.preRow enc C.prog fn a apart laid (w.forCall tape i).memory i.args/\({ modest:=modest}:Assume).holds C.prog (lone (Frame.enter C.prog f i.args .normal) [] (w.forCall tape i)):=
 ⟨w0,λ_ _=>0,⟨#[],args,[]⟩,d,e,(AAM (base:=0) b).1,(AAM b).2,c,by
  simp only[Assume.holds];exact⟨by simp,by simp,λ_=>Modest.zero,by simp,by simp⟩⟩
