/-
  Part of the proof. No condition.
-/
import Derived.Test.YtldllfocpadkeaaGreatDoorG9
import Derived.Test.YtldllfocpadkeaaGreatDoorRow
import Derived.Test.YtldllfocpadkeaaGreatDoorBegE
noncomputable section
namespace Nice
open Go Go.Eng
theorem lcut0 (s:L8) (n:Nat):(cut s (n:Int)).length<=n:=by unfold cut;rw[List.length_take];omega
end Nice
namespace Go.Proofs.YtldllfocpadkeaaGreatDoor
open Go Go.Eng Nice
set_option maxRecDepth 1000000
theorem begun19_c:PC 12 trueS:=pure_true begun19_run
end Go.Proofs.YtldllfocpadkeaaGreatDoor
namespace Nice
open Go Go.Eng
abbrev ansT (n:Int):AnsD:=(n,[],[],())
end Nice
namespace Go.Proofs.YtldllfocpadkeaaGreatDoor
open Go Go.Eng Nice
set_option maxRecDepth 1000000
abbrev shF:Sh:=.nest 0 shScan (shFront 3)
end Go.Proofs.YtldllfocpadkeaaGreatDoor
namespace Nice
open Go Go.Eng
theorem goN_kc {s:ScanD}:∀(L:List ReqD) (a:AskD) (o:L8),(goN s false L a o).2.2.2.1=true->(goN s false L a o).2.2.2.2.2.1=false
 |[],a,o,h=>by
  by_cases h0:s.2.1=0
  ·rw[goN_nil0 h0]
  ·rw[goN_nil1 h0] at h;cases h
 |r::w,a,o,h=>by
  by_cases h0:(ofN r).2=0
  ·rw[goN_good h0]
  ·rw[goN_bad h0] at h⊢;exact goN_kc w a _ h
theorem cut50 (c:Int) (k:Nat):∃j:Nat,min (k:Int) ((c.tmod 50+50).tmod 50)=(j:Int)/\j<=k/\ -49<=c.tmod 50/\c.tmod 50<=49:=by
 have h1:=Int.tmod_lt_of_pos c (show(0:Int)<50 by decide);have h2:=Int.lt_tmod_of_pos c (show(0:Int)<50 by decide);have h3:=Int.tmod_nonneg (a:=c.tmod 50+50) 50 (by omega);exact⟨(min (k:Int) ((c.tmod 50+50).tmod 50)).toNat,by omega,by omega,by omega,by omega⟩
end Nice
namespace Go.Proofs.YtldllfocpadkeaaGreatDoor
open Go Go.Eng Nice
set_option maxRecDepth 1000000
abbrev RDF:ReqD:=(ReqT).dflt
abbrev ADF:AnsD:=(AnsT).dflt
abbrev K2:=FrontD->L8->Int->Int->BO
abbrev gT {α:Type} (l:List α) (i:Int):List Bool:=[decide (i.toNat<l.length),decide (0<=i),decide (i<(l.length:Int))]
def faN (A:AnsD) (y:FrontD) (W:L8) (n i:Int) (b:Bool) (nx:K2):BO:=gd [decide (inK .i64 (i+1)),decide (W.length+(aputN A b).length<=1099511627776),aputP A] (nx y (W++aputN A b) (n+1) (i+1))
def faD (x:FrontD) (A:AnsD) (W:L8) (n i:Int) (q:Bool) (nx:K2):BO:=
 bif (doneF x (ansT 1)).2 then gd [doneP x (ansT 1)] (bO false) else bif (doneF (doneF x (ansT 1)).1 A).2 then gd [doneP (doneF x (ansT 1)).1 A,doneP x (ansT 1)] (bif q then faN A (doneF (doneF x (ansT 1)).1 A).1 W n i true nx else faN A (doneF (doneF x (ansT 1)).1 A).1 W n i false nx)
 else gd [doneP (doneF x (ansT 1)).1 A,doneP x (ansT 1)] (bO false)
def faG (as':List AnsD) (x:FrontD) (W:L8) (n i:Int) (q:Bool) (g:AnsD) (nx:K2):BO:=
 bif decide (n<(as'.length:Int)) then(bif amayB (answN g) then gd ([decide (inK .i64 (n+1))]++gT as' n++[aputP (answN g)]++gT as' n) (faD x (answN g) W n i q nx) else gd ([decide (inK .i64 (n+1)),aputP (answN g)]++gT as' n) (faD x (ansT 200) W n i q nx))
 else gd [decide (inK .i64 (n+1))] (faD x (ansT 200) W n i q nx)
def faB (l:List ReqD) (x:FrontD) (W:L8) (n i st:Int) (b:Bool) (nx:K2):BO:=gd ([decide (inK .i64 (i+1)),decide (W.length+(aputN (ansT st) b).length<=1099511627776),aputP (ansT st)]++gT l i) (nx x (W++aputN (ansT st) b) n (i+1))
def faI (l:List ReqD) (x:FrontD) (W:L8) (n i:Int) (r:ReqD) (good:BO) (nx:K2):BO:=
 gd ([ofP r]++gT l i) (bif (ofN r).2 !=0 then(bif r.1==[72,69,65,68] then faB l x W n i (ofN r).2 true nx else faB l x W n i (ofN r).2 false nx) else good)
def faEq (o W:L8) (su:Int) (c:Bool):BO:=bif o==W then(bif su !=0 then bO c else bO !c) else bO false
def faZ (o W:L8) (su:Int) (c:Bool):BO:=bif su !=0 then gd [decide (W.length+(aputN (ansT su) false).length<=1099511627776),aputP (ansT su)] (faEq o (W++aputN (ansT su) false) su c) else faEq o W su c
def faZ1 (W:L8) (su:Int):BO:=bif su !=0 then gd [decide (W.length+(aputN (ansT su) false).length<=1099511627776),aputP (ansT su)] (bO false) else bO false
def fa1 (cs:List Int) (x:FrontD) (t:L8) (i:Int) (nx:FrontD->L8->Int->BO) (nx2:FrontD->BO):BO:=
 bif decide (i<(cs.length:Int)) then(bif decide ((t.length:Int)>0) then
  (let k:=min (t.length:Int) (((cs.getD i.toNat (IT).dflt).tmod 50+50).tmod 50)
   gd ([decide (inK .i64 (i+1)),decide (0<=k),decide (k<=(t.length:Int)),ffeedP x (t.take k.toNat),decide (0<=k),decide (k<=(t.length:Int)),decide (inK .i64 ((cs.getD i.toNat (IT).dflt).tmod 50+50))]++gT cs i) (nx (ffeedF x (t.take k.toNat)) (t.drop k.toNat) (i+1)))
  else gd [ffeedP x t] (nx2 (ffeedF x t))) else gd [ffeedP x t] (nx2 (ffeedF x t))
def faE0 (t more:L8) (nx1:List ReqD->L8->Int->BO):BO:=
 gd [decide (t.length+(cut more 40).length<=1099511627776)] (bif (rscanN (t++cut more 40,())).2.2.1 then gd [rscanP (t++cut more 40,())] (nx1 (rscanN (t++cut more 40,())).1 (t++cut more 40) (rscanN (t++cut more 40,())).2.1)
  else gd [rscanP (t++cut more 40,())] (nx1 (rscanN (t++cut more 40,())).1 (t++cut more 40) (rscanN (t++cut more 40,())).2.1))
def fa0 (rs:List ReqD) (more t:L8) (i:Int) (nx:L8->Int->BO) (nx1:List ReqD->L8->Int->BO):BO:=
 bif decide (i<(rs.length:Int)) then(bif decide (i<4) then gd ([decide (inK .i64 (i+1)),decide (t.length+(lineT (rs.getD i.toNat RDF)).length<=1099511627776)]++gT rs i) (nx (t++lineT (rs.getD i.toNat RDF)) (i+1)) else faE0 t more nx1) else faE0 t more nx1
abbrev shFA:List (Nat×List (Nat×Sh)):=[(6,[(0,.one (.dat ReqT)),(2,.one (.dat IT)),(3,.one (.dat AnsT)),(1,.one .sym),(10,.one .sym),(11,.one .sym)]),(13,[(15,shF),(2,.one (.dat IT)),(3,.one (.dat AnsT)),(12,.one (.dat ReqT)),(10,.one .sym),(13,.one .sym),(16,.one .sym)]),(21,[(15,shF),(3,.one (.dat AnsT)),(12,.one (.dat ReqT)),(13,.one .sym),(18,.one .sym),(19,.one .sym),(20,.one .sym)])]
abbrev enFA:Eng.Env:=envO [(12,trueS),(28,cutS),(27,lineRS),(29,rscanS),(32,ofS),(36,amayAS),(37,answS),(33,aputS)] [(30,newS),(31,ffeedS),(34,asksS),(35,closedS),(38,doneS),(39,foutS)]
def hfa0 (N:Nat) (rs:List ReqD) (cs:List Int) (as':List AnsD) (more t:L8) (i:Int):BO:=rH Tryz.prog enFA (shOf shFA) Tryz.f5 [.bool] N 0 [(0,dt 10),(2,dt 11),(3,dt 12),(1,sy (.string (bs more))),(10,sy (.string (bs t))),(11,sy (.int .i64 i))] [.dat ReqT rs,.dat IT cs,.dat AnsT as']
def hfa1 (N:Nat) (cs:List Int) (as':List AnsD) (l:List ReqD) (su:Int) (x:FrontD) (t:L8) (i:Int):BO:=rH Tryz.prog enFA (shOf shFA) Tryz.f5 [.bool] N 1 [(15,.pointer (some ⟨15,0,none⟩)),(2,dt 16),(3,dt 17),(12,dt 18),(10,sy (.string (bs t))),(13,sy (.int .i64 su)),(16,sy (.int .i64 i))] (objsF x.1 x.2.1 x.2.2.1 x.2.2.2.1 x.2.2.2.2.1 x.2.2.2.2.2.1++[.dat IT cs,.dat AnsT as',.dat ReqT l])
def hfa2 (N:Nat) (as':List AnsD) (l:List ReqD) (su:Int) (x:FrontD) (W:L8) (n i:Int):BO:=rH Tryz.prog enFA (shOf shFA) Tryz.f5 [.bool] N 2 [(15,.pointer (some ⟨15,0,none⟩)),(3,dt 16),(12,dt 17),(13,sy (.int .i64 su)),(18,sy (.string (bs W))),(19,sy (.int .i64 n)),(20,sy (.int .i64 i))] (objsF x.1 x.2.1 x.2.2.1 x.2.2.2.1 x.2.2.2.2.1 x.2.2.2.2.2.1++[.dat AnsT as',.dat ReqT l])
abbrev FATs:List Ty:=[.slice ReqT,.str,.slice IT,.slice AnsT]
def ofa (x:DenL FATs):BO:=fO Tryz.prog enFA (shOf shFA) Tryz.f5 FATs [.bool] x
theorem ofa_g (x:DenL FATs):ofa x=fON Tryz.prog enFA (shOf shFA) Tryz.f5 FATs [.bool] heads0 x:=rfl
theorem efa_g (N:Nat) (rs:List ReqD) (more:L8) (cs:List Int) (as':List AnsD):fON Tryz.prog enFA (shOf shFA) Tryz.f5 FATs [.bool] N (rs,more,cs,as',())=hfa0 N rs cs as' more [] 0:=by kernel_rfl
theorem efa_0 (N:Nat) (rs:List ReqD) (cs:List Int) (as':List AnsD) (more t:L8) (i:Int):hfa0 (N+1) rs cs as' more t i=fa0 rs more t i (λt i=>hfa0 N rs cs as' more t i) (λl t su=>hfa1 N cs as' l su frontZ t 0):=by kernel_rfl
theorem efa_1 (N:Nat) (cs:List Int) (as':List AnsD) (l:List ReqD) (su:Int) (x:FrontD) (t:L8) (i:Int):hfa1 (N+1) cs as' l su x t i=fa1 cs x t i (λx t i=>hfa1 N cs as' l su x t i) (λx=>hfa2 N as' l su x [] 0 0):=by kernel_rfl
theorem efa_T (N:Nat) (as':List AnsD) (l:List ReqD) (su:Int) (s:ScanD) (w:List ReqD) (a:AskD) (o W:L8) (n i:Int):hfa2 (N+1) as' l su (s,w,a,true,o,false,()) W n i=bif decide (i<(l.length:Int)) then faI l (s,w,a,true,o,false,()) W n i (l.getD i.toNat RDF) (bif !(eqB a (ofN (l.getD i.toNat RDF)).1) then bO false else faG as' (s,w,a,true,o,false,()) W n i (ofN (l.getD i.toNat RDF)).1.2.2.2.2.2.2.2.2.2.1 (as'.getD n.toNat ADF) (λx W n i=>hfa2 N as' l su x W n i)) (λx W n i=>hfa2 N as' l su x W n i) else faZ1 W su:=by kernel_rfl
theorem efa_F (N:Nat) (as':List AnsD) (l:List ReqD) (su:Int) (s:ScanD) (w:List ReqD) (a:AskD) (o W:L8) (n i:Int):hfa2 (N+1) as' l su (s,w,a,false,o,false,()) W n i=bif decide (i<(l.length:Int)) then faI l (s,w,a,false,o,false,()) W n i (l.getD i.toNat RDF) (bO false) (λx W n i=>hfa2 N as' l su x W n i) else faZ o W su false:=by kernel_rfl
theorem efa_C (N:Nat) (as':List AnsD) (l:List ReqD) (su:Int) (s:ScanD) (w:List ReqD) (a:AskD) (o W:L8) (n i:Int):hfa2 (N+1) as' l su (s,w,a,false,o,true,()) W n i=bif decide (i<(l.length:Int)) then faI l (s,w,a,false,o,true,()) W n i (l.getD i.toNat RDF) (bO false) (λx W n i=>hfa2 N as' l su x W n i) else faZ o W su true:=by kernel_rfl
theorem gT_ok {α β:Type} {l:List α} {i:Nat} (h:i<l.length) (ps:List Bool) (y:Option β):gd (ps++gT l (i:Int)) y=gd ps y:=by
 induction ps generalizing y with
 |nil=>
  show gd [decide ((i:Int).toNat<l.length),decide (0<=(i:Int)),decide ((i:Int)<(l.length:Int))] y=gd [] y;rw[gdT (by omega),gdT (by omega),gdT (by omega)]
 |cons q qs ih=>
  rw[List.cons_append];exact ih (bif q then y else none)
theorem may1:amayB (ansT 1)=false:=by kernel_rfl
theorem may200:amayB (ansT 200)=true:=by kernel_rfl
theorem answ_P (x:AnsD):aputP (answN x)=true:=by
 obtain⟨n,hs,b,⟨⟩⟩:=x;show(decide (((hs.take 12).map cutHd).length<=140737488355328)&&((hs.take 12).map cutHd).all Nice.headPW)=true;have hl:((hs.take 12).map cutHd).length<=12:=by rw[List.length_map,List.length_take];omega
 have ha:((hs.take 12).map cutHd).all Nice.headPW=true:=List.all_eq_true.2 λh hm=>by
  obtain⟨y, -,rfl⟩:=List.mem_map.1 hm;have l1:(cut y.1 32).length<=32:=lcut0 y.1 32;have l2:(cut y.2.1 102).length<=102:=lcut0 y.2.1 102;show(bndS (cut y.1 32)&&bndS (cut y.2.1 102))=true;unfold bndS;rw[decide_eq_true (by omega),decide_eq_true (by omega)];rfl
 rw[ha,decide_eq_true (by omega)];rfl
theorem faD_ok {s:ScanD} {r:ReqD} {w:List ReqD} {A:AnsD} {W:L8} {n i:Nat} {nx:K2} (h0:(ofN r).2=0) (hA:amayB A=true) (hP:aputP A=true) (hw:∀r,r∈w->ofP r=true) (hl:W.length+30000*(w.length+2)<=1000000000000) (hc:w.length<=1000000) (hi:i<=1000000)
  (h:nx (goN s false w askZ (W++aputN A (ofN r).1.2.2.2.2.2.2.2.2.2.1)) (W++aputN A (ofN r).1.2.2.2.2.2.2.2.2.2.1) ((n:Int)+1) ((i:Int)+1)=bO true):
  faD (s,w,(ofN r).1,true,W,false,()) A W (n:Int) (i:Int) (ofN r).1.2.2.2.2.2.2.2.2.2.1 nx=bO true:=by
 obtain⟨d1,d2⟩:=done_no (x:=(s,w,(ofN r).1,true,W,false,())) may1 (aputP0 1 []);obtain⟨d3,d4⟩:=done_ok (s:=s) (r:=r) (w:=w) (o:=W) (n:=A) h0 hA hP hw (by omega) hc;rw[goN_good h0] at d3 d4;have hz:∀b,(aputN A b).length<=30000:=λb=>aput_len b
 unfold faD;rw[d2];dsimp only;rw[xF,d4];dsimp only;rw[xT,gdB d3,gdB d1,xG]
 revert h
 cases(ofN r).1.2.2.2.2.2.2.2.2.2.1
 ·intro h;have:=hz false;rw[xF];unfold faN;rw[gdT (inK_i64.2 ⟨by omega,by omega⟩),gdT (by omega),gdB hP,xG];exact h
 ·intro h;have:=hz true;rw[xT];unfold faN;rw[gdT (inK_i64.2 ⟨by omega,by omega⟩),gdT (by omega),gdB hP,xG];exact h
theorem fa2_l {as':List AnsD} {l:List ReqD} {s:ScanD} {su:Int} (hs:s.2.1=su) (hL:l.length<=100000) (hof:∀r,r∈l->ofP r=true):∀(L:List ReqD) (i N n:Nat) (W:L8),l.drop i=L->i+L.length=l.length->W.length<=30000*i->n<=i->L.length<N->hfa2 N as' l su (goN s false L askZ W) W (n:Int) (i:Int)=bO true
 |[],i,N,n,W,hd,hi,hW,hn,hN=>by
  obtain⟨N,rfl⟩:∃k,N=k+1:=⟨N-1,by omega⟩
  simp only[List.length_nil] at hi;have hz:(aputN (ansT su) false).length<=30000:=aput_len _;by_cases h0:su=0
  ·rw[goN_nil0 (hs.trans h0),efa_F,cdF (by omega)];unfold faZ faEq;rw[show(su !=0)=false from by rw[bne_eq_false_iff_eq];exact h0,xF,beq_self_eq_true,xT,xF];rfl
  ·rw[goN_nil1 (by rw[hs];exact h0),hs,efa_C,cdF (by omega)];unfold faZ faEq;rw[show(su !=0)=true from bne_iff_ne.2 h0,xT,beq_self_eq_true,xT,xT,gdT (by omega),gdB (aputP0 su []),xG]
 |r::w,i,N,n,W,hd,hi,hW,hn,hN=>by
  simp only[List.length_cons] at hi hN;obtain⟨N,rfl⟩:∃k,N=k+1:=⟨N-1,by omega⟩
  have hi':i<l.length:=by omega
  have hd2:=List.drop_eq_getElem_cons hi';rw[hd] at hd2;have hr:l.getD (i:Int).toNat RDF=r:=by
   show l.getD i RDF=r;rw[List.getD_eq_getElem?_getD,List.getElem?_eq_getElem hi'];exact(List.cons.inj hd2).1.symm
  have hw:l.drop (i+1)=w:=(List.cons.inj hd2).2.symm;have hrm:r∈l:=List.mem_of_mem_drop (i:=i) (by rw[hd];exact List.mem_cons_self ..);have hwm:∀x,x∈w->ofP x=true:=λx hx=>hof x (List.mem_of_mem_drop (i:=i) (by rw[hd];exact List.mem_cons_of_mem _ hx))
  have ih:=λ(n':Nat) (W':L8) (h1:W'.length<=30000*(i+1)) (h2:n'<=i+1)=>fa2_l (as':=as') hs hL hof w (i+1) N n' W' hw (by omega) h1 h2 (by omega)
  simp only[Int.natCast_add,Int.natCast_one] at ih;by_cases h0:(ofN r).2=0
  ·rw[goN_good h0,efa_T,cdT (by omega),hr];unfold faI;rw[gT_ok hi',gdB (hof r hrm),xG,show((ofN r).2 !=0)=false from by rw[bne_eq_false_iff_eq];exact h0,xF,eqB_refl,Bool.not_true,xF];have key:∀A:AnsD,amayB A=true->aputP A=true->faD (s,w,(ofN r).1,true,W,false,()) A W (n:Int) (i:Int) (ofN r).1.2.2.2.2.2.2.2.2.2.1 (λx W n i=>hfa2 N as' l su x W n i)=bO true:=λA hA hP=>
    faD_ok h0 hA hP hwm (by omega) (by omega) (by omega) (by
     have hz:(aputN A (ofN r).1.2.2.2.2.2.2.2.2.2.1).length<=30000:=aput_len _;have:=ih (n+1) (W++aputN A (ofN r).1.2.2.2.2.2.2.2.2.2.1) (by rw[List.length_append];omega) (by omega);simp only[Int.natCast_add,Int.natCast_one] at this;exact this)
   unfold faG;by_cases hn':n<as'.length
   ·rw[cdT (by omega)];cases hm:amayB (answN (as'.getD (n:Int).toNat ADF))
    ·rw[xF,gT_ok hn',gdT (inK_i64.2 ⟨by omega,by omega⟩),gdB (answ_P _),xG];exact key _ may200 (aputP0 200 [])
    ·rw[xT,gT_ok hn',show [decide (inK .i64 ((n:Int)+1))]++gT as' (n:Int)++[aputP (answN (as'.getD (n:Int).toNat ADF))]=decide (inK .i64 ((n:Int)+1))::decide ((n:Int).toNat<as'.length)::decide (0<=(n:Int))::decide ((n:Int)<(as'.length:Int))::[aputP (answN (as'.getD (n:Int).toNat ADF))] from rfl,
      gdT (inK_i64.2 ⟨by omega,by omega⟩),gdT (by omega),gdT (by omega),gdT (by omega),gdB (answ_P _),xG]
     exact key _ hm (answ_P _)
   ·rw[cdF (by omega),gdT (inK_i64.2 ⟨by omega,by omega⟩),xG];exact key _ may200 (aputP0 200 [])
  ·have hb:(ofN r).2 !=0:=bne_iff_ne.2 h0;have main:∀(x:FrontD) (good:BO),x=goN s false w askZ (W++aputN (ansT (ofN r).2) (bareR r))->faI l x W (n:Int) (i:Int) r good (λx W n i=>hfa2 N as' l su x W n i)=bO true:=λx good hx=>by
    have hz:∀b,(aputN (ansT (ofN r).2) b).length<=30000:=λb=>aput_len b
    have:=ih n (W++aputN (ansT (ofN r).2) (bareR r)) (by have:=hz (bareR r);rw[List.length_append];omega) (by omega);unfold faI;rw[gT_ok hi',gdB (hof r hrm),xG,hb,xT]
    revert this hx
    show x=goN s false w askZ (W++aputN (ansT (ofN r).2) (r.1==[72,69,65,68]))->hfa2 N as' l su (goN s false w askZ (W++aputN (ansT (ofN r).2) (r.1==[72,69,65,68]))) (W++aputN (ansT (ofN r).2) (r.1==[72,69,65,68])) (n:Int) ((i:Int)+1)=bO true->_;cases r.1==[72,69,65,68]
    ·intro hx this;have hz:=hz false;rw[xF];unfold faB;rw[gT_ok hi',gdT (inK_i64.2 ⟨by omega,by omega⟩),gdT (by omega),gdB (aputP0 _ []),xG,hx];exact this
    ·intro hx this;have hz:=hz true;rw[xT];unfold faB;rw[gT_ok hi',gdT (inK_i64.2 ⟨by omega,by omega⟩),gdT (by omega),gdB (aputP0 _ []),xG,hx];exact this
   have hkc:=goN_kc (s:=s) w askZ (W++aputN (ansT (ofN r).2) (bareR r));rw[goN_bad h0]
   revert main hkc
   generalize goN s false w askZ (W++aputN (ansT (ofN r).2) (bareR r))=x;intro main hkc;obtain⟨s',w',a',k',o',c',⟨⟩⟩:=x;cases k'
   ·cases c'
    ·rw[efa_F,cdT (by omega),hr];exact main _ _ rfl
    ·rw[efa_C,cdT (by omega),hr];exact main _ _ rfl
   ·have hkc:c'=false:=hkc rfl;subst hkc;rw[efa_T,cdT (by omega),hr];exact main _ _ rfl
theorem fa1_l {cs:List Int} {as':List AnsD} {T:L8} (hT:T.length<=100000) (hcs:cs.length<=1000000000000000) (N2:∀N,100001<N->∀x,FInv T x->hfa2 N as' (outX (mX T)) (mX T).2.1 x [] 0 0=bO true) (r:Nat):∀(i N:Nat) (p t:L8) (x:FrontD),cs.length<=i+r->p++t=T->FInv p x->r+100002<N->hfa1 N cs as' (outX (mX T)) (mX T).2.1 x t (i:Int)=bO true:=by
 have hend:∀(N:Nat) (p t:L8) (x:FrontD),p++t=T->FInv p x->100001<N->gd [ffeedP x t] (hfa2 N as' (outX (mX T)) (mX T).2.1 (ffeedF x t) [] 0 0)=bO true:=λN p t x hp hx hN=>by
  obtain⟨f1,f2⟩:=feed_inv (b:=t) hx (by rw[hp];exact hT);rw[gdB f1,xG];rw[hp] at f2;exact N2 N hN _ f2
 induction r with
 |zero=>
  intro i N p t x hi hp hx hN;obtain⟨N,rfl⟩:∃k,N=k+1:=⟨N-1,by omega⟩
  rw[efa_1];unfold fa1;rw[cdF (by omega)];exact hend N p t x hp hx (by omega)
 |succ r ih=>
  intro i N p t x hi hp hx hN;obtain⟨N,rfl⟩:∃k,N=k+1:=⟨N-1,by omega⟩
  rw[efa_1];unfold fa1;by_cases h1:i<cs.length
  ·rw[cdT (by omega)];by_cases h2:0<t.length
   ·rw[cdT (by omega)];dsimp only;obtain⟨j,j1,j2,j3,j4⟩:=cut50 (cs.getD (i:Int).toNat (IT).dflt) t.length;rw[j1,gT_ok h1,gdT (inK_i64.2 ⟨by omega,by omega⟩),gdT (by omega),gdT (by omega),Int.toNat_natCast];have hpt:p++t.take j++t.drop j=T:=by rw[List.append_assoc,List.take_append_drop];exact hp
    have hl:(p++t.take j).length<=100000:=by
     have:=congrArg List.length hpt;rw[List.length_append] at this;omega
    obtain⟨f1,f2⟩:=feed_inv (b:=t.take j) hx hl;rw[gdB f1,gdT (by omega),gdT (by omega),gdT (inK_i64.2 ⟨by omega,by omega⟩),xG];have:=ih (i+1) N (p++t.take j) (t.drop j) (ffeedF x (t.take j)) (by omega) hpt f2 (by omega);simp only[Int.natCast_add,Int.natCast_one] at this;exact this
   ·rw[cdF (by omega)];exact hend N p t x hp hx (by omega)
  ·rw[cdF (by omega)];exact hend N p t x hp hx (by omega)
theorem fa0_l {rs:List ReqD} {cs:List Int} {as':List AnsD} {more:L8} (hcs:cs.length<=1000000000000000) (r:Nat):∀(i N:Nat) (t:L8),i+r=4->t.length<=3000*i->r+cs.length+200000<N->hfa0 N rs cs as' more t (i:Int)=bO true:=by
 have hend:∀(N:Nat) (t:L8),t.length<=12000->cs.length+100010<N->faE0 t more (λl t su=>hfa1 N cs as' l su frontZ t 0)=bO true:=λN t ht hN=>by
  have lc:(cut more 40).length<=40:=lcut0 more 40;have hl:(t++cut more 40).length<=100000:=by rw[List.length_append];omega
  obtain⟨r1,r2⟩:=hidP_of (g:=orscan) (rscan_n (t++cut more 40) (by omega));have r1:rscanP (t++cut more 40,())=true:=r1;obtain⟨s1,s2, -⟩:=scan_outs (t++cut more 40);have e1:(rscanN (t++cut more 40,())).1=outX (mX (t++cut more 40)):=(congrArg (·.1) r2).trans s2.symm;have e2:(rscanN (t++cut more 40,())).2.1=(mX (t++cut more 40)).2.1:=(congrArg (·.2.1) r2).trans s1.symm
  have h1:=fa1_l (cs:=cs) (as':=as') hl hcs (λN hN x hx=>by
   obtain⟨s,g1,g2, -⟩:=hx;have ho:=out_len (t++cut more 40);rw[g1];exact fa2_l g2 (by omega) (out_ofP hl) (outX (mX (t++cut more 40))) 0 N 0 [] rfl (Nat.zero_add _) (Nat.le_refl 0) (Nat.le_refl 0) (by omega)) cs.length 0 N [] (t++cut more 40) frontZ (by omega) (List.nil_append _) FInv0 (by omega)
  unfold faE0;rw[gdT (by omega),xG,e1,e2];cases(rscanN (t++cut more 40,())).2.2.1
  ·rw[xF,gdB r1,xG];exact h1
  ·rw[xT,gdB r1,xG];exact h1
 induction r with
 |zero=>
  intro i N t hi ht hN;obtain⟨N,rfl⟩:∃k,N=k+1:=⟨N-1,by omega⟩
  have:=hend N t (by omega) (by omega);rw[efa_0];unfold fa0;by_cases h1:i<rs.length
  ·rw[cdT (by omega),cdF (by omega)];exact this
  ·rw[cdF (by omega)];exact this
 |succ r ih=>
  intro i N t hi ht hN;obtain⟨N,rfl⟩:∃k,N=k+1:=⟨N-1,by omega⟩
  rw[efa_0];unfold fa0;by_cases h1:i<rs.length
  ·have hl:=lineT_len (rs.getD (i:Int).toNat RDF);rw[cdT (by omega),cdT (by omega),gT_ok h1,gdT (inK_i64.2 ⟨by omega,by omega⟩),gdT (by omega),xG];have:=ih (i+1) N (t++lineT (rs.getD (i:Int).toNat RDF)) (by omega) (by rw[List.length_append];omega) (by omega);simp only[Int.natCast_add,Int.natCast_one] at this
   exact this
  ·rw[cdF (by omega)];exact hend N t (by omega) (by omega)
theorem fa_n {rs:List ReqD} {more:L8} {cs:List Int} {as':List AnsD} (hcs:cs.length<=1000000000000000):ofa (rs,more,cs,as',())=some (true,()):=by
 rw[ofa_g,efa_g];exact fa0_l hcs 4 0 heads0 [] rfl (Nat.le_refl 0) (Nat.lt_of_le_of_lt (Nat.add_le_add_right (Nat.add_le_add_left hcs 4) 200000) (by unfold heads0;omega))
theorem fa_c:PC 5 (ofO FATs [.bool] ofa):=pureO (sh:=shOf shFA) (envO_ok (l:=[(12,trueS),(28,cutS),(27,lineRS),(29,rscanS),(32,ofS),(36,amayAS),(37,answS),(33,aputS)]) (o:=[(30,newS),(31,ffeedS),(34,asksS),(35,closedS),(38,doneS),(39,foutS)]) ⟨begun19_c,cut_c,line22_c,rscan_c,rOfG_c,rmay_c,answ_c,rput_c,trivial⟩ ⟨new_c,ffeed_c,asks_c,closed_c,done_c,fout_c,trivial⟩) gl_ne Tryz.func5 (by kernel_rfl) (by decide)
theorem lawFA_run {w:World} (hgl:GlW glC w) {args:Array Value} {x:DenL FATs} (hx:RdAll (fzW w) FATs x args.toList) (hb:BdL FATs x):Calls Tryz.prog 5 args w λe w'=>e=.returned (.bool true)/\Same w w':=
 law_calls fa_c (λx hb=>by
  obtain⟨rs,more,cs,as',⟨⟩⟩:=x;have hcs:cs.length<=reach:=hb.2.2.1.1;have:=fa_n (rs:=rs) (more:=more) (cs:=cs) (as':=as') (Nat.le_trans hcs (by decide));exact⟨by show(ofa (rs,more,cs,as',())).isSome=true;rw[this];rfl,by show(ofa (rs,more,cs,as',())).getD _=_;rw[this];rfl⟩) hgl hx hb
