/-
  Part of the proof: BkL LawPg BkW NiceZ TagG TagH TagR TagI ShP ShRev ShU ShV ShQ. No condition.
-/
import Derived.Test.YtldllfocpadkeaaGreatDoorG6
import Derived.Test.YtldllfocpadkeaaGreatDoorG4
import Derived.Test.YtldllfocpadkeaaGreatDoorRow
import Derived.Test.YtldllfocpadkeaaGreatDoorBegE
import Derived.Test.YtldllfocpadkeaaGreatDoorG3
import Derived.Test.YtldllfocpadkeaaGreatDoorG1
namespace Nice
open Go Go.Eng
abbrev AO1:=Option (DenL [AskT])
abbrev HO1:=Option (DenL [ShT])
def acutN (a:AskD):AskD:=(a.1,cut a.2.1 42,a.2.2.1,cut a.2.2.2.1 302,a.2.2.2.2.1,cut a.2.2.2.2.2.1 10,cut a.2.2.2.2.2.2.1 42,cut a.2.2.2.2.2.2.2.1 42,a.2.2.2.2.2.2.2.2.1,a.2.2.2.2.2.2.2.2.2.1,())
noncomputable def acutS:PSpec:=⟨[AskT],[AskT],fun _=>true,fun x=>(acutN x.1,())⟩
def zSh:ShD:=([],[],false,[],())
def lastN (l:List (List UInt8)):List UInt8:=l.getD (l.length-1) Ty.str.dflt
def nmSh (l:List (List UInt8)) (g:Bool):ShD:=(l,[],g,bif g then lastN l else [],())
def enSh (l:List EntD) (g:Bool):ShD:=([],l,g,bif g then(entAt l (l.length-1)).1 else [],())
def leafB (s:StD) (a:AskD):ShD:=bif a.1==4 then nmSh (namesL s a.2.2.2.2.2.2.1 a.2.2.2.2.2.2.2.1 a.2.2.2.2.2.2.2.2.1 true) (pageM s a.2.2.2.2.2.2.1 a.2.2.2.2.2.2.2.1 a.2.2.2.2.2.2.2.2.1 true)
 else bif a.1==5 then enSh (pageL s a.2.2.2.2.2.2.1 a.2.2.2.2.2.2.2.1 a.2.2.2.2.2.2.2.2.1 false) (pageM s a.2.2.2.2.2.2.1 a.2.2.2.2.2.2.2.1 a.2.2.2.2.2.2.2.2.1 false) else zSh
def leafN (s:StD) (a:AskD):ShD:=bif bmayN s then(bif mayN a then leafB s a else zSh) else zSh
def leafP (s:StD) (a:AskD):Bool:=bmayP s&&askP a
noncomputable def leafS:PSpec:=⟨[StT,AskT],[ShT],fun x=>leafP x.1 x.2.1,fun x=>(leafN x.1 x.2.1,())⟩
noncomputable abbrev gLast {α:Type} (l:List α):List Bool:=[decide (((l.length:Int)-1).toNat<l.length),decide (0≤(l.length:Int)-1),decide ((l.length:Int)-1<(l.length:Int)),decide (inK .i64 ((l.length:Int)-1))]
theorem gLast_ok {α β:Type} {l:List α} (h0:0<l.length) (h1:l.length≤1000) (ps:List Bool) (y:Option β):gd (gLast l++ps) y=gd ps y:=by
 unfold gLast;simp only[List.cons_append,List.nil_append];rw[gdT (by omega),gdT (by omega),gdT (by omega),gdT (inK_i64.2 ⟨by omega,by omega⟩)]
noncomputable def nmE (s:StD) (l:List (List UInt8)) (g:Bool):HO1:=bif g then gd (gLast l++[pageP s]) (some ((l,[],true,l.getD ((l.length:Int)-1).toNat Ty.str.dflt,()),())) else gd [pageP s] (some ((l,[],false,[],()),()))
noncomputable def enE (s:StD) (l:List EntD) (g:Bool):HO1:=bif g then gd (gLast l++[pageP s]) (some (([],l,true,(l.getD ((l.length:Int)-1).toNat (EntT).dflt).1,()),())) else gd [pageP s] (some (([],l,false,[],()),()))
theorem nmE_n {s:StD} {l:List (List UInt8)} {g:Bool} (hp:pageP s=true) (hl:l.length≤1000) (h0:g=true→0<l.length):nmE s l g=some (nmSh l g,()):=by
 unfold nmE nmSh;cases g
 ·rw[xF,gdB hp,xG];rfl
 ·have:=h0 rfl;rw[xT,gLast_ok this hl,gdB hp,xG,show((l.length:Int)-1).toNat=l.length-1 by omega];rfl
theorem enE_n {s:StD} {l:List EntD} {g:Bool} (hp:pageP s=true) (hl:l.length≤1000) (h0:g=true→0<l.length):enE s l g=some (enSh l g,()):=by
 unfold enE enSh;cases g
 ·rw[xF,gdB hp,xG];rfl
 ·have:=h0 rfl;rw[xT,gLast_ok this hl,gdB hp,xG,show((l.length:Int)-1).toNat=l.length-1 by omega];rfl
theorem page_more {s:StD} {p f:List UInt8} {k:Int} {b:Bool} (h:pageM s p f k b=true):((pageL s p f k b).length:Int)=mostN k:=by
 have h:mostN k<((selL s p f b).length:Int):=of_decide_eq_true h;have h0:=most_nn k;unfold pageL;rw[List.length_take];omega
theorem most_pos (k:Int):1≤mostN k:=by unfold mostN;omega
noncomputable def leafE (s:StD) (a:AskD):HO1:=
 bif bmayN s then(bif mayN a then gd [askP a,bmayP s] (bif a.1==4 then nmE s (namesL s a.2.2.2.2.2.2.1 a.2.2.2.2.2.2.2.1 a.2.2.2.2.2.2.2.2.1 true) (pageM s a.2.2.2.2.2.2.1 a.2.2.2.2.2.2.2.1 a.2.2.2.2.2.2.2.2.1 true)
  else bif a.1==5 then enE s (pageL s a.2.2.2.2.2.2.1 a.2.2.2.2.2.2.2.1 a.2.2.2.2.2.2.2.2.1 false) (pageM s a.2.2.2.2.2.2.1 a.2.2.2.2.2.2.2.1 a.2.2.2.2.2.2.2.2.1 false) else some (zSh,())) else gd [askP a,bmayP s] (some (zSh,()))) else gd [bmayP s] (some (zSh,()))
theorem leafE_n {s:StD} {a:AskD} (h:leafP s a=true):leafE s a=some (leafN s a,()):=by
 unfold leafP at h;rw[Bool.and_eq_true] at h;unfold leafE leafN;cases hb:bmayN s
 ·rw[xF,xF,gdB h.1,xG]
 rw[xT,xT];have hp:=bmay_page hb;cases mayN a
 ·rw[xF,xF,gdB h.2,gdB h.1,xG]
 rw[xT,xT,gdB h.2,gdB h.1,xG];unfold leafB;cases a.1==4
 ·rw[xF,xF];cases a.1==5
  ·rw[xF,xF]
  ·rw[xT,xT];refine enE_n hp (Nat.le_trans page_len (by omega)) fun hg=> ?_
   have:=page_more hg;have:=most_pos a.2.2.2.2.2.2.2.2.1;omega
 ·rw[xT,xT];refine nmE_n hp ?_ fun hg=> ?_
  ·unfold namesL;rw[List.length_map];exact Nat.le_trans page_len (by omega)
  ·have:=page_more hg;have:=most_pos a.2.2.2.2.2.2.2.2.1;unfold namesL;rw[List.length_map];omega
end Nice
namespace Go.Proofs.YtldllfocpadkeaaGreatDoor
open Go Go.Eng Nice
set_option maxRecDepth 1000000
theorem am_c:PC 17 mayDS:=by
 have e:amayS=mayDS:=by
  unfold amayS mayDS;congr 1;funext x;rw[request_ok];cases mayN x.1<;>rfl
 rw[←e];exact amay_c
noncomputable def oacut (x:DenL [AskT]):AO1:=fO Tryz.prog (envS [(28,cutS)]) (shOf []) Tryz.f14 [AskT] [AskT] x
theorem eacut (kd:Int) (key:List UInt8) (v:Int) (bo:List UInt8) (co:Int) (t p f:List UInt8) (mx:Int) (ba:Bool):oacut ((kd,key,v,bo,co,t,p,f,mx,ba,()),())=some (acutN (kd,key,v,bo,co,t,p,f,mx,ba,()),()):=by kernel_rfl
theorem acut_c:PC 14 acutS:=(pureO (envS_ok (l:=[(28,cutS)]) ⟨cut_c,trivial⟩) gl_ne Tryz.func14 (by kernel_rfl) (by decide)).nice fun⟨⟨kd,key,v,bo,co,t,p,f,mx,ba,()⟩,()⟩ _=>eacut kd key v bo co t p f mx ba
noncomputable def oleaf (x:DenL [StT,AskT]):HO1:=fO Tryz.prog (envS [(52,bmayS),(17,mayDS),(53,namesS),(54,versS)]) (shOf []) Tryz.f16 [StT,AskT] [ShT] x
theorem eleaf (q:Int) (l:List EntD) (m:List MemoD) (a b c d e:Int) (kd:Int) (key:List UInt8) (v:Int) (bo:List UInt8) (co:Int) (t p f:List UInt8) (mx:Int) (ba:Bool):oleaf ((q,l,m,(a,b,c,d,e,()),()),(kd,key,v,bo,co,t,p,f,mx,ba,()),())=leafE (q,l,m,(a,b,c,d,e,()),()) (kd,key,v,bo,co,t,p,f,mx,ba,()):=by kernel_rfl
theorem leaf_c:PC 16 leafS:=(pureO (envS_ok (l:=[(52,bmayS),(17,mayDS),(53,namesS),(54,versS)]) ⟨bmay_c,am_c,names_c,vers_c,trivial⟩) gl_ne Tryz.func16 (by kernel_rfl) (by decide)).nice fun⟨⟨q,l,m,⟨a,b,c,d,e,()⟩,()⟩,⟨kd,key,v,bo,co,t,p,f,mx,ba,()⟩,()⟩ h=>(eleaf q l m a b c d e kd key v bo co t p f mx ba).trans (leafE_n h)
end Go.Proofs.YtldllfocpadkeaaGreatDoor
namespace Nice
open Go Go.Eng
def nextA (a:AskD) (x:List UInt8):AskD:=(a.1,a.2.1,a.2.2.1,a.2.2.2.1,a.2.2.2.2.1,a.2.2.2.2.2.1,a.2.2.2.2.2.2.1,x,a.2.2.2.2.2.2.2.2.1,a.2.2.2.2.2.2.2.2.2.1,())
theorem mayL_max {a:AskD} (hk:isL a.1=true) (h:mayN a=true):mostN a.2.2.2.2.2.2.2.2.1=a.2.2.2.2.2.2.2.2.1:=by
 unfold mayN at h;rw[hk,xT] at h;unfold mayL at h;simp only[Bool.and_eq_true,decide_eq_true_eq] at h;unfold mostN;omega
theorem lcut0 (s:List UInt8) (n:Nat):(cut s (n:Int)).length≤n:=by unfold cut;rw[List.length_take];omega
theorem acut_askP (a:AskD) (h1:i64P a.2.2.1=true) (h2:i64P a.2.2.2.2.2.2.2.2.1=true):askP (acutN a)=true:=by
 have l1:(cut a.2.1 42).length≤42:=lcut0 a.2.1 42;have l2:(cut a.2.2.2.1 302).length≤302:=lcut0 a.2.2.2.1 302;have l3:(cut a.2.2.2.2.2.1 10).length≤10:=lcut0 a.2.2.2.2.2.1 10;have l4:(cut a.2.2.2.2.2.2.1 42).length≤42:=lcut0 a.2.2.2.2.2.2.1 42;have l5:(cut a.2.2.2.2.2.2.2.1 42).length≤42:=lcut0 a.2.2.2.2.2.2.2.1 42
 unfold askP qryP sh1 acutN;dsimp only;rw[decide_eq_true (by omega:(cut a.2.1 42).length≤1000),decide_eq_true (by omega:(cut a.2.2.2.1 302).length≤1000),decide_eq_true (by omega:(cut a.2.2.2.2.2.1 10).length≤1000),decide_eq_true (by omega:(cut a.2.2.2.2.2.2.1 42).length≤1000),decide_eq_true (by omega:(cut a.2.2.2.2.2.2.2.1 42).length≤1000),h1,h2];rfl
theorem next_askP {a:AskD} {x:List UInt8} (h:askP a=true) (hx:x.length≤1000):askP (nextA a x)=true:=by
 unfold askP qryP sh1 at *;simp only[Bool.and_eq_true,decide_eq_true_eq] at h;unfold nextA;dsimp only;rw[decide_eq_true h.1.1,decide_eq_true h.1.2.1,decide_eq_true h.1.2.2.1,h.1.2.2.2,decide_eq_true h.2.1,decide_eq_true hx,h.2.2.2];rfl
end Nice
namespace Go.Proofs.YtldllfocpadkeaaGreatDoor
open Go Go.Eng Nice
set_option maxRecDepth 1000000
theorem begun19_c:PC 12 trueS:=pure_true begun19_run
abbrev rowA (a:AskD):AO:=.row [sy (.int .i64 a.1),sy (.string (bs a.2.1)),sy (.int .i64 a.2.2.1),sy (.string (bs a.2.2.2.1)),sy (.int .i64 a.2.2.2.2.1),sy (.string (bs a.2.2.2.2.2.1)),sy (.string (bs a.2.2.2.2.2.2.1)),sy (.string (bs a.2.2.2.2.2.2.2.1)),sy (.int .i64 a.2.2.2.2.2.2.2.2.1),.bool a.2.2.2.2.2.2.2.2.2.1] 28 false
theorem i64_bd {n:Int} (h:inK .i64 n):i64P n=true:=by
 have:=inK_i64.1 h;unfold i64P;rw[Bool.and_eq_true,decide_eq_true_eq,decide_eq_true_eq];exact this
end Go.Proofs.YtldllfocpadkeaaGreatDoor
namespace Nice
open Go Go.Eng
def walkN:Nat→StD→AskD→List ShD
 |0,_,_=>[]
 |n+1,s,a=>leafN s a::(bif (leafN s a).2.2.1 then walkN n s (nextA a (leafN s a).2.2.2.1) else [])
def walkP:Nat→StD→AskD→Bool
 |0,_,_=>false
 |n+1,s,a=>leafP s a&&(!(leafN s a).2.2.1||walkP n s (nextA a (leafN s a).2.2.2.1))
abbrev WO:=Option (DenL [.slice ShT])
noncomputable def wkStep (s:StD) (a:AskD) (o:List ShD) (nx:List ShD→AskD→WO):WO:=
 gd [decide ((2*(o.length+[((leafN s a).1,(leafN s a).2.1,(leafN s a).2.2.1,(leafN s a).2.2.2.1,())].length)+400)*72≤281474976710656),leafP s a] (bif (leafN s a).2.2.1 then nx (o++[((leafN s a).1,(leafN s a).2.1,(leafN s a).2.2.1,(leafN s a).2.2.2.1,())]) (nextA a (leafN s a).2.2.2.1) else some (o++[((leafN s a).1,(leafN s a).2.1,(leafN s a).2.2.1,(leafN s a).2.2.2.1,())],()))
theorem wk_l {s:StD} {h:Nat→AskD→List ShD→WO} (he:∀N a o,h (N+1) a o=wkStep s a o (fun o' a'=>h N a' o')):∀(r N:Nat) (a:AskD) (o:List ShD),walkP r s a=true→r<N→o.length+r≤1000→h N a o=some (o++walkN r s a,()):=by
 intro r
 induction r with
 |zero=>intro N a o h;cases h
 |succ r ih=>
  intro N a o hp hN ho;obtain⟨N,rfl⟩:∃k,N=k+1:=⟨N-1,by omega⟩
  unfold walkP at hp;rw[Bool.and_eq_true] at hp;rw[he];unfold wkStep walkN;rw[gdT (by rw[List.length_singleton];omega),gdB hp.1,xG];have e:((leafN s a).1,(leafN s a).2.1,(leafN s a).2.2.1,(leafN s a).2.2.2.1,())=leafN s a:=rfl;rw[e];have hp:=hp.2
  revert hp
  cases(leafN s a).2.2.1
  ·intro _;rfl
  ·intro hp;rw[xT,xT];show h N _ _=_;rw[ih N _ _ hp (by omega) (show(o++[leafN s a]:List ShD).length+r≤1000 by rw[List.length_append,List.length_singleton];omega),List.append_assoc];rfl
noncomputable def walkS:PSpec:=⟨[StT,AskT],[.slice ShT],fun x=>walkP 100 x.1 x.2.1,fun x=>(walkN 100 x.1 x.2.1,())⟩
end Nice
namespace Go.Proofs.YtldllfocpadkeaaGreatDoor
open Go Go.Eng Nice
set_option maxRecDepth 1000000
abbrev shwk:List (Nat×List (Nat×Sh)):=[(2,[(2,(.obj [.sym,(.dat EntT),(.dat MemoT),.sym,.sym,.sym,.sym,.sym])),(3,(.obj [.sym,.sym,.sym,.sym,.sym,.sym,.sym,.sym,.sym,.sym])),(4,(.one .any)),(5,(.one (.vec ShT 35)))])]
noncomputable def hwk (N:Nat) (q:Int) (l:List EntD) (m:List MemoD) (b1 c1 d1 e1 f1:Int) (a:AskD) (o:List ShD):WO:=rH Tryz.prog (envS [(16,leafS)]) (shOf shwk) Tryz.f42 [.slice ShT] N 0 [(2,.pointer (some ⟨12,0,none⟩)),(3,.pointer (some ⟨13,0,none⟩)),(4,Value.slice none 0 0),(5,dt 14)] [.dat EntT l,.dat MemoT m,.row [sy (.int .i64 q),dt 10,dt 11,sy (.int .i64 b1),sy (.int .i64 c1),sy (.int .i64 d1),sy (.int .i64 e1),sy (.int .i64 f1)] 26 false,rowA a,.vec ShT o 35]
noncomputable def owk (x:DenL [StT,AskT]):WO:=fO Tryz.prog (envS [(16,leafS)]) (shOf shwk) Tryz.f42 [StT,AskT] [.slice ShT] x
theorem owk_g (x:DenL [StT,AskT]):owk x=fON Tryz.prog (envS [(16,leafS)]) (shOf shwk) Tryz.f42 [StT,AskT] [.slice ShT] heads0 x:=rfl
theorem ewk_g (N:Nat) (q:Int) (l:List EntD) (m:List MemoD) (b1 c1 d1 e1 f1:Int) (kd:Int) (key:List UInt8) (v:Int) (bo:List UInt8) (co:Int) (t p f:List UInt8) (mx:Int) (ba:Bool):fON Tryz.prog (envS [(16,leafS)]) (shOf shwk) Tryz.f42 [StT,AskT] [.slice ShT] N ((q,l,m,(b1,c1,d1,e1,f1,()),()),(kd,key,v,bo,co,t,p,f,mx,ba,()),())=hwk N q l m b1 c1 d1 e1 f1 (kd,key,v,bo,co,t,p,f,mx,ba,()) []:=by kernel_rfl
theorem ewk_0 (N:Nat) (q:Int) (l:List EntD) (m:List MemoD) (b1 c1 d1 e1 f1:Int) (a:AskD) (o:List ShD):hwk (N+1) q l m b1 c1 d1 e1 f1 a o=wkStep (q,l,m,(b1,c1,d1,e1,f1,()),()) a o (fun o' a'=>hwk N q l m b1 c1 d1 e1 f1 a' o'):=by kernel_rfl
theorem walk_c:PC 42 walkS:=(pureO (sh:=shOf shwk) (envS_ok (l:=[(16,leafS)]) ⟨leaf_c,trivial⟩) gl_ne Tryz.func42 (by kernel_rfl) (by decide)).nice fun⟨⟨q,l,m,⟨b1,c1,d1,e1,f1,()⟩,()⟩,⟨kd,key,v,bo,co,t,p,f,mx,ba,()⟩,()⟩ h=>by
 show owk _=_;rw[owk_g,ewk_g];exact wk_l (h:=fun N a o=>hwk N q l m b1 c1 d1 e1 f1 a o) (fun N a o=>ewk_0 N q l m b1 c1 d1 e1 f1 a o) 100 heads0 _ [] h (by unfold heads0;omega) (by show 0+100≤1000;omega)
end Go.Proofs.YtldllfocpadkeaaGreatDoor
namespace Nice
open Go Go.Eng
abbrev ZW:Type:=Int×Int×Unit
def modN (n:Int):Int:=bif decide (n.tmod 65521<0) then n.tmod 65521+65521 else n.tmod 65521
def zaddN (a b:ZW):ZW:=(modN (a.1+b.1),modN (a.2.1+b.2.1),())
def zmulN (a b:ZW):ZW:=(modN (a.1*b.1-a.2.1*b.2.1),modN (a.1*b.2.1+a.2.1*b.1),())
def onN (z:ZW) (s:List UInt8):ZW:=s.foldl (fun z c=>zaddN (zmulN z (3,5,())) ((c.toNat:Int)+1,0,())) z
def hexW:List UInt8:=[48,49,50,51,52,53,54,55,56,57,97,98,99,100,101,102]
def hexD (n:Int):UInt8:=UInt8.ofNat ((hexW.getD n.toNat 0).toNat:Int).toNat
def fourN (n:Int):List UInt8:=[hexD ((n.tdiv 4096).tmod 16),hexD ((n.tdiv 256).tmod 16),hexD ((n.tdiv 16).tmod 16),hexD (n.tmod 16)]
def textN (z:ZW):List UInt8:=fourN z.1++fourN z.2.1
def markN (s:List UInt8):ZW:=onN (0,1,()) s
def tagN (s:List UInt8):List UInt8:=textN (markN s)
end Nice
namespace Nice
open Go Go.Eng
theorem c1:(4607182418800017408:Nat)=fN 1:=by decide
theorem c3:(4613937818241073152:Nat)=fN 3:=by decide
theorem c5:(4617315517961601024:Nat)=fN 5:=by decide
theorem c0:(0:Nat)=fN 0:=by decide
end Nice
namespace Nice
open Go Go.Eng
abbrev TO:=Option (DenL [.str])
end Nice
namespace Go.Proofs.YtldllfocpadkeaaGreatDoor
open Go Go.Eng Nice Go.RowKit
set_option maxRecDepth 1000000
abbrev shgt:List (Nat×List (Nat×Sh)):=[(9,[(2,(.one .sym)),(3,(.one (.vec .byte 5))),(6,(.one .sym)),(7,(.one .sym)),(16,(.agg [.sym,.sym])),(17,(.one .any))])]
noncomputable def hgt (k:Nat) (j:Int) (t o:List UInt8) (n i:Int) (a b:Nat):TO:=rH Tryz.prog (envS [(201,mayS)]) (shOf shgt) Tryz.f144 [.str] k 1 [(2,sy (.string (bs t))),(3,dt 10),(6,sy (.int .i64 n)),(7,sy (.int .i64 i)),(16,.agg #[sy (.float .f64 a),sy (.float .f64 b)]),(17,.int .i64 j)] [.vec .byte o 5]
end Go.Proofs.YtldllfocpadkeaaGreatDoor
namespace Nice
open Go Go.Eng
abbrev BS:Type:=Option (DenL [.str])
def verL:List UInt8:=[60,118,101,114,115,105,111,110,32,105,100,61,34]
def tagL:List UInt8:=[34,32,116,97,103,61,34]
def cloL:List UInt8:=[34,47,62]
def goneL:List UInt8:=[103,111,110,101]
def nameE:List UInt8:=[60,47,110,97,109,101,62]
def keyE:List UInt8:=[60,47,107,101,121,62]
def kenL:List UInt8:=[60,107,101,121,62,60,110,97,109,101,62]
def verY (d m:List UInt8):List UInt8:=verL++d++tagL++m++cloL
def mkV (v:VerD):List UInt8:=bif v.2.1 then goneL else tagN v.2.2.1
def verX (v:VerD):List UInt8:=verY (fmtN v.1) (mkV v)
def versX (l:List VerD):List UInt8:=l.reverse.flatMap verX
def entX (e:EntD):List UInt8:=kenL++e.1++nameE++versX e.2.1++keyE
noncomputable def entXS:PSpec:=⟨[EntT],[.str],fun x=>entB x.1,fun x=>(entX x.1,())⟩
end Nice
namespace Nice
open Go Go.Eng
abbrev RdO:OT:=.pair (.d .str) (.pair (.d .bool) .unit)
def isR (s l:List UInt8):List UInt8:=bif hasPre s l then s.drop l.length else s
noncomputable def isS:OSpec:=⟨true,0,RdO,241,[.d .str],[.d .bool],fun _ _=>true,fun x y=>((isR x.1 y.1,x.2.1,()),hasPre x.1 y.1,())⟩
end Nice
namespace Go.Proofs.YtldllfocpadkeaaGreatDoor
open Go Go.Eng Nice Go.RowKit
set_option maxRecDepth 1000000
abbrev shsp:List (Nat×List (Nat×Sh)):=[(5,[(1,(.obj [(.dat .str),(.dat EntT),.sym,.sym])),(2,(.one .sym)),(3,(.one .sym)),(12,(.one (.dat .str))),(13,(.one .sym)),(14,(.one .sym))]),(10,[(1,(.obj [(.dat .str),(.dat EntT),.sym,.sym])),(2,(.one .sym)),(3,(.one .sym)),(25,(.one (.dat EntT))),(26,(.one .sym)),(27,(.one .sym))])]
noncomputable def osp (x:DenL [ShT]):BS:=fO Tryz.prog (envS [(103,smayS),(104,entXS)]) (shOf shsp) Tryz.f60 [ShT] [.str] x
end Go.Proofs.YtldllfocpadkeaaGreatDoor
