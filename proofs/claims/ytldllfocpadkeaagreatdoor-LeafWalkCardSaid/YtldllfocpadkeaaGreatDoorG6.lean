/-
  Part of the proof: X0 ShKey ShEnt BkN BkM ShLib ShMa ShMb ShMc BkP SayDig ShN ShGa. No condition.
-/
import Derived.Test.YtldllfocpadkeaaGreatDoorSym
import Derived.Test.YtldllfocpadkeaaGreatDoorG1
import Derived.Test.YtldllfocpadkeaaGreatDoorEng11
import Derived.Test.YtldllfocpadkeaaGreatDoorBegD
import Derived.Test.YtldllfocpadkeaaGreatDoorG3
import Derived.Test.YtldllfocpadkeaaGreatDoorG4
import Derived.Test.YtldllfocpadkeaaGreatDoorG5
import Derived.Lib.AtoiErrMem
import Derived.Tactics2
import Derived.WalkKit
import Derived.Lib.ParseIntBCases
import Derived.Test.YtldllfocpadkeaaGreatDoorG2
namespace Nice
open Go Go.Eng
theorem xT {α:Type} (a b:α):(bif true then a else b)=a:=Eq.trans (cond_true a b) rfl
theorem xF {α:Type} (a b:α):(bif false then a else b)=b:=Eq.trans (cond_false a b) rfl
theorem xG {α:Type} (r:Option α):gd [] r=r:=Eq.trans gd_nil rfl
abbrev BO:=Option (DenL [.bool])
def bO (b:Bool):Option (DenL [.bool]):=some (b,())
end Nice
namespace Nice
open Go Go.Eng
abbrev VerT:Ty:=.pair (.int .i64) (.pair .bool (.pair .str .unit))
abbrev EntT:Ty:=.pair .str (.pair (.slice VerT) .unit)
abbrev VerD:Type:=Int×Bool×List UInt8×Unit
abbrev EntD:Type:=List UInt8×List VerD×Unit
def verBW (v:VerD):Bool:=decide (1≤v.1)&&(decide (v.1≤1099511627776)&&(decide (v.2.2.1.length≤300)&&(!v.2.1||v.2.2.1==[])))
def riseV:Int→List VerD→Bool
 |_,[]=>true
 |last,v::r=>verBW v&&(decide (last<v.1)&&riseV v.1 r)
theorem riseV_cons (last:Int) (v:VerD) (r:List VerD):riseV last (v::r)=(verBW v&&(decide (last<v.1)&&riseV v.1 r)):=rfl
def entB (e:EntD):Bool:=riseV 0 e.2.1&&(isKey e.1&&(decide (1≤e.2.1.length)&&decide (e.2.1.length≤12)))
def entP (e:EntD):Bool:=bndS e.1&&decide (e.2.1.length≤140737488355328)
noncomputable def verS:PSpec:=⟨[VerT],[.bool],fun _=>true,fun x=>(verBW x.1,())⟩
noncomputable def entS:PSpec:=⟨[EntT],[.bool],fun x=>entP x.1,fun x=>(entB x.1,())⟩
def cutV (v:VerD):VerD:=(v.1,v.2.1,cut v.2.2.1 302,())
def lentN (e:EntD):EntD:=(cut e.1 42,(e.2.1.take 14).map cutV,())
noncomputable def lentS:PSpec:=⟨[EntT],[EntT],fun x=>decide (x.1.2.1.length≤140737488355328),fun x=>(lentN x.1,())⟩
def verW (n:Int) (g:Bool) (b:List UInt8):BO:=bif decide (n≥1) then(bif decide (n≤1099511627776) then(bif decide ((b.length:Int)≤300) then(bif g then(bif b==[] then bO true else bO false) else bO true) else bO false) else bO false) else bO false
theorem verW_n (n:Int) (g:Bool) (b:List UInt8):verW n g b=some (verBW (n,g,b,()),()):=by
 unfold verW verBW;dsimp only;by_cases h1:n≥1
 ·rw[cdT h1,decide_eq_true (show 1≤n from h1),Bool.true_and];by_cases h2:n≤1099511627776
  ·rw[cdT h2,decide_eq_true h2,Bool.true_and];by_cases h3:b.length≤300
   ·rw[cdT (show(b.length:Int)≤300 by omega),decide_eq_true h3,Bool.true_and];cases g
    ·rfl
    ·cases b==[]<;>rfl
   ·rw[cdF (show ¬(b.length:Int)≤300 by omega),decide_eq_false h3];rfl
  ·rw[cdF h2,decide_eq_false h2];rfl
 ·rw[cdF h1,decide_eq_false (show ¬1≤n from h1)];rfl
def entE (k:List UInt8) (l:List VerD):BO:=bif isKey k then(bif decide ((l.length:Int)≥1) then(bif decide ((l.length:Int)≤12) then gd [bndS k] (bO true) else gd [bndS k] (bO false)) else gd [bndS k] (bO false)) else gd [bndS k] (bO false)
theorem entE_n {k:List UInt8} {l:List VerD} (h:bndS k=true):entE k l=some (isKey k&&(decide (1≤l.length)&&decide (l.length≤12)),()):=by
 unfold entE;cases isKey k
 ·rw[xF,gdB h,xG];rfl
 ·rw[xT];by_cases h1:1≤l.length
  ·rw[cdT (by omega),decide_eq_true h1];by_cases h2:l.length≤12
   ·rw[cdT (by omega),decide_eq_true h2,gdB h,xG];rfl
   ·rw[cdF (by omega),decide_eq_false h2,gdB h,xG];rfl
  ·rw[cdF (by omega),decide_eq_false h1,gdB h,xG];rfl
noncomputable def stepTM (k:List UInt8) (l:List VerD) (last:Int) (l2:List VerD) (m i:Int) (nx:BO):BO:=
 bif decide (i<m) then gd [decide (i.toNat<l2.length),decide (0≤i),decide (i<(l2.length:Int))] (bif verBW (l2.getD i.toNat (VerT).dflt) then(bif decide ((l2.getD i.toNat (VerT).dflt).1≤last) then bO false else gd [decide (inK .i64 (i+1))] nx) else bO false) else entE k l
noncomputable abbrev gP (l:List VerD) (i:Int):List Bool:=[decide ((i-1).toNat<l.length),decide (0≤i-1),decide (i-1<(l.length:Int)),decide (inK .i64 (i-1))]
def tailR (v:VerD) (no yes:BO):BO:=bif decide ((v.2.2.1.length:Int)>300) then no else bif v.2.1 then(bif !v.2.2.1==[] then no else yes) else yes
noncomputable def stepRM (k:List UInt8) (l:List VerD) (i:Int) (nx:BO):BO:=
 bif decide (i<(l.length:Int)) then gd [decide (i.toNat<l.length),decide (0≤i),decide (i<(l.length:Int))] (bif decide ((l.getD i.toNat (VerT).dflt).1<1) then bO false else bif decide ((l.getD i.toNat (VerT).dflt).1>1099511627776) then bO false
  else bif decide (i>0) then(bif decide ((l.getD i.toNat (VerT).dflt).1≤(l.getD (i-1).toNat (VerT).dflt).1) then gd (gP l i) (bO false) else tailR (l.getD i.toNat (VerT).dflt) (gd (gP l i) (bO false)) (gd (decide (inK .i64 (i+1))::gP l i) nx))
  else tailR (l.getD i.toNat (VerT).dflt) (bO false) (gd [decide (inK .i64 (i+1))] nx)) else entE k l
end Nice
namespace Go.Proofs.YtldllfocpadkeaaGreatDoor
open Go Go.Eng Nice Go.RowKit
set_option maxRecDepth 1000000
noncomputable def over (x:DenL [VerT]):BO:=fO Tryz.prog (envS []) (shOf []) Tryz.f142 [VerT] [.bool] x
theorem ever (n:Int) (g:Bool) (b:List UInt8):over ((n,g,b,()),())=verW n g b:=by kernel_rfl
theorem ver_c:PC 142 verS:=(pureO (envS_ok (l:=[]) trivial) gl_ne Tryz.func142 (by kernel_rfl) (by decide)).nice fun⟨⟨n,g,b,()⟩,()⟩ _=>by
 show over _=_;rw[ever];exact verW_n n g b
abbrev shtmay:List (Nat×List (Nat×Sh)):=[(3,[(1,(.obj [.sym,(.dat VerT)])),(2,(.one .sym)),(3,(.one .sym)),(7,(.one (.dat VerT))),(8,(.one .sym)),(9,(.one .sym))])]
noncomputable def htmay (N:Nat) (k:List UInt8) (l:List VerD) (c:Bool) (last:Int) (l2:List VerD) (m i:Int):BO:=rH Tryz.prog (envS [(135,isKeyS),(142,verS)]) (shOf shtmay) Tryz.f92 [.bool] N 0 [(1,.pointer (some ⟨11,0,none⟩)),(2,.bool c),(3,sy (.int .i64 last)),(7,dt 12),(8,sy (.int .i64 m)),(9,sy (.int .i64 i))] [.dat VerT l,.row [sy (.string (bs k)),dt 10] 44 false,.dat VerT l2]
noncomputable def otmay (x:DenL [EntT]):BO:=fO Tryz.prog (envS [(135,isKeyS),(142,verS)]) (shOf shtmay) Tryz.f92 [EntT] [.bool] x
theorem otmay_g (x:DenL [EntT]):otmay x=fON Tryz.prog (envS [(135,isKeyS),(142,verS)]) (shOf shtmay) Tryz.f92 [EntT] [.bool] heads0 x:=rfl
theorem etmay_g (N:Nat) (k:List UInt8) (l:List VerD):fON Tryz.prog (envS [(135,isKeyS),(142,verS)]) (shOf shtmay) Tryz.f92 [EntT] [.bool] N ((k,l,()),())=htmay N k l false 0 l (l.length:Int) 0:=by kernel_rfl
theorem etmay_0 (N:Nat) (k:List UInt8) (l:List VerD) (c:Bool) (last:Int) (l2:List VerD) (m i:Int):htmay (N+1) k l c last l2 m i=stepTM k l last l2 m i (htmay N k l c (l2.getD i.toNat (VerT).dflt).1 l2 m (i+1)):=by kernel_rfl
theorem tmay_l (k:List UInt8) (l:List VerD) (hk:bndS k=true) (hl:l.length≤140737488355328):∀(r i N:Nat) (last:Int),l.length=i+r→r<N→htmay N k l false last l (l.length:Int) (i:Int)=some (riseV last (l.drop i)&&(isKey k&&(decide (1≤l.length)&&decide (l.length≤12))),()):=by
 intro r
 induction r with
 |zero=>
  intro i N last hi hN;obtain⟨N,rfl⟩:∃m,N=m+1:=⟨N-1,by omega⟩
  rw[etmay_0];unfold stepTM;rw[cdF (by omega),entE_n hk,List.drop_eq_nil_of_le (by omega)];rfl
 |succ r ih=>
  intro i N last hi hN;obtain⟨N,rfl⟩:∃m,N=m+1:=⟨N-1,by omega⟩
  have hlt:i<l.length:=by omega
  have hd:l.drop i=l.getD i (VerT).dflt::l.drop (i+1):=by
   rw[List.drop_eq_getElem_cons hlt,List.getD_eq_getElem?_getD,List.getElem?_eq_getElem hlt];rfl
  have this:=ih (i+1) N (l.getD i (VerT).dflt).1 (by omega) (by omega);simp only[Int.natCast_add,Int.natCast_one] at this;rw[etmay_0];unfold stepTM;rw[cdT (by omega),show(i:Int).toNat=i from rfl,gdT hlt,gdT (by omega),gdT (by omega),xG,hd,this,riseV_cons];have hk1:inK .i64 ((i:Int)+1):=inK_i64.2 ⟨by omega,by omega⟩
  cases verBW (l.getD i (VerT).dflt)
  ·rfl
  ·rw[xT,Bool.true_and];by_cases h:(l.getD i (VerT).dflt).1≤last
   ·rw[cdT h,decide_eq_false (show ¬last<(l.getD i (VerT).dflt).1 by omega)];rfl
   ·rw[cdF h,decide_eq_true (show last<(l.getD i (VerT).dflt).1 by omega),gdT hk1,xG,Bool.true_and]
theorem tmay_c:PC 92 entS:=(pureO (sh:=shOf shtmay) (envS_ok (l:=[(135,isKeyS),(142,verS)]) ⟨dKey_c,ver_c,trivial⟩) gl_ne Tryz.func92 (by kernel_rfl) (by decide)).nice fun⟨⟨k,l,()⟩,()⟩ h=>by
 have h:(bndS k&&decide (l.length≤140737488355328))=true:=h;rw[Bool.and_eq_true,decide_eq_true_eq] at h;show otmay _=some (entB (k,l,()),());rw[otmay_g,etmay_g];exact tmay_l k l h.1 h.2 l.length 0 heads0 0 (by omega) (by unfold heads0;omega)
abbrev shrme:List (Nat×List (Nat×Sh)):=[(2,[(1,(.obj [.sym,(.dat VerT)])),(2,(.one .sym)),(3,(.one .sym))])]
noncomputable def hrme (N:Nat) (k:List UInt8) (l:List VerD) (c:Bool) (i:Int):BO:=rH Tryz.prog (envS [(74,isKeyS)]) (shOf shrme) Tryz.f50 [.bool] N 0 [(1,.pointer (some ⟨11,0,none⟩)),(2,.bool c),(3,sy (.int .i64 i))] [.dat VerT l,.row [sy (.string (bs k)),dt 10] 44 false]
noncomputable def orme (x:DenL [EntT]):BO:=fO Tryz.prog (envS [(74,isKeyS)]) (shOf shrme) Tryz.f50 [EntT] [.bool] x
theorem orme_g (x:DenL [EntT]):orme x=fON Tryz.prog (envS [(74,isKeyS)]) (shOf shrme) Tryz.f50 [EntT] [.bool] heads0 x:=rfl
theorem erme_g (N:Nat) (k:List UInt8) (l:List VerD):fON Tryz.prog (envS [(74,isKeyS)]) (shOf shrme) Tryz.f50 [EntT] [.bool] N ((k,l,()),())=hrme N k l false 0:=by kernel_rfl
theorem erme_0 (N:Nat) (k:List UInt8) (l:List VerD) (c:Bool) (i:Int):hrme (N+1) k l c i=stepRM k l i (hrme N k l c (i+1)):=by kernel_rfl
theorem tailR_n {v:VerD} {last:Int} {no yes:BO} {b:Bool} (h1:¬v.1<1) (h2:¬v.1>1099511627776) (h3:last<v.1) (hn:no=bO false) (hy:yes=bO b):tailR v no yes=some (verBW v&&(decide (last<v.1)&&b),()):=by
 obtain⟨n,g,t,⟨⟩⟩:=v;have h1:¬n<1:=h1;have h2:¬n>1099511627776:=h2;have h3:last<n:=h3;unfold tailR verBW;dsimp only;rw[decide_eq_true (show 1≤n by omega),decide_eq_true (show n≤1099511627776 by omega),decide_eq_true h3,hn,hy];by_cases h:t.length≤300
 ·rw[cdF (by omega),decide_eq_true h];cases g
  ·rfl
  ·cases t==[]<;>rfl
 ·rw[cdT (by omega),decide_eq_false h];rfl
theorem rme_l (k:List UInt8) (l:List VerD) (hk:bndS k=true) (hl:l.length≤140737488355328):∀(r i N:Nat) (last:Int),l.length=i+r→r<N→(i=0→last=0)→(0<i→last=(l.getD (i-1) (VerT).dflt).1)→hrme N k l false (i:Int)=some (riseV last (l.drop i)&&(isKey k&&(decide (1≤l.length)&&decide (l.length≤12))),()):=by
 intro r
 induction r with
 |zero=>
  intro i N last hi hN _ _;obtain⟨N,rfl⟩:∃m,N=m+1:=⟨N-1,by omega⟩
  rw[erme_0];unfold stepRM;rw[cdF (by omega),entE_n hk,List.drop_eq_nil_of_le (by omega)];rfl
 |succ r ih=>
  intro i N last hi hN hz hp;obtain⟨N,rfl⟩:∃m,N=m+1:=⟨N-1,by omega⟩
  have hlt:i<l.length:=by omega
  have hd:l.drop i=l.getD i (VerT).dflt::l.drop (i+1):=by
   rw[List.drop_eq_getElem_cons hlt,List.getD_eq_getElem?_getD,List.getElem?_eq_getElem hlt];rfl
  have this:=ih (i+1) N (l.getD i (VerT).dflt).1 (by omega) (by omega) (fun h=>by omega) (fun _=>rfl);simp only[Int.natCast_add,Int.natCast_one] at this;have hk1:inK .i64 ((i:Int)+1):=inK_i64.2 ⟨by omega,by omega⟩;have goal:(riseV last (l.getD i (VerT).dflt::l.drop (i+1))&&(isKey k&&(decide (1≤l.length)&&decide (l.length≤12))))=(verBW (l.getD i (VerT).dflt)&&(decide (last<(l.getD i (VerT).dflt).1)&&(riseV (l.getD i (VerT).dflt).1 (l.drop (i+1))&&(isKey k&&(decide (1≤l.length)&&decide (l.length≤12)))))):=by
   show((verBW _&&(decide _&&riseV _ _))&&_)=_;rw[Bool.and_assoc,Bool.and_assoc]
  rw[erme_0];unfold stepRM;rw[cdT (by omega),show(i:Int).toNat=i from rfl,gdT hlt,gdT (by omega),gdT (by omega),xG,hd,goal,this];generalize hv:l.getD i (VerT).dflt=v;have lo:v.1<1→verBW v=false:=fun h=>by unfold verBW;rw[decide_eq_false (show ¬1≤v.1 by omega)];rfl
  have up:v.1>1099511627776→verBW v=false:=fun h=>by unfold verBW;rw[decide_eq_false (show ¬v.1≤1099511627776 by omega)];exact Bool.and_false _
  by_cases h1:v.1<1
  ·rw[cdT h1,lo h1];rfl
  rw[cdF h1];by_cases h2:v.1>1099511627776
  ·rw[cdT h2,up h2];rfl
  rw[cdF h2];by_cases h0:i=0
  ·have hl0:=hz h0;rw[cdF (show ¬(i:Int)>0 by omega)];exact tailR_n h1 h2 (by omega) rfl (by rw[gdT hk1,xG];rfl)
  ·have hl1:=hp (by omega);have e:((i:Int)-1).toNat=i-1:=by omega
   have hg:∀x:BO,gd (gP l (i:Int)) x=x:=fun x=>by
    unfold gP;rw[e,gdT (by omega),gdT (by omega),gdT (by omega),gdT (inK_i64.2 ⟨by omega,by omega⟩),xG]
   rw[cdT (show(i:Int)>0 by omega),e,←hl1,hg];by_cases h3:v.1≤last
   ·rw[cdT h3,decide_eq_false (show ¬last<v.1 by omega),Bool.false_and,Bool.and_false];rfl
   ·rw[cdF h3];exact tailR_n h1 h2 (by omega) rfl (by rw[gdT hk1,hg];rfl)
theorem rme_c:PC 50 entS:=(pureO (sh:=shOf shrme) (envS_ok (l:=[(74,isKeyS)]) ⟨rKey_c,trivial⟩) gl_ne Tryz.func50 (by kernel_rfl) (by decide)).nice fun⟨⟨k,l,()⟩,()⟩ h=>by
 have h:(bndS k&&decide (l.length≤140737488355328))=true:=h;rw[Bool.and_eq_true,decide_eq_true_eq] at h;show orme _=some (entB (k,l,()),());rw[orme_g,erme_g];exact rme_l k l h.1 h.2 l.length 0 heads0 0 (by omega) (by unfold heads0;omega) (fun _=>rfl) (fun h=>absurd h (by decide))
abbrev shlent:List (Nat×List (Nat×Sh)):=[(4,[(1,(.obj [.sym,(.vec VerT 86)])),(2,(.obj [.sym,.any])),(19,(.one .sym)),(20,(.one .sym))])]
noncomputable def hlent (N:Nat) (k:List UInt8) (l:List VerD) (k2:List UInt8) (m i:Int):Option (DenL [EntT]):=rH Tryz.prog (envS [(28,cutS)]) (shOf shlent) Tryz.f49 [EntT] N 0 [(1,.pointer (some ⟨11,0,none⟩)),(2,.pointer (some ⟨12,0,none⟩)),(19,sy (.int .i64 m)),(20,sy (.int .i64 i))] [.vec VerT l 86,.row [sy (.string (bs k)),dt 10] 44 false,.row [sy (.string (bs k2)),Value.slice none 0 0] 44 false]
noncomputable def olent (x:DenL [EntT]):Option (DenL [EntT]):=fO Tryz.prog (envS [(28,cutS)]) (shOf shlent) Tryz.f49 [EntT] [EntT] x
theorem olent_g (x:DenL [EntT]):olent x=fON Tryz.prog (envS [(28,cutS)]) (shOf shlent) Tryz.f49 [EntT] [EntT] heads0 x:=rfl
theorem elent_g (N:Nat) (k:List UInt8) (l:List VerD):fON Tryz.prog (envS [(28,cutS)]) (shOf shlent) Tryz.f49 [EntT] [EntT] N ((k,l,()),())=
 (gd [decide ((2*(0+(cutL l none (some (min (l.length:Int) 14))).length)+400)*32≤281474976710656),decide (0≤min (l.length:Int) 14),decide (min (l.length:Int) 14≤(l.length:Int))] (hlent N (cut k 42) ([]++cutL l none (some (min (l.length:Int) 14))) [] (([]++cutL l none (some (min (l.length:Int) 14))).length:Int) 0)):=by kernel_rfl
theorem elent_0 (N:Nat) (k:List UInt8) (l:List VerD) (k2:List UInt8) (m i:Int):hlent (N+1) k l k2 m i=
 (bif decide (i<m) then gd [decide (inK .i64 (i+1)),decide (i.toNat<l.length),decide (0≤i),decide (i<(l.length:Int)),decide (i.toNat<l.length),decide (0≤i),decide (i<(l.length:Int))] (hlent N k (l.set i.toNat (cutV (l.getD i.toNat (VerT).dflt))) k2 m (i+1)) else some ((k,l,()),())):=by kernel_rfl
theorem lent_l (k k2:List UInt8):∀(r a:List VerD) (N:Nat),a.length+r.length≤14→r.length<N→hlent N k (a++r) k2 ((a++r).length:Int) (a.length:Int)=some ((k,a++r.map cutV,()),())
 |[],a,N,hl,hN=>by
  obtain⟨N,rfl⟩:∃m,N=m+1:=⟨N-1,by omega⟩
  rw[elent_0,List.append_nil,cdF (by omega)];rw[List.map_nil,List.append_nil]
 |v::r,a,N,hl,hN=>by
  obtain⟨N,rfl⟩:∃m,N=m+1:=⟨N-1,by omega⟩
  simp only[List.length_cons] at hl hN;have hlt:a.length<(a++v::r).length:=by simp
  have hg:(a++v::r).getD a.length (VerT).dflt=v:=getD_mid a r v _;have key:=lent_l k k2 r (a++[cutV v]) N (by simp;omega) (by omega);have e1:a++[cutV v]++r=a++cutV v::r:=by simp
  have e2:a++[cutV v]++r.map cutV=a++(v::r).map cutV:=by simp
  have e3:(a++cutV v::r).length=(a++v::r).length:=by simp
  rw[e1,e2,e3] at key;rw[List.length_append (bs:=[cutV v]),List.length_singleton] at key;simp only[Int.natCast_add,Int.natCast_one] at key;rw[elent_0,cdT (by omega),show((a.length:Int)).toNat=a.length from rfl,hg,set_mid,gdT (inK_i64.2 ⟨by omega,by omega⟩),gdT hlt,gdT (by omega),gdT (by omega),gdT hlt,gdT (by omega),gdT (by omega),xG]
  exact key
theorem lent_c:PC 49 lentS:=(pureO (sh:=shOf shlent) (envS_ok (l:=[(28,cutS)]) ⟨cut_c,trivial⟩) gl_ne Tryz.func49 (by kernel_rfl) (by decide)).nice fun⟨⟨k,l,()⟩,()⟩ h=>by
 have h:l.length≤140737488355328:=of_decide_eq_true h;have hc:cutL l none (some (min (l.length:Int) 14))=l.take 14:=by
  show l.take (min (l.length:Int) 14).toNat=l.take 14;by_cases hl:l.length≤14
  ·rw[Int.min_eq_left (by omega),List.take_of_length_le (by omega),List.take_of_length_le hl]
  ·rw[Int.min_eq_right (by omega)];rfl
 have hl:(l.take 14).length≤14:=by rw[List.length_take];omega
 show olent _=some (lentN (k,l,()),());rw[olent_g,elent_g,hc,gdT (by omega),gdT (by omega),gdT (by omega),xG,List.nil_append];exact lent_l (cut k 42) [] (l.take 14) [] heads0 (by simpa using hl) (by unfold heads0;omega)
end Go.Proofs.YtldllfocpadkeaaGreatDoor
namespace Nice
open Go Go.Eng
abbrev IT:Ty:=.int .i64
abbrev ResT:Ty:=.pair IT (.pair IT .unit)
abbrev MemoT:Ty:=.pair IT (.pair ResT .unit)
abbrev LowT:Ty:=.pair IT (.pair IT (.pair IT (.pair IT (.pair IT .unit))))
abbrev StT:Ty:=.pair IT (.pair (.slice EntT) (.pair (.slice MemoT) (.pair LowT .unit)))
abbrev MemoD:=Int×(Int×Int×Unit)×Unit
abbrev LowD:=Int×Int×Int×Int×Int×Unit
abbrev StD:=Int×List EntD×List MemoD×LowD×Unit
abbrev IO1:=Option (DenL [IT])
def homeN (n:Int):Int:=bif decide (n<4294967296) then 0 else bif decide (n≥25769803776) then 0 else bif n.tmod 4294967296==0 then 0 else n.tdiv 4294967296
theorem homeN_cases (n:Int):homeN n=0∨homeN n=1∨homeN n=2∨homeN n=3∨homeN n=4∨homeN n=5:=by
 unfold homeN;by_cases h1:n<4294967296
 ·rw[decide_eq_true h1];exact .inl rfl
 rw[decide_eq_false h1];by_cases h2:n≥25769803776
 ·rw[decide_eq_true h2];exact .inl rfl
 rw[decide_eq_false h2];cases n.tmod 4294967296==0
 ·right;have e:n.tdiv 4294967296=n/4294967296:=Int.tdiv_eq_ediv_of_nonneg (by omega);show n.tdiv 4294967296=1∨n.tdiv 4294967296=2∨n.tdiv 4294967296=3∨n.tdiv 4294967296=4∨n.tdiv 4294967296=5;rw[e];omega
 ·exact .inl rfl
noncomputable def homeS:PSpec:=⟨[IT],[IT],fun _=>true,fun x=>(homeN x.1,())⟩
def allFr (p:Nat→Bool):Nat→Nat→Bool
 |0,_=>true
 |r+1,i=>p i&&allFr p r (i+1)
theorem allFr_iff {p:Nat→Bool}:∀{r i:Nat},allFr p r i=true↔∀k,i≤k→k<i+r→p k=true
 |0,i=>⟨fun _ k h1 h2=>absurd h2 (by omega),fun _=>rfl⟩
 |r+1,i=>by
  show(p i&&allFr p r (i+1))=true↔_;rw[Bool.and_eq_true,allFr_iff];constructor
  ·rintro⟨h1,h2⟩ k k1 k2;by_cases e:k=i
   ·subst e;exact h1
   ·exact h2 k (by omega) (by omega)
  ·exact fun h=>⟨h i (Nat.le_refl _) (by omega),fun k k1 k2=>h k (by omega) (by omega)⟩
def entAt (l:List EntD) (i:Nat):EntD:=l.getD i (EntT).dflt
def lastV (e:EntD):VerD:=e.2.1.getD (e.2.1.length-1) (VerT).dflt
def bEnt (q:Int) (l:List EntD) (i:Nat):Bool:=entB (entAt l i)&&(decide ((lastV (entAt l i)).1≤q)&&(Nat.beq i 0||Op.bytesLess (entAt l (i-1)).1 (entAt l i).1))
def bLow (x k:Int):Bool:=x==0||homeN x==k
def bLows (L:LowD):Bool:=bLow L.1 1&&(bLow L.2.1 2&&(bLow L.2.2.1 3&&(bLow L.2.2.2.1 4&&bLow L.2.2.2.2.1 5)))
def lowAt (L:LowD) (h:Int):Int:=bif h==1 then L.1 else bif h==2 then L.2.1 else bif h==3 then L.2.2.1 else bif h==4 then L.2.2.2.1 else L.2.2.2.2.1
def memAt (m:List MemoD) (i:Nat):MemoD:=m.getD i (MemoT).dflt
def bRes (q:Int) (m:MemoD):Bool:=decide (0≤m.2.1.1)&&(decide (m.2.1.1≤13)&&(decide (0≤m.2.1.2.1)&&decide (m.2.1.2.1≤q)))
def bMem (q:Int) (L:LowD) (m:List MemoD) (i:Nat):Bool:= !(homeN (memAt m i).1==0)&&(decide (lowAt L (homeN (memAt m i).1)≤(memAt m i).1)&&((Nat.beq i 0||decide ((memAt m (i-1)).1<(memAt m i).1))&&bRes q (memAt m i)))
def bmayN (s:StD):Bool:=decide (0≤s.1)&&(decide (s.1≤1099511627776)&&(decide (s.2.1.length≤40)&&(decide (s.2.2.1.length≤100)&&(allFr (bEnt s.1 s.2.1) s.2.1.length 0&&(bLows s.2.2.2.1&&allFr (bMem s.1 s.2.2.2.1 s.2.2.1) s.2.2.1.length 0)))))
def bmayP (s:StD):Bool:=s.2.1.all entP
noncomputable def bmayS:PSpec:=⟨[StT],[.bool],fun x=>bmayP x.1,fun x=>(bmayN x.1,())⟩
theorem entB_len {e:EntD} (h:entB e=true):1≤e.2.1.length∧e.2.1.length≤12:=by
 unfold entB at h;simp only[Bool.and_eq_true,decide_eq_true_eq] at h;exact h.2.2
end Nice
namespace Nice
open Go Go.Eng
noncomputable def homeE (n:Int):IO1:=bif decide (n<4294967296) then some (0,()) else bif decide (n≥25769803776) then some (0,()) else bif n.tmod 4294967296==0 then some (0,()) else gd [decide (inK .i64 (n.tdiv 4294967296))] (some (n.tdiv 4294967296,()))
theorem homeE_n (n:Int):homeE n=some (homeN n,()):=by
 unfold homeE homeN;by_cases h1:n<4294967296
 ·rw[cdT h1,cdT h1]
 rw[cdF h1,cdF h1];by_cases h2:n≥25769803776
 ·rw[cdT h2,cdT h2]
 rw[cdF h2,cdF h2];cases n.tmod 4294967296==0
 ·rw[xF,xF];have e:n.tdiv 4294967296=n/4294967296:=Int.tdiv_eq_ediv_of_nonneg (by omega);rw[gdT (inK_i64.2 (by rw[e];omega)),xG]
 ·rw[xT,xT]
noncomputable abbrev gPx {α:Type} (l:List α) (i:Int):List Bool:=[decide ((i-1).toNat<l.length),decide (0≤i-1),decide (i-1<(l.length:Int)),decide (inK .i64 (i-1))]
noncomputable abbrev gZ (e:EntD):List Bool:=[decide (((e.2.1.length:Int)-1).toNat<e.2.1.length),decide (0≤(e.2.1.length:Int)-1),decide ((e.2.1.length:Int)-1<(e.2.1.length:Int)),decide (inK .i64 ((e.2.1.length:Int)-1)),entP (e.1,e.2.1,())]
noncomputable def bmE (q:Int) (l:List EntD) (i:Int) (e:EntD) (nx:BO):BO:=
 bif entB (e.1,e.2.1,()) then(bif decide ((e.2.1.getD ((e.2.1.length:Int)-1).toNat (VerT).dflt).1>q) then gd (gZ e) (bO false)
  else bif decide (i>0) then(bif !Op.bytesLess (l.getD (i-1).toNat (EntT).dflt).1 e.1 then gd (gPx l i++gZ e) (bO false) else gd (decide (inK .i64 (i+1))::(gPx l i++gZ e)) nx)
  else gd (decide (inK .i64 (i+1))::gZ e) nx)
 else gd [entP (e.1,e.2.1,())] (bO false)
noncomputable def bmStep (q:Int) (l l2:List EntD) (k i:Int) (nx ex:BO):BO:=
 bif decide (i<k) then gd [decide (i.toNat<l2.length),decide (0≤i),decide (i<(l2.length:Int))] (bmE q l i (l2.getD i.toNat (EntT).dflt) nx) else ex
def lowE (x k:Int) (nx:BO):BO:=bif x !=0 then(bif homeN x !=k then bO false else nx) else nx
def lowsE (L:LowD) (nx:BO):BO:=lowE L.1 1 (lowE L.2.1 2 (lowE L.2.2.1 3 (lowE L.2.2.2.1 4 (lowE L.2.2.2.2.1 5 nx))))
theorem lowE_n {x k:Int} {b:Bool} {nx:BO} (h:nx=bO b):lowE x k nx=bO (bLow x k&&b):=by
 unfold lowE bLow;by_cases h1:x=0
 ·rw[show(x !=0)=false from by rw[bne_eq_false_iff_eq];exact h1,show(x==0)=true from beq_iff_eq.2 h1,xF,h];rfl
 ·rw[show(x !=0)=true from bne_iff_ne.2 h1,show(x==0)=false from beq_eq_false_iff_ne.2 h1,xT,Bool.false_or];by_cases h2:homeN x=k
  ·rw[show(homeN x !=k)=false from by rw[bne_eq_false_iff_eq];exact h2,show(homeN x==k)=true from beq_iff_eq.2 h2,xF,h];rfl
  ·rw[show(homeN x !=k)=true from bne_iff_ne.2 h2,show(homeN x==k)=false from beq_eq_false_iff_ne.2 h2,xT];rfl
theorem lowsE_n {L:LowD} {b:Bool} {nx:BO} (h:nx=bO b):lowsE L nx=bO (bLows L&&b):=by
 unfold lowsE bLows;rw[lowE_n (lowE_n (lowE_n (lowE_n (lowE_n h))))];simp only[Bool.and_assoc]
noncomputable def selB (L:LowD) (k:Int) (f:Int→BO):BO:=bif k==0 then f L.1 else bif k==1 then f L.2.1 else bif k==2 then f L.2.2.1 else bif k==3 then f L.2.2.2.1 else bif k==4 then f L.2.2.2.2.1 else none
noncomputable def resE (q:Int) (m:MemoD) (i:Int) (nx:BO):BO:=
 bif decide (m.2.1.1<0) then bO false else bif decide (m.2.1.1>13) then bO false else bif decide (m.2.1.2.1<0) then bO false else bif decide (m.2.1.2.1>q) then bO false else gd [decide (inK .i64 (i+1))] nx
theorem resE_n {q:Int} {m:MemoD} {i:Int} {b:Bool} {nx:BO} (hi:inK .i64 (i+1)) (h:nx=bO b):resE q m i nx=bO (bRes q m&&b):=by
 unfold resE bRes;by_cases h1:m.2.1.1<0
 ·rw[cdT h1,decide_eq_false (show ¬0≤m.2.1.1 by omega)];rfl
 rw[cdF h1,decide_eq_true (show 0≤m.2.1.1 by omega)];by_cases h2:m.2.1.1>13
 ·rw[cdT h2,decide_eq_false (show ¬m.2.1.1≤13 by omega)];rfl
 rw[cdF h2,decide_eq_true (show m.2.1.1≤13 by omega)];by_cases h3:m.2.1.2.1<0
 ·rw[cdT h3,decide_eq_false (show ¬0≤m.2.1.2.1 by omega)];rfl
 rw[cdF h3,decide_eq_true (show 0≤m.2.1.2.1 by omega)];by_cases h4:m.2.1.2.1>q
 ·rw[cdT h4,decide_eq_false (show ¬m.2.1.2.1≤q by omega)];rfl
 rw[cdF h4,decide_eq_true (show m.2.1.2.1≤q by omega),gdT hi,xG,h];rfl
noncomputable def memE (q:Int) (L:LowD) (m:List MemoD) (i:Int) (x:MemoD) (nx:BO):BO:=
 bif homeN x.1==0 then bO false else selB L (homeN x.1-1) fun lo=>bif decide (x.1<lo) then gd [decide (inK .i64 (homeN x.1-1))] (bO false)
  else bif decide (i>0) then(bif decide ((m.getD (i-1).toNat (MemoT).dflt).1≥x.1) then gd (gPx m i++[decide (inK .i64 (homeN x.1-1))]) (bO false) else gd (gPx m i++[decide (inK .i64 (homeN x.1-1))]) (resE q x i nx))
  else gd [decide (inK .i64 (homeN x.1-1))] (resE q x i nx)
noncomputable def memStep (q:Int) (L:LowD) (m m2:List MemoD) (k i:Int) (nx:BO):BO:=
 bif decide (i<k) then gd [decide (i.toNat<m2.length),decide (0≤i),decide (i<(m2.length:Int))] (memE q L m i (m2.getD i.toNat (MemoT).dflt) nx) else bO true
theorem selB_n {L:LowD} {h:Int} (hh:h=1∨h=2∨h=3∨h=4∨h=5) (f:Int→BO):selB L (h-1) f=f (lowAt L h):=by
 rcases hh with rfl|rfl|rfl|rfl|rfl<;>rfl
theorem gPx_ok {α β:Type} {l:List α} {i:Nat} (h0:0<i) (h1:i<l.length) (h2:l.length≤1000) (y:Option β) (ps:List Bool):gd (gPx l (i:Int)++ps) y=gd ps y:=by
 unfold gPx;simp only[List.cons_append,List.nil_append];rw[gdT (by omega),gdT (by omega),gdT (by omega),gdT (inK_i64.2 ⟨by omega,by omega⟩)]
theorem bmE_n {q:Int} {l:List EntD} {i:Nat} {b:Bool} {nx:BO} (hl:l.length≤40) (hi:i<l.length) (hp:entP (entAt l i)=true) (h:nx=bO b):bmE q l (i:Int) (entAt l i) nx=bO (bEnt q l i&&b):=by
 have hk:inK .i64 ((i:Int)+1):=inK_i64.2 ⟨by omega,by omega⟩;have hp':entP ((entAt l i).1,(entAt l i).2.1,())=true:=hp;have he:entB ((entAt l i).1,(entAt l i).2.1,())=entB (entAt l i):=rfl;unfold bmE bEnt;rw[he];cases hb:entB (entAt l i)
 ·rw[xF,gdB hp',xG];rfl
 ·obtain⟨n1,n2⟩:=entB_len hb;have e1:(((entAt l i).2.1.length:Int)-1).toNat=(entAt l i).2.1.length-1:=by omega
  have hz:∀y:BO,gd (gZ (entAt l i)) y=y:=fun y=>by
   unfold gZ;rw[gdT (by omega),gdT (by omega),gdT (by omega),gdT (inK_i64.2 ⟨by omega,by omega⟩),gdB hp',xG]
  have hv:(entAt l i).2.1.getD (((entAt l i).2.1.length:Int)-1).toNat (VerT).dflt=lastV (entAt l i):=by rw[e1];rfl
  rw[xT,hv,Bool.true_and];by_cases h1:(lastV (entAt l i)).1>q
  ·rw[cdT h1,hz,decide_eq_false (show ¬(lastV (entAt l i)).1≤q by omega)];rfl
  rw[cdF h1,decide_eq_true (show(lastV (entAt l i)).1≤q by omega),Bool.true_and];by_cases h0:i=0
  ·subst h0;rw[cdF (by omega),gdT hk,hz,h];rfl
  ·have e2:((i:Int)-1).toNat=i-1:=by omega
   have e3:Nat.beq i 0=false:=by cases i with
    |zero=>exact absurd rfl h0
    |succ n=>rfl
   rw[cdT (by omega),e2,e3,Bool.false_or];show(bif !Op.bytesLess (entAt l (i-1)).1 (entAt l i).1 then _ else _)=_;cases Op.bytesLess (entAt l (i-1)).1 (entAt l i).1
   ·rw[show(!false)=true from rfl,xT,gPx_ok (by omega) hi (by omega),hz];rfl
   ·rw[show(!true)=false from rfl,xF,gdT hk,gPx_ok (by omega) hi (by omega),hz,h];rfl
theorem memE_n {q:Int} {L:LowD} {m:List MemoD} {i:Nat} {b:Bool} {nx:BO} (hl:m.length≤100) (hi:i<m.length) (h:nx=bO b):memE q L m (i:Int) (memAt m i) nx=bO (bMem q L m i&&b):=by
 have hk:inK .i64 ((i:Int)+1):=inK_i64.2 ⟨by omega,by omega⟩;unfold memE bMem;have hc:=homeN_cases (memAt m i).1;cases h0:homeN (memAt m i).1==0
 ·have h0':homeN (memAt m i).1≠0:=by simpa using h0
  have hh:inK .i64 (homeN (memAt m i).1-1):=inK_i64.2 ⟨by omega,by omega⟩;rw[xF,selB_n (by omega),show(!false)=true from rfl,Bool.true_and];by_cases h1:(memAt m i).1<lowAt L (homeN (memAt m i).1)
  ·rw[cdT h1,decide_eq_false (show ¬lowAt L (homeN (memAt m i).1)≤(memAt m i).1 by omega),gdT hh,xG];rfl
  rw[cdF h1,decide_eq_true (show lowAt L (homeN (memAt m i).1)≤(memAt m i).1 by omega),Bool.true_and];by_cases hi0:i=0
  ·subst hi0;rw[cdF (by omega),gdT hh,xG,resE_n hk h];rfl
  ·have e2:((i:Int)-1).toNat=i-1:=by omega
   have e3:Nat.beq i 0=false:=by cases i with
    |zero=>exact absurd rfl hi0
    |succ n=>rfl
   rw[cdT (by omega),e2,e3,Bool.false_or];show(bif decide ((memAt m (i-1)).1≥(memAt m i).1) then _ else _)=_;by_cases h2:(memAt m (i-1)).1≥(memAt m i).1
   ·rw[cdT h2,gPx_ok (by omega) hi (by omega),gdT hh,xG,decide_eq_false (show ¬(memAt m (i-1)).1<(memAt m i).1 by omega)];rfl
   ·rw[cdF h2,gPx_ok (by omega) hi (by omega),gdT hh,xG,resE_n hk h,decide_eq_true (show(memAt m (i-1)).1<(memAt m i).1 by omega),Bool.true_and]
 ·rw[xT];rfl
end Nice
namespace Go.Proofs.YtldllfocpadkeaaGreatDoor
open Go Go.Eng Nice
set_option maxRecDepth 1000000
noncomputable def ohome (x:DenL [IT]):IO1:=fO Tryz.prog (envS []) (shOf []) Tryz.f93 [IT] [IT] x
theorem ehome (n:Int):ohome (n,())=homeE n:=by kernel_rfl
theorem home_c:PC 93 homeS:=(pureO (envS_ok (l:=[]) trivial) gl_ne Tryz.func93 (by kernel_rfl) (by decide)).nice fun⟨n,()⟩ _=>by
 show ohome _=_;rw[ehome];exact homeE_n n
abbrev shbm:List (Nat×List (Nat×Sh)):=[(4,[(1,(.obj [.sym,(.dat EntT),(.dat MemoT),.sym,.sym,.sym,.sym,.sym])),(2,(.one .sym)),(31,(.one (.dat EntT))),(32,(.one .sym)),(33,(.one .sym))]),(16,[(1,(.obj [.sym,(.dat EntT),(.dat MemoT),.sym,.sym,.sym,.sym,.sym])),(2,(.one .sym)),(89,(.one (.dat MemoT))),(90,(.one .sym)),(91,(.one .sym))])]
noncomputable abbrev enBM:Eng.Env:=envS [(92,entS),(93,homeS)]
abbrev rowBM (q:Int) (L:LowD):AO:=.row [sy (.int .i64 q),dt 10,dt 11,sy (.int .i64 L.1),sy (.int .i64 L.2.1),sy (.int .i64 L.2.2.1),sy (.int .i64 L.2.2.2.1),sy (.int .i64 L.2.2.2.2.1)] 26 false
noncomputable def hbm0 (N:Nat) (q:Int) (l:List EntD) (m:List MemoD) (a b c d e:Int) (l2:List EntD) (k i:Int):BO:=rH Tryz.prog enBM (shOf shbm) Tryz.f52 [.bool] N 0 [(1,.pointer (some ⟨12,0,none⟩)),(2,.bool false),(31,dt 13),(32,sy (.int .i64 k)),(33,sy (.int .i64 i))] [.dat EntT l,.dat MemoT m,rowBM q (a,b,c,d,e,()),.dat EntT l2]
noncomputable def hbm2 (N:Nat) (q:Int) (l:List EntD) (m:List MemoD) (a b c d e:Int) (m2:List MemoD) (k i:Int):BO:=rH Tryz.prog enBM (shOf shbm) Tryz.f52 [.bool] N 2 [(1,.pointer (some ⟨12,0,none⟩)),(2,.bool false),(89,dt 13),(90,sy (.int .i64 k)),(91,sy (.int .i64 i))] [.dat EntT l,.dat MemoT m,rowBM q (a,b,c,d,e,()),.dat MemoT m2]
noncomputable def obm (x:DenL [StT]):BO:=fO Tryz.prog enBM (shOf shbm) Tryz.f52 [StT] [.bool] x
theorem obm_g (x:DenL [StT]):obm x=fON Tryz.prog enBM (shOf shbm) Tryz.f52 [StT] [.bool] heads0 x:=rfl
theorem ebm_g (N:Nat) (q:Int) (l:List EntD) (m:List MemoD) (a b c d e:Int):fON Tryz.prog enBM (shOf shbm) Tryz.f52 [StT] [.bool] N ((q,l,m,(a,b,c,d,e,()),()),())=
 (bif decide (q<0) then bO false else bif decide (q>1099511627776) then bO false else bif decide ((l.length:Int)>40) then bO false else bif decide ((m.length:Int)>100) then bO false else hbm0 N q l m a b c d e l (l.length:Int) 0):=by kernel_rfl
theorem ebm_0 (N:Nat) (q:Int) (l:List EntD) (m:List MemoD) (a b c d e:Int) (l2:List EntD) (k i:Int):hbm0 (N+1) q l m a b c d e l2 k i=bmStep q l l2 k i (hbm0 N q l m a b c d e l2 k (i+1)) (lowsE (a,b,c,d,e,()) (hbm2 N q l m a b c d e m (m.length:Int) 0)):=by kernel_rfl
theorem ebm_2 (N:Nat) (q:Int) (l:List EntD) (m:List MemoD) (a b c d e:Int) (m2:List MemoD) (k i:Int):hbm2 (N+1) q l m a b c d e m2 k i=memStep q (a,b,c,d,e,()) m m2 k i (hbm2 N q l m a b c d e m2 k (i+1)):=by kernel_rfl
theorem bm2_l (q:Int) (l:List EntD) (m:List MemoD) (a b c d e:Int) (hm:m.length≤100):∀(r i N:Nat),m.length=i+r→r<N→hbm2 N q l m a b c d e m (m.length:Int) (i:Int)=bO (allFr (bMem q (a,b,c,d,e,()) m) r i):=by
 intro r
 induction r with
 |zero=>
  intro i N hi hN;obtain⟨N,rfl⟩:∃k,N=k+1:=⟨N-1,by omega⟩
  rw[ebm_2];unfold memStep;rw[cdF (by omega)];rfl
 |succ r ih=>
  intro i N hi hN;obtain⟨N,rfl⟩:∃k,N=k+1:=⟨N-1,by omega⟩
  have this:=ih (i+1) N (by omega) (by omega);simp only[Int.natCast_add,Int.natCast_one] at this;rw[ebm_2];unfold memStep;rw[cdT (by omega),gdT (by omega),gdT (by omega),gdT (by omega),xG];exact memE_n hm (by omega) this
theorem bm0_l (q:Int) (l:List EntD) (m:List MemoD) (a b c d e:Int) (hl:l.length≤40) (hm:m.length≤100) (hp:∀x,x∈l→entP x=true):∀(r i N:Nat),l.length=i+r→r+101<N→hbm0 N q l m a b c d e l (l.length:Int) (i:Int)=bO (allFr (bEnt q l) r i&&(bLows (a,b,c,d,e,())&&allFr (bMem q (a,b,c,d,e,()) m) m.length 0)):=by
 intro r
 induction r with
 |zero=>
  intro i N hi hN;obtain⟨N,rfl⟩:∃k,N=k+1:=⟨N-1,by omega⟩
  have this:=bm2_l q l m a b c d e hm m.length 0 N (by omega) (by omega);rw[ebm_0];unfold bmStep;rw[cdF (by omega)];exact lowsE_n this
 |succ r ih=>
  intro i N hi hN;obtain⟨N,rfl⟩:∃k,N=k+1:=⟨N-1,by omega⟩
  have hlt:i<l.length:=by omega
  have this:=ih (i+1) N (by omega) (by omega);simp only[Int.natCast_add,Int.natCast_one] at this;have hpi:entP (entAt l i)=true:=hp _ (by
   show l.getD i _∈l;rw[List.getD_eq_getElem?_getD,List.getElem?_eq_getElem hlt];exact List.getElem_mem hlt)
  rw[ebm_0];unfold bmStep;rw[cdT (by omega),gdT (by omega),gdT (by omega),gdT (by omega),xG];refine(bmE_n hl hlt hpi this).trans ?_;show bO (_&&(_&&_))=bO ((_&&_)&&_);rw[Bool.and_assoc]
theorem bm_n (q:Int) (l:List EntD) (m:List MemoD) (a b c d e:Int) (h:l.all entP=true):obm ((q,l,m,(a,b,c,d,e,()),()),())=bO (bmayN (q,l,m,(a,b,c,d,e,()),())):=by
 have hp:=List.all_eq_true.1 h;show obm _=bO (decide (0≤q)&&(decide (q≤1099511627776)&&(decide (l.length≤40)&&(decide (m.length≤100)&&(allFr (bEnt q l) l.length 0&&(bLows (a,b,c,d,e,())&&allFr (bMem q (a,b,c,d,e,()) m) m.length 0))))));rw[obm_g,ebm_g];by_cases h1:q<0
 ·rw[cdT h1,decide_eq_false (show ¬0≤q by omega)];rfl
 rw[cdF h1,decide_eq_true (show 0≤q by omega)];by_cases h2:q>1099511627776
 ·rw[cdT h2,decide_eq_false (show ¬q≤1099511627776 by omega)];rfl
 rw[cdF h2,decide_eq_true (show q≤1099511627776 by omega)];by_cases h3:(l.length:Int)>40
 ·rw[cdT h3,decide_eq_false (show ¬l.length≤40 by omega)];rfl
 rw[cdF h3,decide_eq_true (show l.length≤40 by omega)];by_cases h4:(m.length:Int)>100
 ·rw[cdT h4,decide_eq_false (show ¬m.length≤100 by omega)];rfl
 rw[cdF h4,decide_eq_true (show m.length≤100 by omega)];exact bm0_l q l m a b c d e (by omega) (by omega) hp l.length 0 heads0 (by omega) (by unfold heads0;omega)
theorem bmay_c:PC 52 bmayS:=(pureO (sh:=shOf shbm) (envS_ok (l:=[(92,entS),(93,homeS)]) ⟨tmay_c,home_c,trivial⟩) gl_ne Tryz.func52 (by kernel_rfl) (by decide)).nice fun⟨⟨q,l,m,⟨a,b,c,d,e,()⟩,()⟩,()⟩ h=>bm_n q l m a b c d e h
end Go.Proofs.YtldllfocpadkeaaGreatDoor
namespace Nice
open Go Go.Eng
abbrev ShT:Ty:=.pair (.slice .str) (.pair (.slice EntT) (.pair .bool (.pair .str .unit)))
abbrev ShD:Type:=List (List UInt8)×List EntD×Bool×List UInt8×Unit
def entsP (l:List EntD):Bool:=decide (l.length≤1099511627776)&&l.all entP
def keysN (n:List (List UInt8)) (l:List EntD):List (List UInt8):=n++l.map (·.1)
def riseK:List UInt8→List (List UInt8)→Bool
 |_,[]=>true
 |last,k::r=>isKey k&&(Op.bytesLess last k&&riseK k r)
def lastK (t:List UInt8):List (List UInt8)→List UInt8
 |[]=>t
 |k::r=>lastK k r
def smayN (s:ShD):Bool:= !(decide (0<s.1.length)&&decide (0<s.2.1.length))&&(riseK [] (keysN s.1 s.2.1)&&(s.2.1.all entB&&(decide ((keysN s.1 s.2.1).length≤20)&&(bif s.2.2.1 then decide (0<(keysN s.1 s.2.1).length)&&s.2.2.2.1==lastK [] (keysN s.1 s.2.1) else s.2.2.2.1==[]))))
def smayP (s:ShD):Bool:=decide (s.1.length≤1099511627776)&&(s.1.all bndS&&entsP s.2.1)
noncomputable def smayS:PSpec:=⟨[ShT],[.bool],fun x=>smayP x.1,fun x=>(smayN x.1,())⟩
theorem less_tot:∀(a b:List UInt8),Op.bytesLess a b= !(Op.bytesLess b a||b==a)
 |[],[]=>by simp[Op.bytesLess]
 |[],_::_=>by simp[Op.bytesLess]
 |_::_,[]=>by simp[Op.bytesLess]
 |x::a,y::b=>by
  have ih:=less_tot a b;simp only[Op.bytesLess];rcases Nat.lt_trichotomy x.toNat y.toNat with h|h|h
  ·have h1:x<y:=UInt8.lt_iff_toNat_lt.2 h;have h2:¬y<x:=fun h=>by have:=UInt8.lt_iff_toNat_lt.1 h;omega
   have h3:(y==x)=false:=by
    rw[beq_eq_false_iff_ne];rintro rfl;exact absurd h (Nat.lt_irrefl _)
   simp[h1,h2,h3,List.cons_beq_cons]
  ·have h1:x=y:=UInt8.toNat_inj.1 h;subst h1;simp[ih,List.cons_beq_cons]
  ·have h1:y<x:=UInt8.lt_iff_toNat_lt.2 h;have h2:¬x<y:=fun h=>by have:=UInt8.lt_iff_toNat_lt.1 h;omega
   have h3:x≠y:=by rintro rfl;exact absurd h (Nat.lt_irrefl _)
   simp[h1,h2,h3]
theorem isKey_bnd {k:List UInt8} (h:isKey k=true):k.length≤40:=by
 unfold isKey at h;rw[Bool.and_eq_true,Bool.and_eq_true,decide_eq_true_eq,decide_eq_true_eq] at h;exact h.2.2
theorem entB_key {e:EntD} (h:entB e=true):isKey e.1=true:=by
 unfold entB at h;rw[Bool.and_eq_true,Bool.and_eq_true] at h;exact h.2.1
end Nice
namespace Nice
open Go Go.Eng
noncomputable abbrev gI {α:Type} (l:List α) (i:Int):List Bool:=[decide (i.toNat<l.length),decide (0≤i),decide (i<(l.length:Int))]
end Nice
namespace Nice
open Go Go.Eng
def nowN (e:EntD):VerD×Bool:=bif e.2.1.length==0 then((0,false,[],()),false) else(lastV e, !(lastV e).2.1)
noncomputable def nowS:PSpec:=⟨[EntT],[VerT,.bool],fun x=>decide (x.1.2.1.length≤140737488355328),fun x=>((nowN x.1).1,(nowN x.1).2,())⟩
def fitB (b:Bool) (e:EntD):Bool:= !b||(nowN e).2
noncomputable def fitS (b:Bool):PSpec:=⟨[EntT],[.bool],fun x=>decide (x.1.2.1.length≤140737488355328),fun x=>(fitB b x.1,())⟩
noncomputable def cloneVS:PSpec:=⟨[.slice VerT],[.slice VerT],fun x=>decide (0<x.1.length)&&decide (x.1.length≤1000000),fun x=>(x.1,())⟩
def selP (p f:List UInt8) (b:Bool) (e:EntD):Bool:=hasPre e.1 p&&(!(Op.bytesLess e.1 f||e.1==f)&&fitB b e)
def mostN (k:Int):Int:=min (max k 1) 20
def selL (s:StD) (p f:List UInt8) (b:Bool):List EntD:=s.2.1.filter (selP p f b)
def pageL (s:StD) (p f:List UInt8) (k:Int) (b:Bool):List EntD:=(selL s p f b).take (mostN k).toNat
def pageM (s:StD) (p f:List UInt8) (k:Int) (b:Bool):Bool:=decide (mostN k<((selL s p f b).length:Int))
def pageP (s:StD):Bool:=decide (s.2.1.length≤40)&&s.2.1.all fun e=>decide (1≤e.2.1.length)&&decide (e.2.1.length≤12)
noncomputable def pageS (n:Nat) (b:Bool):PSpec:=⟨[StT,.str,.str,IT,.fn n],[.slice EntT,.bool],fun x=>pageP x.1,fun x=>(pageL x.1 x.2.1 x.2.2.1 x.2.2.2.1 b,pageM x.1 x.2.1 x.2.2.1 x.2.2.2.1 b,())⟩
def namesL (s:StD) (p f:List UInt8) (k:Int) (b:Bool):List (List UInt8):=(pageL s p f k b).map (·.1)
noncomputable def namesS:PSpec:=⟨[StT,.str,.str,IT],[.slice .str,.bool],fun x=>pageP x.1,fun x=>(namesL x.1 x.2.1 x.2.2.1 x.2.2.2.1 true,pageM x.1 x.2.1 x.2.2.1 x.2.2.2.1 true,())⟩
noncomputable def versS:PSpec:=⟨[StT,.str,.str,IT],[.slice EntT,.bool],fun x=>pageP x.1,fun x=>(pageL x.1 x.2.1 x.2.2.1 x.2.2.2.1 false,pageM x.1 x.2.1 x.2.2.1 x.2.2.2.1 false,())⟩
theorem bmay_page {s:StD} (h:bmayN s=true):pageP s=true:=by
 unfold bmayN at h;simp only[Bool.and_eq_true,decide_eq_true_eq] at h;obtain⟨-, -,h3, -,h5, -⟩:=h;unfold pageP;rw[Bool.and_eq_true,decide_eq_true_eq];refine⟨h3,List.all_eq_true.2 fun e he=> ?_⟩;obtain⟨i,hi,rfl⟩:=List.getElem_of_mem he;have:=allFr_iff.1 h5 i (Nat.zero_le _) (by omega);unfold bEnt at this
 rw[Bool.and_eq_true] at this;have e1:entAt s.2.1 i=s.2.1[i]:=by
  unfold entAt;rw[List.getD_eq_getElem?_getD,List.getElem?_eq_getElem hi];rfl
 have:=entB_len (e1▸this.1);rw[Bool.and_eq_true,decide_eq_true_eq,decide_eq_true_eq];exact this
abbrev PO:=Option (DenL [.slice EntT,.bool])
abbrev KO:=Option (DenL [.slice .str,.bool])
noncomputable def nowE (k:List UInt8) (l:List VerD):Option (DenL [VerT,.bool]):=
 bif (l.length:Int)==0 then some ((0,false,[],()),false,()) else gd [decide (((l.length:Int)-1).toNat<l.length),decide (0≤(l.length:Int)-1),decide ((l.length:Int)-1<(l.length:Int)),decide (inK .i64 ((l.length:Int)-1))]
  (bif (l.getD ((l.length:Int)-1).toNat (VerT).dflt).2.1 then some (l.getD ((l.length:Int)-1).toNat (VerT).dflt,false,()) else some (l.getD ((l.length:Int)-1).toNat (VerT).dflt,true,()))
theorem nowE_n {k:List UInt8} {l:List VerD} (h:l.length≤140737488355328):nowE k l=some ((nowN (k,l,())).1,(nowN (k,l,())).2,()):=by
 unfold nowE nowN;dsimp only;cases l with
 |nil=>rfl
 |cons v r=>
  have h1:(((v::r).length:Int)==0)=false:=by rw[beq_eq_false_iff_ne];simp only[List.length_cons];omega
  have h2:((v::r).length==0)=false:=rfl;have e1:(((v::r).length:Int)-1).toNat=(v::r).length-1:=by omega
  have hl:0<(v::r).length:=by simp
  rw[h1,h2,xF,xF,e1,gdT (by omega),gdT (by omega),gdT (by omega),gdT (inK_i64.2 ⟨by omega,by omega⟩),xG];show(bif (lastV (k,v::r,())).2.1 then some (lastV (k,v::r,()),false,()) else some (lastV (k,v::r,()),true,()))=_;cases h3:(lastV (k,v::r,())).2.1
  ·simp only[h3];rfl
  ·simp only[h3];rfl
noncomputable def pgStep (b:Bool) (p f:List UInt8) (k:Int) (l o:List EntD) (m i:Int) (nx:List EntD→PO):PO:=
 bif decide (i<m) then gd [decide (i.toNat<l.length),decide (0≤i),decide (i<(l.length:Int))]
  (bif hasPre (l.getD i.toNat (EntT).dflt).1 p then(bif !(Op.bytesLess (l.getD i.toNat (EntT).dflt).1 f||(l.getD i.toNat (EntT).dflt).1==f) then
   (bif fitB b ((l.getD i.toNat (EntT).dflt).1,(l.getD i.toNat (EntT).dflt).2.1,()) then
     gd [decide (inK .i64 (i+1)),decide ((2*(o.length+[((l.getD i.toNat (EntT).dflt).1,(l.getD i.toNat (EntT).dflt).2.1,())].length)+400)*40≤281474976710656),decide (0<(l.getD i.toNat (EntT).dflt).2.1.length)&&decide ((l.getD i.toNat (EntT).dflt).2.1.length≤1000000),decide ((l.getD i.toNat (EntT).dflt).2.1.length≤140737488355328)] (nx (o++[((l.getD i.toNat (EntT).dflt).1,(l.getD i.toNat (EntT).dflt).2.1,())]))
    else gd [decide (inK .i64 (i+1)),decide ((l.getD i.toNat (EntT).dflt).2.1.length≤140737488355328)] (nx o))
   else gd [decide (inK .i64 (i+1))] (nx o)) else gd [decide (inK .i64 (i+1))] (nx o))
 else bif decide ((o.length:Int)>k) then gd [decide (0≤min (o.length:Int) k),decide (min (o.length:Int) k≤(o.length:Int))] (some (List.take (min (o.length:Int) k).toNat o,true,()))
  else gd [decide (0≤min (o.length:Int) k),decide (min (o.length:Int) k≤(o.length:Int))] (some (List.take (min (o.length:Int) k).toNat o,false,()))
theorem pg_l {b:Bool} {p f:List UInt8} {k:Int} {l:List EntD} {h:Nat→List EntD→Int→PO} (he:∀N o i,h (N+1) o i=pgStep b p f k l o (l.length:Int) i (fun o'=>h N o' (i+1))) (hk:0≤k) (hl:l.length≤40) (hv:∀e,e∈l→1≤e.2.1.length∧e.2.1.length≤12):
  ∀(r i N:Nat) (o:List EntD),l.length=i+r→r<N→o.length≤i→h N o (i:Int)=some ((o++(l.drop i).filter (selP p f b)).take k.toNat,decide (k<((o++(l.drop i).filter (selP p f b)).length:Int)),()):=by
 intro r
 induction r with
 |zero=>
  intro i N o hi hN ho;obtain⟨N,rfl⟩:∃k,N=k+1:=⟨N-1,by omega⟩
  rw[he];unfold pgStep;rw[cdF (by omega),List.drop_eq_nil_of_le (by omega),List.filter_nil,List.append_nil];have et:∀n:Nat,n=(min (o.length:Int) k).toNat→List.take n o=o.take k.toNat:=fun n hn=>by
   by_cases hlt:o.length≤k.toNat
   ·rw[List.take_of_length_le hlt,List.take_of_length_le (by omega)]
   ·rw[hn,show(min (o.length:Int) k).toNat=k.toNat by omega]
  by_cases h1:(o.length:Int)>k
  ·rw[cdT h1,gdT (by omega),gdT (by omega),xG,et _ rfl,decide_eq_true (show k<(o.length:Int) by omega)]
  ·rw[cdF h1,gdT (by omega),gdT (by omega),xG,et _ rfl,decide_eq_false (show ¬k<(o.length:Int) by omega)]
 |succ r ih=>
  intro i N o hi hN ho;obtain⟨N,rfl⟩:∃k,N=k+1:=⟨N-1,by omega⟩
  have hlt:i<l.length:=by omega
  have hk1:inK .i64 ((i:Int)+1):=inK_i64.2 ⟨by omega,by omega⟩;have hd:l.drop i=entAt l i::l.drop (i+1):=by
   rw[List.drop_eq_getElem_cons hlt];congr 1;unfold entAt;rw[List.getD_eq_getElem?_getD,List.getElem?_eq_getElem hlt];rfl
  obtain⟨v1,v2⟩:=hv (entAt l i) (by
   show l.getD i _∈l;rw[List.getD_eq_getElem?_getD,List.getElem?_eq_getElem hlt];exact List.getElem_mem hlt)
  have hno:∀o':List EntD,o'.length≤i+1→h N o' ((i:Int)+1)=some ((o'++(l.drop (i+1)).filter (selP p f b)).take k.toNat,decide (k<((o'++(l.drop (i+1)).filter (selP p f b)).length:Int)),()):=fun o' h'=>by
   have:=ih (i+1) N o' (by omega) (by omega) h';simpa only[Int.natCast_add,Int.natCast_one] using this
  have skip:selP p f b (entAt l i)=false→h N o ((i:Int)+1)=some ((o++(l.drop i).filter (selP p f b)).take k.toNat,decide (k<((o++(l.drop i).filter (selP p f b)).length:Int)),()):=fun hs=>by
   rw[hd,List.filter_cons_of_neg (by rw[hs];exact Bool.false_ne_true)];exact hno o (by omega)
  have take:selP p f b (entAt l i)=true→h N (o++[entAt l i]) ((i:Int)+1)=some ((o++(l.drop i).filter (selP p f b)).take k.toNat,decide (k<((o++(l.drop i).filter (selP p f b)).length:Int)),()):=fun hs=>by
   have:=hno (o++[entAt l i]) (by rw[List.length_append,List.length_singleton];omega);rw[hd,List.filter_cons_of_pos hs];simpa only[List.append_assoc,List.singleton_append] using this
  rw[he];unfold pgStep;rw[cdT (by omega),gdT (by omega),gdT (by omega),gdT (by omega),xG];show(bif hasPre (entAt l i).1 p then(bif !(Op.bytesLess (entAt l i).1 f||(entAt l i).1==f) then(bif fitB b (entAt l i) then gd [decide (inK .i64 ((i:Int)+1)),decide ((2*(o.length+[entAt l i].length)+400)*40≤281474976710656),decide (0<(entAt l i).2.1.length)&&decide ((entAt l i).2.1.length≤1000000),decide ((entAt l i).2.1.length≤140737488355328)] (h N (o++[entAt l i]) ((i:Int)+1)) else gd [decide (inK .i64 ((i:Int)+1)),decide ((entAt l i).2.1.length≤140737488355328)] (h N o ((i:Int)+1))) else gd [decide (inK .i64 ((i:Int)+1))] (h N o ((i:Int)+1))) else gd [decide (inK .i64 ((i:Int)+1))] (h N o ((i:Int)+1)))=_
  cases q1:hasPre (entAt l i).1 p
  ·rw[xF,gdT hk1,xG];exact skip (by unfold selP;rw[q1];rfl)
  cases q2: !(Op.bytesLess (entAt l i).1 f||(entAt l i).1==f)
  ·rw[xT,xF,gdT hk1,xG];exact skip (by unfold selP;rw[q1,q2];rfl)
  cases q3:fitB b (entAt l i)
  ·rw[xT,xT,xF,gdT hk1,gdT (by omega),xG];exact skip (by unfold selP;rw[q1,q2,q3];rfl)
  rw[xT,xT,xT,gdT hk1,gdT (by simp only[List.length_singleton];omega),gdB (by rw[decide_eq_true (show 0<(entAt l i).2.1.length by omega),decide_eq_true (show(entAt l i).2.1.length≤1000000 by omega)];rfl),gdT (by omega),xG];exact take (by unfold selP;rw[q1,q2,q3];rfl)
noncomputable def nmStep (g:Bool) (l:List EntD) (o:List (List UInt8)) (m i:Int) (nx:List (List UInt8)→KO):KO:=
 bif decide (i<m) then gd [decide (inK .i64 (i+1)),decide ((2*(o.length+[(l.getD i.toNat (EntT).dflt).1].length)+400)*16≤281474976710656),decide (i.toNat<l.length),decide (0≤i),decide (i<(l.length:Int))] (nx (o++[(l.getD i.toNat (EntT).dflt).1])) else some (o,g,())
theorem nm_l {g:Bool} {l:List EntD} {h:Nat→List (List UInt8)→Int→KO} (he:∀N o i,h (N+1) o i=nmStep g l o (l.length:Int) i (fun o'=>h N o' (i+1))) (hl:l.length≤1000):
  ∀(r i N:Nat) (o:List (List UInt8)),l.length=i+r→r<N→o.length≤i→h N o (i:Int)=some (o++(l.drop i).map (·.1),g,()):=by
 intro r
 induction r with
 |zero=>
  intro i N o hi hN ho;obtain⟨N,rfl⟩:∃k,N=k+1:=⟨N-1,by omega⟩
  rw[he];unfold nmStep;rw[cdF (by omega),List.drop_eq_nil_of_le (by omega),List.map_nil,List.append_nil]
 |succ r ih=>
  intro i N o hi hN ho;obtain⟨N,rfl⟩:∃k,N=k+1:=⟨N-1,by omega⟩
  have hlt:i<l.length:=by omega
  have hd:l.drop i=entAt l i::l.drop (i+1):=by
   rw[List.drop_eq_getElem_cons hlt];congr 1;unfold entAt;rw[List.getD_eq_getElem?_getD,List.getElem?_eq_getElem hlt];rfl
  have:=ih (i+1) N (o++[(entAt l i).1]) (by omega) (by omega) (by rw[List.length_append,List.length_singleton];omega);simp only[Int.natCast_add,Int.natCast_one] at this;rw[he];unfold nmStep;rw[cdT (by omega),gdT (inK_i64.2 ⟨by omega,by omega⟩),gdT (by simp only[List.length_singleton];omega),gdT (by omega),gdT (by omega),gdT (by omega),xG,hd,List.map_cons]
  refine this.trans ?_;rw[List.append_assoc,List.singleton_append]
theorem most_nn (k:Int):0≤mostN k:=by unfold mostN;omega
theorem pageP_h {s:StD} (h:pageP s=true):s.2.1.length≤40∧∀e,e∈s.2.1→1≤e.2.1.length∧e.2.1.length≤12:=by
 unfold pageP at h;rw[Bool.and_eq_true,decide_eq_true_eq,List.all_eq_true] at h;exact⟨h.1,fun e he=>by have:=h.2 e he;rwa[Bool.and_eq_true,decide_eq_true_eq,decide_eq_true_eq] at this⟩
theorem page_len {s:StD} {p f:List UInt8} {k:Int} {b:Bool}:(pageL s p f k b).length≤20:=by
 unfold pageL mostN;rw[List.length_take];omega
end Nice
namespace Go.Proofs.YtldllfocpadkeaaGreatDoor
open Go Go.Eng Nice
set_option maxRecDepth 1000000
noncomputable def onow (x:DenL [EntT]):Option (DenL [VerT,.bool]):=fO Tryz.prog (envS []) (shOf []) Tryz.f96 [EntT] [VerT,.bool] x
theorem enow (k:List UInt8) (l:List VerD):onow ((k,l,()),())=nowE k l:=by kernel_rfl
theorem now_c:PC 96 nowS:=(pureO (envS_ok (l:=[]) trivial) gl_ne Tryz.func96 (by kernel_rfl) (by decide)).nice fun⟨⟨k,l,()⟩,()⟩ h=>by
 show onow _=_;rw[enow];exact nowE_n (of_decide_eq_true h)
noncomputable def onowB (x:DenL [EntT]):BO:=fO Tryz.prog (envS [(96,nowS)]) (shOf []) Tryz.f95 [EntT] [.bool] x
theorem enowB (k:List UInt8) (l:List VerD):onowB ((k,l,()),())=(bif (nowN (k,l,())).2 then gd [decide (l.length≤140737488355328)] (bO true) else gd [decide (l.length≤140737488355328)] (bO false)):=by kernel_rfl
theorem fitT_c:PC 95 (fitS true):=(pureO (envS_ok (l:=[(96,nowS)]) ⟨now_c,trivial⟩) gl_ne Tryz.func95 (by kernel_rfl) (by decide)).nice fun⟨⟨k,l,()⟩,()⟩ h=>by
 have h:l.length≤140737488355328:=of_decide_eq_true h;show onowB _=some ((nowN (k,l,())).2,());rw[enowB];cases(nowN (k,l,())).2
 ·rw[xF,gdT h,xG];rfl
 ·rw[xT,gdT h,xG];rfl
noncomputable def oallB (x:DenL [EntT]):BO:=fO Tryz.prog (envS []) (shOf []) Tryz.f97 [EntT] [.bool] x
theorem eallB (k:List UInt8) (l:List VerD):oallB ((k,l,()),())=bO true:=by kernel_rfl
theorem fitF_c:PC 97 (fitS false):=(pureO (envS_ok (l:=[]) trivial) gl_ne Tryz.func97 (by kernel_rfl) (by decide)).nice fun⟨⟨k,l,()⟩,()⟩ h=>by
 show oallB _=some (true,());rw[eallB];rfl
noncomputable def ocloneV (x:DenL [.slice VerT]):Option (DenL [.slice VerT]):=fO Tryz.prog (envS []) (shOf []) Tryz.f143 [.slice VerT] [.slice VerT] x
theorem ecloneV (l:List VerD):ocloneV (l,())=gd [decide ((2*(0+l.length)+400)*32≤281474976710656),decide (0<l.length)] (some (l,())):=by kernel_rfl
theorem cloneV_c:PC 143 cloneVS:=(pureO (envS_ok (l:=[]) trivial) gl_ne Tryz.func143 (by kernel_rfl) (by decide)).nice fun⟨l,()⟩ h=>by
 have h:(decide (0<List.length (α:=VerD) l)&&decide (List.length (α:=VerD) l≤1000000))=true:=h;rw[Bool.and_eq_true,decide_eq_true_eq,decide_eq_true_eq] at h;show ocloneV _=_;rw[ecloneV,gdT (by omega),gdT h.1,xG]
noncomputable def ohp8 (x:DenL [.str,.str]):BO:=fO Tryz.prog (envS [(131,hasPreS)]) (shOf []) Tryz.f88 [.str,.str] [.bool] x
theorem ehp8 (s p:List UInt8):ohp8 (s,p,())=(bif hasPre s p then bO true else bO false):=by kernel_rfl
theorem hp8_c:PC 88 hasPreS:=(pureO (envS_ok (l:=[(131,hasPreS)]) ⟨hp_c,trivial⟩) gl_ne Tryz.func88 (by kernel_rfl) (by decide)).nice fun⟨s,p,()⟩ _=>by
 show ohp8 _=some (hasPre s p,());rw[ehp8];cases hasPre s p<;>rfl
abbrev shpg:List (Nat×List (Nat×Sh)):=[(4,[(1,(.one .sym)),(2,(.one .sym)),(3,(.one .sym)),(4,(.one .any)),(10,(.one .any)),(11,(.one .sym)),(12,(.one (.vec EntT 44))),(19,(.one (.dat EntT))),(20,(.one .sym)),(21,(.one .sym))])]
noncomputable abbrev enPG (n:Nat) (b:Bool):Eng.Env:=envS [(88,hasPreS),(143,cloneVS),(n,fitS b)]
noncomputable def hpg (n:Nat) (b:Bool) (N:Nat) (p f:List UInt8) (k:Int) (o l:List EntD) (m i:Int):PO:=rH Tryz.prog (enPG n b) (shOf shpg) Tryz.f94 [.slice EntT,.bool] N 0 [(1,sy (.string (bs p))),(2,sy (.string (bs f))),(3,sy (.int .i64 k)),(4,Value.func (Fn.func n) { toList:=[]} { toList:=[]}),(10,Value.slice none 0 0),(11,.bool false),(12,dt 10),(19,dt 11),(20,sy (.int .i64 m)),(21,sy (.int .i64 i))] [.vec EntT o 44,.dat EntT l]
noncomputable def opg (n:Nat) (b:Bool) (x:DenL [StT,.str,.str,IT,.fn n]):PO:=fO Tryz.prog (enPG n b) (shOf shpg) Tryz.f94 [StT,.str,.str,IT,.fn n] [.slice EntT,.bool] x
theorem opg_g (n:Nat) (b:Bool) (x:DenL [StT,.str,.str,IT,.fn n]):opg n b x=fON Tryz.prog (enPG n b) (shOf shpg) Tryz.f94 [StT,.str,.str,IT,.fn n] [.slice EntT,.bool] heads0 x:=rfl
theorem epgT_g (N:Nat) (q:Int) (l:List EntD) (m:List MemoD) (a b c d e:Int) (p f:List UInt8) (k:Int):fON Tryz.prog (enPG 95 true) (shOf shpg) Tryz.f94 [StT,.str,.str,IT,.fn 95] [.slice EntT,.bool] N ((q,l,m,(a,b,c,d,e,()),()),p,f,k,(),())=hpg 95 true N p f (mostN k) [] l (l.length:Int) 0:=by kernel_rfl
theorem epgF_g (N:Nat) (q:Int) (l:List EntD) (m:List MemoD) (a b c d e:Int) (p f:List UInt8) (k:Int):fON Tryz.prog (enPG 97 false) (shOf shpg) Tryz.f94 [StT,.str,.str,IT,.fn 97] [.slice EntT,.bool] N ((q,l,m,(a,b,c,d,e,()),()),p,f,k,(),())=hpg 97 false N p f (mostN k) [] l (l.length:Int) 0:=by kernel_rfl
theorem epgT_0 (N:Nat) (p f:List UInt8) (k:Int) (o l:List EntD) (m i:Int):hpg 95 true (N+1) p f k o l m i=pgStep true p f k l o m i (fun o'=>hpg 95 true N p f k o' l m (i+1)):=by kernel_rfl
theorem epgF_0 (N:Nat) (p f:List UInt8) (k:Int) (o l:List EntD) (m i:Int):hpg 97 false (N+1) p f k o l m i=pgStep false p f k l o m i (fun o'=>hpg 97 false N p f k o' l m (i+1)):=by kernel_rfl
theorem pgT_n {s:StD} (h:pageP s=true) (p f:List UInt8) (k:Int):opg 95 true (s,p,f,k,(),())=some (pageL s p f k true,pageM s p f k true,()):=by
 obtain⟨q,l,m,⟨a,b,c,d,e,⟨⟩⟩,⟨⟩⟩:=s;obtain⟨h1,h2⟩:=pageP_h h;rw[opg_g,epgT_g];have:=pg_l (b:=true) (p:=p) (f:=f) (k:=mostN k) (l:=l) (h:=fun N o i=>hpg 95 true N p f (mostN k) o l (l.length:Int) i) (fun N o i=>epgT_0 N p f (mostN k) o l _ i) (most_nn k) h1 h2 l.length 0 heads0 [] (by omega) (Nat.lt_of_le_of_lt h1 (by unfold heads0;omega)) (Nat.le_refl _)
 exact this
theorem pgF_n {s:StD} (h:pageP s=true) (p f:List UInt8) (k:Int):opg 97 false (s,p,f,k,(),())=some (pageL s p f k false,pageM s p f k false,()):=by
 obtain⟨q,l,m,⟨a,b,c,d,e,⟨⟩⟩,⟨⟩⟩:=s;obtain⟨h1,h2⟩:=pageP_h h;rw[opg_g,epgF_g];have:=pg_l (b:=false) (p:=p) (f:=f) (k:=mostN k) (l:=l) (h:=fun N o i=>hpg 97 false N p f (mostN k) o l (l.length:Int) i) (fun N o i=>epgF_0 N p f (mostN k) o l _ i) (most_nn k) h1 h2 l.length 0 heads0 [] (by omega) (Nat.lt_of_le_of_lt h1 (by unfold heads0;omega)) (Nat.le_refl _)
 exact this
theorem pgT_c:PC 94 (pageS 95 true):=(pureO (sh:=shOf shpg) (envS_ok (l:=[(88,hasPreS),(143,cloneVS),(95,fitS true)]) ⟨hp8_c,cloneV_c,fitT_c,trivial⟩) gl_ne Tryz.func94 (by kernel_rfl) (by decide)).nice fun⟨s,p,f,k,(),()⟩ h=>pgT_n h p f k
theorem pgF_c:PC 94 (pageS 97 false):=(pureO (sh:=shOf shpg) (envS_ok (l:=[(88,hasPreS),(143,cloneVS),(97,fitS false)]) ⟨hp8_c,cloneV_c,fitF_c,trivial⟩) gl_ne Tryz.func94 (by kernel_rfl) (by decide)).nice fun⟨s,p,f,k,(),()⟩ h=>pgF_n h p f k
abbrev shnm:List (Nat×List (Nat×Sh)):=[(4,[(8,(.one .any)),(9,(.one .sym)),(11,(.one .sym)),(12,(.one (.vec .str 9))),(23,(.one (.dat EntT))),(24,(.one .sym)),(25,(.one .sym))])]
noncomputable abbrev enNM:Eng.Env:=envS [(94,pageS 95 true)]
noncomputable def hnm (N:Nat) (g:Bool) (o:List (List UInt8)) (l:List EntD) (m i:Int):KO:=rH Tryz.prog enNM (shOf shnm) Tryz.f53 [.slice .str,.bool] N 0 [(8,Value.slice none 0 0),(9,.bool false),(11,.bool g),(12,dt 10),(23,dt 11),(24,sy (.int .i64 m)),(25,sy (.int .i64 i))] [.vec .str o 9,.dat EntT l]
noncomputable def onm (x:DenL [StT,.str,.str,IT]):KO:=fO Tryz.prog enNM (shOf shnm) Tryz.f53 [StT,.str,.str,IT] [.slice .str,.bool] x
theorem onm_g (x:DenL [StT,.str,.str,IT]):onm x=fON Tryz.prog enNM (shOf shnm) Tryz.f53 [StT,.str,.str,IT] [.slice .str,.bool] heads0 x:=rfl
noncomputable def nmB (N:Nat) (s:StD) (p f:List UInt8) (k:Int):KO:=bif pageM s p f k true then gd [pageP s] (hnm N true [] (pageL s p f k true) ((pageL s p f k true).length:Int) 0) else gd [pageP s] (hnm N false [] (pageL s p f k true) ((pageL s p f k true).length:Int) 0)
theorem enm_g (N:Nat) (q:Int) (l:List EntD) (m:List MemoD) (a b c d e:Int) (p f:List UInt8) (k:Int):fON Tryz.prog enNM (shOf shnm) Tryz.f53 [StT,.str,.str,IT] [.slice .str,.bool] N ((q,l,m,(a,b,c,d,e,()),()),p,f,k,())=nmB N (q,l,m,(a,b,c,d,e,()),()) p f k:=by kernel_rfl
theorem enmT_0 (N:Nat) (o:List (List UInt8)) (l:List EntD) (m i:Int):hnm (N+1) true o l m i=nmStep true l o m i (fun o'=>hnm N true o' l m (i+1)):=by kernel_rfl
theorem enmF_0 (N:Nat) (o:List (List UInt8)) (l:List EntD) (m i:Int):hnm (N+1) false o l m i=nmStep false l o m i (fun o'=>hnm N false o' l m (i+1)):=by kernel_rfl
theorem nm_n {s:StD} (h:pageP s=true) (p f:List UInt8) (k:Int):onm (s,p,f,k,())=some (namesL s p f k true,pageM s p f k true,()):=by
 obtain⟨q,l,m,⟨a,b,c,d,e,⟨⟩⟩,⟨⟩⟩:=s;rw[onm_g,enm_g];unfold nmB;have hl:=page_len (s:=(q,l,m,(a,b,c,d,e,()),())) (p:=p) (f:=f) (k:=k) (b:=true);have hh:(pageL (q,l,m,(a,b,c,d,e,()),()) p f k true).length<heads0:=Nat.lt_of_le_of_lt hl (by unfold heads0;omega);cases pageM (q,l,m,(a,b,c,d,e,()),()) p f k true
 ·rw[xF,gdB h,xG];exact nm_l (h:=fun N o i=>hnm N false o (pageL (q,l,m,(a,b,c,d,e,()),()) p f k true) _ i) (fun N o i=>enmF_0 N o _ _ i) (by omega) _ 0 heads0 [] (Nat.zero_add _).symm hh (Nat.le_refl _)
 ·rw[xT,gdB h,xG];exact nm_l (h:=fun N o i=>hnm N true o (pageL (q,l,m,(a,b,c,d,e,()),()) p f k true) _ i) (fun N o i=>enmT_0 N o _ _ i) (by omega) _ 0 heads0 [] (Nat.zero_add _).symm hh (Nat.le_refl _)
theorem names_c:PC 53 namesS:=(pureO (sh:=shOf shnm) (envS_ok (l:=[(94,pageS 95 true)]) ⟨pgT_c,trivial⟩) gl_ne Tryz.func53 (by kernel_rfl) (by decide)).nice fun⟨s,p,f,k,()⟩ h=>nm_n h p f k
noncomputable def ovs (x:DenL [StT,.str,.str,IT]):PO:=fO Tryz.prog (envS [(94,pageS 97 false)]) (shOf []) Tryz.f54 [StT,.str,.str,IT] [.slice EntT,.bool] x
noncomputable def vsB (s:StD) (p f:List UInt8) (k:Int):PO:=bif pageM s p f k false then gd [pageP s] (some (pageL s p f k false,true,())) else gd [pageP s] (some (pageL s p f k false,false,()))
theorem evs (q:Int) (l:List EntD) (m:List MemoD) (a b c d e:Int) (p f:List UInt8) (k:Int):ovs ((q,l,m,(a,b,c,d,e,()),()),p,f,k,())=vsB (q,l,m,(a,b,c,d,e,()),()) p f k:=by kernel_rfl
theorem vers_c:PC 54 versS:=(pureO (envS_ok (l:=[(94,pageS 97 false)]) ⟨pgF_c,trivial⟩) gl_ne Tryz.func54 (by kernel_rfl) (by decide)).nice fun⟨⟨q,l,m,⟨a,b,c,d,e,()⟩,()⟩,p,f,k,()⟩ h=>by
 have h:pageP (q,l,m,(a,b,c,d,e,()),())=true:=h;show ovs _=some (pageL (q,l,m,(a,b,c,d,e,()),()) p f k false,pageM (q,l,m,(a,b,c,d,e,()),()) p f k false,());rw[evs];unfold vsB;cases pageM (q,l,m,(a,b,c,d,e,()),()) p f k false
 ·rw[xF,gdB h,xG]
 ·rw[xT,gdB h,xG]
end Go.Proofs.YtldllfocpadkeaaGreatDoor
