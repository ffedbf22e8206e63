/-
  Part of the proof: X0 ShKey ShEnt ShLib SayDig ShN ShGa SayA SayB SayC SayP SayR SayM SayN SayO SayQ SayX. No condition.
-/
import Derived.Test.YtldllfocpadkeaaGreatDoorSym
import Derived.Test.YtldllfocpadkeaaGreatDoorG1
import Derived.Test.YtldllfocpadkeaaGreatDoorEng11
import Derived.Test.YtldllfocpadkeaaGreatDoorBegD
import Derived.Test.YtldllfocpadkeaaGreatDoorG4
import Derived.Test.YtldllfocpadkeaaGreatDoorG5
import Derived.Test.YtldllfocpadkeaaGreatDoorG6
import Derived.Lib.AtoiErrMem
import Derived.Tactics2
import Derived.WalkKit
import Derived.Lib.ParseIntBCases
import Derived.Test.YtldllfocpadkeaaGreatDoorG3
import Derived.Test.YtldllfocpadkeaaGreatDoorG2
namespace Nice
open Go Go.Eng
theorem xT {α:Type} (a b:α):(bif true then a else b)=a:=Eq.trans (cond_true a b) rfl
theorem xF {α:Type} (a b:α):(bif false then a else b)=b:=Eq.trans (cond_false a b) rfl
theorem xG {α:Type} (r:Option α):gd [] r=r:=Eq.trans gd_nil rfl
theorem byte_rt (c:UInt8):UInt8.ofNat ((c.toNat:Int)).toNat=c:=by rw[Int.toNat_natCast];exact UInt8.ofNat_toNat
abbrev BO:=Option (DenL [.bool])
def bO (b:Bool):Option (DenL [.bool]):=some (b,())
end Nice
namespace Nice
open Go Go.Eng
abbrev VerT:Ty:=.pair (.int .i64) (.pair .bool (.pair .str .unit))
abbrev EntT:Ty:=.pair .str (.pair (.slice VerT) .unit)
abbrev VerD:Type:=Int×Bool×List UInt8×Unit
abbrev EntD:Type:=List UInt8×List VerD×Unit
def verBW (v:VerD):Bool:=decide (1≤v.1)&&(decide (v.1≤1099511627776)&&(decide (v.2.2.1.length≤300)&&(!v.2.1||v.2.2.1==[])))
def riseV:Int→List VerD→Bool
 |_,[]=>true
 |last,v::r=>verBW v&&(decide (last<v.1)&&riseV v.1 r)
theorem riseV_cons (last:Int) (v:VerD) (r:List VerD):riseV last (v::r)=(verBW v&&(decide (last<v.1)&&riseV v.1 r)):=rfl
def entB (e:EntD):Bool:=riseV 0 e.2.1&&(isKey e.1&&(decide (1≤e.2.1.length)&&decide (e.2.1.length≤12)))
def entP (e:EntD):Bool:=bndS e.1&&decide (e.2.1.length≤140737488355328)
noncomputable def verS:PSpec:=⟨[VerT],[.bool],fun _=>true,fun x=>(verBW x.1,())⟩
noncomputable def entS:PSpec:=⟨[EntT],[.bool],fun x=>entP x.1,fun x=>(entB x.1,())⟩
def cutV (v:VerD):VerD:=(v.1,v.2.1,cut v.2.2.1 302,())
def lentN (e:EntD):EntD:=(cut e.1 42,(e.2.1.take 14).map cutV,())
noncomputable def lentS:PSpec:=⟨[EntT],[EntT],fun x=>decide (x.1.2.1.length≤140737488355328),fun x=>(lentN x.1,())⟩
def verW (n:Int) (g:Bool) (b:List UInt8):BO:=bif decide (n≥1) then(bif decide (n≤1099511627776) then(bif decide ((b.length:Int)≤300) then(bif g then(bif b==[] then bO true else bO false) else bO true) else bO false) else bO false) else bO false
theorem verW_n (n:Int) (g:Bool) (b:List UInt8):verW n g b=some (verBW (n,g,b,()),()):=by
 unfold verW verBW;dsimp only;by_cases h1:n≥1
 ·rw[cdT h1,decide_eq_true (show 1≤n from h1),Bool.true_and];by_cases h2:n≤1099511627776
  ·rw[cdT h2,decide_eq_true h2,Bool.true_and];by_cases h3:b.length≤300
   ·rw[cdT (show(b.length:Int)≤300 by omega),decide_eq_true h3,Bool.true_and];cases g
    ·rfl
    ·cases b==[]<;>rfl
   ·rw[cdF (show ¬(b.length:Int)≤300 by omega),decide_eq_false h3];rfl
  ·rw[cdF h2,decide_eq_false h2];rfl
 ·rw[cdF h1,decide_eq_false (show ¬1≤n from h1)];rfl
def entE (k:List UInt8) (l:List VerD):BO:=bif isKey k then(bif decide ((l.length:Int)≥1) then(bif decide ((l.length:Int)≤12) then gd [bndS k] (bO true) else gd [bndS k] (bO false)) else gd [bndS k] (bO false)) else gd [bndS k] (bO false)
theorem entE_n {k:List UInt8} {l:List VerD} (h:bndS k=true):entE k l=some (isKey k&&(decide (1≤l.length)&&decide (l.length≤12)),()):=by
 unfold entE;cases isKey k
 ·rw[xF,gdB h,xG];rfl
 ·rw[xT];by_cases h1:1≤l.length
  ·rw[cdT (by omega),decide_eq_true h1];by_cases h2:l.length≤12
   ·rw[cdT (by omega),decide_eq_true h2,gdB h,xG];rfl
   ·rw[cdF (by omega),decide_eq_false h2,gdB h,xG];rfl
  ·rw[cdF (by omega),decide_eq_false h1,gdB h,xG];rfl
noncomputable def stepTM (k:List UInt8) (l:List VerD) (last:Int) (l2:List VerD) (m i:Int) (nx:BO):BO:=
 bif decide (i<m) then gd [decide (i.toNat<l2.length),decide (0≤i),decide (i<(l2.length:Int))] (bif verBW (l2.getD i.toNat (VerT).dflt) then(bif decide ((l2.getD i.toNat (VerT).dflt).1≤last) then bO false else gd [decide (inK .i64 (i+1))] nx) else bO false) else entE k l
noncomputable abbrev gP (l:List VerD) (i:Int):List Bool:=[decide ((i-1).toNat<l.length),decide (0≤i-1),decide (i-1<(l.length:Int)),decide (inK .i64 (i-1))]
def tailR (v:VerD) (no yes:BO):BO:=bif decide ((v.2.2.1.length:Int)>300) then no else bif v.2.1 then(bif !v.2.2.1==[] then no else yes) else yes
noncomputable def stepRM (k:List UInt8) (l:List VerD) (i:Int) (nx:BO):BO:=
 bif decide (i<(l.length:Int)) then gd [decide (i.toNat<l.length),decide (0≤i),decide (i<(l.length:Int))] (bif decide ((l.getD i.toNat (VerT).dflt).1<1) then bO false else bif decide ((l.getD i.toNat (VerT).dflt).1>1099511627776) then bO false
  else bif decide (i>0) then(bif decide ((l.getD i.toNat (VerT).dflt).1≤(l.getD (i-1).toNat (VerT).dflt).1) then gd (gP l i) (bO false) else tailR (l.getD i.toNat (VerT).dflt) (gd (gP l i) (bO false)) (gd (decide (inK .i64 (i+1))::gP l i) nx))
  else tailR (l.getD i.toNat (VerT).dflt) (bO false) (gd [decide (inK .i64 (i+1))] nx)) else entE k l
end Nice
namespace Go.Proofs.YtldllfocpadkeaaGreatDoor
open Go Go.Eng Nice Go.RowKit
set_option maxRecDepth 1000000
noncomputable def over (x:DenL [VerT]):BO:=fO Tryz.prog (envS []) (shOf []) Tryz.f142 [VerT] [.bool] x
theorem ever (n:Int) (g:Bool) (b:List UInt8):over ((n,g,b,()),())=verW n g b:=by kernel_rfl
theorem ver_c:PC 142 verS:=(pureO (envS_ok (l:=[]) trivial) gl_ne Tryz.func142 (by kernel_rfl) (by decide)).nice fun⟨⟨n,g,b,()⟩,()⟩ _=>by
 show over _=_;rw[ever];exact verW_n n g b
abbrev shtmay:List (Nat×List (Nat×Sh)):=[(3,[(1,(.obj [.sym,(.dat VerT)])),(2,(.one .sym)),(3,(.one .sym)),(7,(.one (.dat VerT))),(8,(.one .sym)),(9,(.one .sym))])]
noncomputable def htmay (N:Nat) (k:List UInt8) (l:List VerD) (c:Bool) (last:Int) (l2:List VerD) (m i:Int):BO:=rH Tryz.prog (envS [(135,isKeyS),(142,verS)]) (shOf shtmay) Tryz.f92 [.bool] N 0 [(1,.pointer (some ⟨11,0,none⟩)),(2,.bool c),(3,sy (.int .i64 last)),(7,dt 12),(8,sy (.int .i64 m)),(9,sy (.int .i64 i))] [.dat VerT l,.row [sy (.string (bs k)),dt 10] 44 false,.dat VerT l2]
noncomputable def otmay (x:DenL [EntT]):BO:=fO Tryz.prog (envS [(135,isKeyS),(142,verS)]) (shOf shtmay) Tryz.f92 [EntT] [.bool] x
theorem otmay_g (x:DenL [EntT]):otmay x=fON Tryz.prog (envS [(135,isKeyS),(142,verS)]) (shOf shtmay) Tryz.f92 [EntT] [.bool] heads0 x:=rfl
theorem etmay_g (N:Nat) (k:List UInt8) (l:List VerD):fON Tryz.prog (envS [(135,isKeyS),(142,verS)]) (shOf shtmay) Tryz.f92 [EntT] [.bool] N ((k,l,()),())=htmay N k l false 0 l (l.length:Int) 0:=by kernel_rfl
theorem etmay_0 (N:Nat) (k:List UInt8) (l:List VerD) (c:Bool) (last:Int) (l2:List VerD) (m i:Int):htmay (N+1) k l c last l2 m i=stepTM k l last l2 m i (htmay N k l c (l2.getD i.toNat (VerT).dflt).1 l2 m (i+1)):=by kernel_rfl
theorem tmay_l (k:List UInt8) (l:List VerD) (hk:bndS k=true) (hl:l.length≤140737488355328):∀(r i N:Nat) (last:Int),l.length=i+r→r<N→htmay N k l false last l (l.length:Int) (i:Int)=some (riseV last (l.drop i)&&(isKey k&&(decide (1≤l.length)&&decide (l.length≤12))),()):=by
 intro r
 induction r with
 |zero=>
  intro i N last hi hN;obtain⟨N,rfl⟩:∃m,N=m+1:=⟨N-1,by omega⟩
  rw[etmay_0];unfold stepTM;rw[cdF (by omega),entE_n hk,List.drop_eq_nil_of_le (by omega)];rfl
 |succ r ih=>
  intro i N last hi hN;obtain⟨N,rfl⟩:∃m,N=m+1:=⟨N-1,by omega⟩
  have hlt:i<l.length:=by omega
  have hd:l.drop i=l.getD i (VerT).dflt::l.drop (i+1):=by
   rw[List.drop_eq_getElem_cons hlt,List.getD_eq_getElem?_getD,List.getElem?_eq_getElem hlt];rfl
  have this:=ih (i+1) N (l.getD i (VerT).dflt).1 (by omega) (by omega);simp only[Int.natCast_add,Int.natCast_one] at this;rw[etmay_0];unfold stepTM;rw[cdT (by omega),show(i:Int).toNat=i from rfl,gdT hlt,gdT (by omega),gdT (by omega),xG,hd,this,riseV_cons];have hk1:inK .i64 ((i:Int)+1):=inK_i64.2 ⟨by omega,by omega⟩
  cases verBW (l.getD i (VerT).dflt)
  ·rfl
  ·rw[xT,Bool.true_and];by_cases h:(l.getD i (VerT).dflt).1≤last
   ·rw[cdT h,decide_eq_false (show ¬last<(l.getD i (VerT).dflt).1 by omega)];rfl
   ·rw[cdF h,decide_eq_true (show last<(l.getD i (VerT).dflt).1 by omega),gdT hk1,xG,Bool.true_and]
theorem tmay_c:PC 92 entS:=(pureO (sh:=shOf shtmay) (envS_ok (l:=[(135,isKeyS),(142,verS)]) ⟨dKey_c,ver_c,trivial⟩) gl_ne Tryz.func92 (by kernel_rfl) (by decide)).nice fun⟨⟨k,l,()⟩,()⟩ h=>by
 have h:(bndS k&&decide (l.length≤140737488355328))=true:=h;rw[Bool.and_eq_true,decide_eq_true_eq] at h;show otmay _=some (entB (k,l,()),());rw[otmay_g,etmay_g];exact tmay_l k l h.1 h.2 l.length 0 heads0 0 (by omega) (by unfold heads0;omega)
abbrev shrme:List (Nat×List (Nat×Sh)):=[(2,[(1,(.obj [.sym,(.dat VerT)])),(2,(.one .sym)),(3,(.one .sym))])]
noncomputable def hrme (N:Nat) (k:List UInt8) (l:List VerD) (c:Bool) (i:Int):BO:=rH Tryz.prog (envS [(74,isKeyS)]) (shOf shrme) Tryz.f50 [.bool] N 0 [(1,.pointer (some ⟨11,0,none⟩)),(2,.bool c),(3,sy (.int .i64 i))] [.dat VerT l,.row [sy (.string (bs k)),dt 10] 44 false]
noncomputable def orme (x:DenL [EntT]):BO:=fO Tryz.prog (envS [(74,isKeyS)]) (shOf shrme) Tryz.f50 [EntT] [.bool] x
theorem orme_g (x:DenL [EntT]):orme x=fON Tryz.prog (envS [(74,isKeyS)]) (shOf shrme) Tryz.f50 [EntT] [.bool] heads0 x:=rfl
theorem erme_g (N:Nat) (k:List UInt8) (l:List VerD):fON Tryz.prog (envS [(74,isKeyS)]) (shOf shrme) Tryz.f50 [EntT] [.bool] N ((k,l,()),())=hrme N k l false 0:=by kernel_rfl
theorem erme_0 (N:Nat) (k:List UInt8) (l:List VerD) (c:Bool) (i:Int):hrme (N+1) k l c i=stepRM k l i (hrme N k l c (i+1)):=by kernel_rfl
theorem tailR_n {v:VerD} {last:Int} {no yes:BO} {b:Bool} (h1:¬v.1<1) (h2:¬v.1>1099511627776) (h3:last<v.1) (hn:no=bO false) (hy:yes=bO b):tailR v no yes=some (verBW v&&(decide (last<v.1)&&b),()):=by
 obtain⟨n,g,t,⟨⟩⟩:=v;have h1:¬n<1:=h1;have h2:¬n>1099511627776:=h2;have h3:last<n:=h3;unfold tailR verBW;dsimp only;rw[decide_eq_true (show 1≤n by omega),decide_eq_true (show n≤1099511627776 by omega),decide_eq_true h3,hn,hy];by_cases h:t.length≤300
 ·rw[cdF (by omega),decide_eq_true h];cases g
  ·rfl
  ·cases t==[]<;>rfl
 ·rw[cdT (by omega),decide_eq_false h];rfl
theorem rme_l (k:List UInt8) (l:List VerD) (hk:bndS k=true) (hl:l.length≤140737488355328):∀(r i N:Nat) (last:Int),l.length=i+r→r<N→(i=0→last=0)→(0<i→last=(l.getD (i-1) (VerT).dflt).1)→hrme N k l false (i:Int)=some (riseV last (l.drop i)&&(isKey k&&(decide (1≤l.length)&&decide (l.length≤12))),()):=by
 intro r
 induction r with
 |zero=>
  intro i N last hi hN _ _;obtain⟨N,rfl⟩:∃m,N=m+1:=⟨N-1,by omega⟩
  rw[erme_0];unfold stepRM;rw[cdF (by omega),entE_n hk,List.drop_eq_nil_of_le (by omega)];rfl
 |succ r ih=>
  intro i N last hi hN hz hp;obtain⟨N,rfl⟩:∃m,N=m+1:=⟨N-1,by omega⟩
  have hlt:i<l.length:=by omega
  have hd:l.drop i=l.getD i (VerT).dflt::l.drop (i+1):=by
   rw[List.drop_eq_getElem_cons hlt,List.getD_eq_getElem?_getD,List.getElem?_eq_getElem hlt];rfl
  have this:=ih (i+1) N (l.getD i (VerT).dflt).1 (by omega) (by omega) (fun h=>by omega) (fun _=>rfl);simp only[Int.natCast_add,Int.natCast_one] at this;have hk1:inK .i64 ((i:Int)+1):=inK_i64.2 ⟨by omega,by omega⟩;have goal:(riseV last (l.getD i (VerT).dflt::l.drop (i+1))&&(isKey k&&(decide (1≤l.length)&&decide (l.length≤12))))=(verBW (l.getD i (VerT).dflt)&&(decide (last<(l.getD i (VerT).dflt).1)&&(riseV (l.getD i (VerT).dflt).1 (l.drop (i+1))&&(isKey k&&(decide (1≤l.length)&&decide (l.length≤12)))))):=by
   show((verBW _&&(decide _&&riseV _ _))&&_)=_;rw[Bool.and_assoc,Bool.and_assoc]
  rw[erme_0];unfold stepRM;rw[cdT (by omega),show(i:Int).toNat=i from rfl,gdT hlt,gdT (by omega),gdT (by omega),xG,hd,goal,this];generalize hv:l.getD i (VerT).dflt=v;have lo:v.1<1→verBW v=false:=fun h=>by unfold verBW;rw[decide_eq_false (show ¬1≤v.1 by omega)];rfl
  have up:v.1>1099511627776→verBW v=false:=fun h=>by unfold verBW;rw[decide_eq_false (show ¬v.1≤1099511627776 by omega)];exact Bool.and_false _
  by_cases h1:v.1<1
  ·rw[cdT h1,lo h1];rfl
  rw[cdF h1];by_cases h2:v.1>1099511627776
  ·rw[cdT h2,up h2];rfl
  rw[cdF h2];by_cases h0:i=0
  ·have hl0:=hz h0;rw[cdF (show ¬(i:Int)>0 by omega)];exact tailR_n h1 h2 (by omega) rfl (by rw[gdT hk1,xG];rfl)
  ·have hl1:=hp (by omega);have e:((i:Int)-1).toNat=i-1:=by omega
   have hg:∀x:BO,gd (gP l (i:Int)) x=x:=fun x=>by
    unfold gP;rw[e,gdT (by omega),gdT (by omega),gdT (by omega),gdT (inK_i64.2 ⟨by omega,by omega⟩),xG]
   rw[cdT (show(i:Int)>0 by omega),e,←hl1,hg];by_cases h3:v.1≤last
   ·rw[cdT h3,decide_eq_false (show ¬last<v.1 by omega),Bool.false_and,Bool.and_false];rfl
   ·rw[cdF h3];exact tailR_n h1 h2 (by omega) rfl (by rw[gdT hk1,hg];rfl)
theorem rme_c:PC 50 entS:=(pureO (sh:=shOf shrme) (envS_ok (l:=[(74,isKeyS)]) ⟨rKey_c,trivial⟩) gl_ne Tryz.func50 (by kernel_rfl) (by decide)).nice fun⟨⟨k,l,()⟩,()⟩ h=>by
 have h:(bndS k&&decide (l.length≤140737488355328))=true:=h;rw[Bool.and_eq_true,decide_eq_true_eq] at h;show orme _=some (entB (k,l,()),());rw[orme_g,erme_g];exact rme_l k l h.1 h.2 l.length 0 heads0 0 (by omega) (by unfold heads0;omega) (fun _=>rfl) (fun h=>absurd h (by decide))
abbrev shlent:List (Nat×List (Nat×Sh)):=[(4,[(1,(.obj [.sym,(.vec VerT 86)])),(2,(.obj [.sym,.any])),(19,(.one .sym)),(20,(.one .sym))])]
noncomputable def hlent (N:Nat) (k:List UInt8) (l:List VerD) (k2:List UInt8) (m i:Int):Option (DenL [EntT]):=rH Tryz.prog (envS [(28,cutS)]) (shOf shlent) Tryz.f49 [EntT] N 0 [(1,.pointer (some ⟨11,0,none⟩)),(2,.pointer (some ⟨12,0,none⟩)),(19,sy (.int .i64 m)),(20,sy (.int .i64 i))] [.vec VerT l 86,.row [sy (.string (bs k)),dt 10] 44 false,.row [sy (.string (bs k2)),Value.slice none 0 0] 44 false]
noncomputable def olent (x:DenL [EntT]):Option (DenL [EntT]):=fO Tryz.prog (envS [(28,cutS)]) (shOf shlent) Tryz.f49 [EntT] [EntT] x
theorem olent_g (x:DenL [EntT]):olent x=fON Tryz.prog (envS [(28,cutS)]) (shOf shlent) Tryz.f49 [EntT] [EntT] heads0 x:=rfl
theorem elent_g (N:Nat) (k:List UInt8) (l:List VerD):fON Tryz.prog (envS [(28,cutS)]) (shOf shlent) Tryz.f49 [EntT] [EntT] N ((k,l,()),())=
 (gd [decide ((2*(0+(cutL l none (some (min (l.length:Int) 14))).length)+400)*32≤281474976710656),decide (0≤min (l.length:Int) 14),decide (min (l.length:Int) 14≤(l.length:Int))] (hlent N (cut k 42) ([]++cutL l none (some (min (l.length:Int) 14))) [] (([]++cutL l none (some (min (l.length:Int) 14))).length:Int) 0)):=by kernel_rfl
theorem elent_0 (N:Nat) (k:List UInt8) (l:List VerD) (k2:List UInt8) (m i:Int):hlent (N+1) k l k2 m i=
 (bif decide (i<m) then gd [decide (inK .i64 (i+1)),decide (i.toNat<l.length),decide (0≤i),decide (i<(l.length:Int)),decide (i.toNat<l.length),decide (0≤i),decide (i<(l.length:Int))] (hlent N k (l.set i.toNat (cutV (l.getD i.toNat (VerT).dflt))) k2 m (i+1)) else some ((k,l,()),())):=by kernel_rfl
theorem lent_l (k k2:List UInt8):∀(r a:List VerD) (N:Nat),a.length+r.length≤14→r.length<N→hlent N k (a++r) k2 ((a++r).length:Int) (a.length:Int)=some ((k,a++r.map cutV,()),())
 |[],a,N,hl,hN=>by
  obtain⟨N,rfl⟩:∃m,N=m+1:=⟨N-1,by omega⟩
  rw[elent_0,List.append_nil,cdF (by omega)];rw[List.map_nil,List.append_nil]
 |v::r,a,N,hl,hN=>by
  obtain⟨N,rfl⟩:∃m,N=m+1:=⟨N-1,by omega⟩
  simp only[List.length_cons] at hl hN;have hlt:a.length<(a++v::r).length:=by simp
  have hg:(a++v::r).getD a.length (VerT).dflt=v:=getD_mid a r v _;have key:=lent_l k k2 r (a++[cutV v]) N (by simp;omega) (by omega);have e1:a++[cutV v]++r=a++cutV v::r:=by simp
  have e2:a++[cutV v]++r.map cutV=a++(v::r).map cutV:=by simp
  have e3:(a++cutV v::r).length=(a++v::r).length:=by simp
  rw[e1,e2,e3] at key;rw[List.length_append (bs:=[cutV v]),List.length_singleton] at key;simp only[Int.natCast_add,Int.natCast_one] at key;rw[elent_0,cdT (by omega),show((a.length:Int)).toNat=a.length from rfl,hg,set_mid,gdT (inK_i64.2 ⟨by omega,by omega⟩),gdT hlt,gdT (by omega),gdT (by omega),gdT hlt,gdT (by omega),gdT (by omega),xG]
  exact key
theorem lent_c:PC 49 lentS:=(pureO (sh:=shOf shlent) (envS_ok (l:=[(28,cutS)]) ⟨cut_c,trivial⟩) gl_ne Tryz.func49 (by kernel_rfl) (by decide)).nice fun⟨⟨k,l,()⟩,()⟩ h=>by
 have h:l.length≤140737488355328:=of_decide_eq_true h;have hc:cutL l none (some (min (l.length:Int) 14))=l.take 14:=by
  show l.take (min (l.length:Int) 14).toNat=l.take 14;by_cases hl:l.length≤14
  ·rw[Int.min_eq_left (by omega),List.take_of_length_le (by omega),List.take_of_length_le hl]
  ·rw[Int.min_eq_right (by omega)];rfl
 have hl:(l.take 14).length≤14:=by rw[List.length_take];omega
 show olent _=some (lentN (k,l,()),());rw[olent_g,elent_g,hc,gdT (by omega),gdT (by omega),gdT (by omega),xG,List.nil_append];exact lent_l (cut k 42) [] (l.take 14) [] heads0 (by simpa using hl) (by unfold heads0;omega)
end Go.Proofs.YtldllfocpadkeaaGreatDoor
namespace Nice
open Go Go.Eng
noncomputable def fmtIS:PSpec:=⟨[.int .i64,.int .i64],[.str],fun x=>i64P x.1&&x.2.1==10,fun x=>(fmtN x.1,())⟩
noncomputable def cloneS:OSpec:=⟨false,0,.unit,0,[.d (.slice .str)],[.vec .str 9],fun _ y=>decide (y.1.length≤8796093022208),fun x y=>(x,y.1,())⟩
end Nice
namespace Go.Proofs.YtldllfocpadkeaaGreatDoor
open Go Go.Eng Nice Go.RowKit
set_option maxRecDepth 1000000
theorem fmtI_c:PC 80 fmtIS:=pc_mk fun fz w args x hgl hr hp=>by
 obtain⟨n,b,⟨⟩⟩:=x;have hq:(i64P n&&b==10)=true:=hp;rw[Bool.and_eq_true,beq_iff_eq] at hq;obtain⟨hn,rfl⟩:=hq;obtain⟨h0,h1⟩:=i64P_iff.1 hn;obtain⟨_,_,e1,g1,hr1⟩:=rd_cons' rfl hr;obtain⟨_,r3,rfl,g2,hr2⟩:=rd_cons' rfl hr1;obtain rfl:r3=[]:=hr2;cases g1;cases g2;have ha:args=#[.int .i64 n,.int .i64 10]:=Array.toList_inj.1 e1
 subst ha;refine(Tryz.strconv_FormatInt_10 n h0 h1 w (glTab hgl)).mono ?_;rintro e w' ⟨rfl,k,os,rfl⟩;exact⟨[.string (bs (Lib.itoa n))],rfl,⟨_,_,rfl,.inr ⟨rfl,rfl⟩,rfl⟩,same_grow _ _ _⟩
theorem info9:(Tryz.prog.info? 9).map (·.size)=some 1:=by kernel_rfl
theorem vec_of {w:World} {B n:Nat} {v:Value} {l:List (List UInt8)} (hn:n=l.length) (h:w.ownsRow B 9 1 v n (l.map fun s=>Value.string (bs s))):∃r:Reg,r.sv=v∧(∀b,b∈(bif r.own then [r.blk] else []:List Nat)→B≤b)∧HdrOK Tryz.prog (fun _=>r) 0 w (.vec .str l 9)∧∀b,r.fz b=none:=by
 subst hn;obtain⟨h0,h⟩:=h;rcases h with⟨rfl,hl⟩|⟨g,cap,cur,rfl,hg,hh,hc,_,hsz,htk⟩
 ·have:l=[]:=List.eq_nil_of_length_eq_zero hl;subst this;refine⟨⟨0,0,0,1,false,fun _=>none,.slice none 0 0⟩,rfl,fun b hb=>(by cases hb),?_,fun _=>rfl⟩;exact⟨rfl,fun b c hb=>(nomatch hb),.inl ⟨rfl,rfl,none,rfl⟩⟩
 ·refine⟨⟨g,0,cur.size,1,true,fun _=>none,.slice (some ⟨g,0,none⟩) l.length cap⟩,rfl,fun b hb=> ?_,?_,fun _=>rfl⟩
  ·have:b=g:=by simpa using hb
   omega
  refine⟨rfl,?_,.inr ⟨rfl,?_,cap,cur,(0,0),rfl,hc,hh,Nat.zero_add _,?_,fun i hi=> ?_,?_,?_⟩⟩
  ·intro b c hb;cases hb
  ·rintro⟨c,hc⟩;cases hc
  ·show cap*1≤cur.size;omega
  ·have:=info9;rw[hi] at this;have:i.size=1:=Option.some.inj this;rw[this];exact⟨rfl,rfl,Nat.mod_one _⟩
  ·intro o _ ho;have:=ho.2;omega
  ·show RdL (fun _=>none) .str l (cur.toList.drop 0);rw[List.drop_zero];intro i x hx;have hi:i<l.length:=(List.getElem?_eq_some_iff.1 hx).1;have hcs:cur.toList.length=cap:=by rw[Array.length_toList,hsz,Nat.mul_one]
   refine⟨by show i*1+1≤_;omega,?_⟩;have hk:cur.toList[i]?=some (.string (bs x)):=by
    have h1:(cur.toList.take (l.length*1))[i]?=some (.string (bs x)):=by
     rw[htk,List.getElem?_map,hx];rfl
    rw[List.getElem?_take] at h1;rw[if_pos (by omega)] at h1;exact h1
   obtain⟨h2,h3⟩:=List.getElem?_eq_some_iff.1 hk;show(cur.toList.drop (i*1)).take 1=[Value.string (bs x)];rw[Nat.mul_one,List.drop_eq_getElem_cons h2,h3];rfl
theorem clone_c:OC 205 cloneS:=by
 intro fz w r own1 own2 args x y hz hgl hN hF0 hGo _ hRn hRA hpre;obtain⟨l,⟨⟩⟩:=y;have hl:l.length≤8796093022208:=of_decide_eq_true hpre;have h1:own1=[]:=hRn rfl;obtain⟨v,rest,o1,o2,rfl,rfl,hv,hrest,ho2⟩:=hRA;subst hrest ho2 h1;have hv:o1=[]∧RdC fz (.slice .str) l [v]:=by
  rcases hv with⟨h,_⟩|⟨_,h⟩
  ·cases h
  ·exact h
 obtain⟨rfl,sv,hsv,hv⟩:=hv;cases hsv;show Calls Tryz.prog 205 #[v] w _;have fin:∀(v':Value) (w':World),w'.ownsRow w.heap.size 9 1 v' l.length (l.map fun s=>Value.string (bs s))→Below w.heap.size w w'→ObjQ Tryz.prog cloneS fz w r ([]++([]++[])) (x,l,()) (.returned v') w':=fun v' w' ho hb=>by
  obtain⟨r',rfl,hB,hh,hf⟩:=vec_of rfl ho;have hlt:∀b c,fz b=some c→b<w.heap.size:=fun b c hb=>by
   obtain⟨e,fr,h⟩:=hz b c hb;exact(Array.getElem?_eq_some_iff.1 h).1
  refine⟨[r'.sv],fz,[],(bif r'.own then [r'.blk] else []),rfl,fun _ _ h=>h,hz.keep fun b c h=>hb.block b (hlt b c h),fun _ _ h=>.inl h,?_,fun b hb=> ?_,fun b hb=>.inr (hB b (by simpa using hb)),fun h=>(by cases h),fun _=>rfl,⟨r'.sv,[],_,[],rfl,(List.append_nil _).symm,.inr ⟨rfl,r',rfl,rfl,hh,fun b c h=>by rw[hf b] at h;cases h⟩,rfl,rfl⟩,hb.size,hb.os,hb.output,fun b hlt _=>hb.block b hlt⟩
  ·show([]++([]++(bif r'.own then [r'.blk] else []))).Nodup;cases r'.own
   ·exact List.nodup_nil
   ·simp
  ·have hb:b∈(bif r'.own then [r'.blk] else []:List Nat):=by simpa[roB,cloneS] using hb
   have:=hB b hb;cases hz':fz b with
   |none=>rfl
   |some c=>have:=hlt b c hz';omega
 rcases hv with⟨⟨q,c,rfl⟩,rfl⟩|⟨b,o,c,arr,rfl,hb,hsz,hc,hk⟩
 ·cases q with
  |none=>
   refine(Tryz.slices_Clone_string_nil 0 c w).mono ?_;rintro e w' ⟨rfl,rfl⟩;exact fin _ _ ⟨rfl,.inl ⟨rfl,rfl⟩⟩ (Below.refl _ _)
  |some a=>
   refine(Tryz.slices_Clone_string_zero a c w).mono ?_;rintro e w' ⟨v',rfl,ho,_,hb⟩;exact fin _ _ ho hb
 ·obtain⟨e,fr,hheap⟩:=hz b arr hb;refine(Tryz.slices_Clone_string b o l.length c (l.map bs) w (by rw[List.length_map];exact Nat.le_refl _) (by omega) (fun j hj=> ?_)).mono ?_
  ·rw[List.length_map] at hj;have hx:=hk j l[j] (List.getElem?_eq_getElem hj);have hx:(arr.toList.drop (o+j*1)).take 1=[Value.string (bs l[j])]:=hx;have hsz:o+l.length*1≤arr.size:=hsz;have hlt:o+j<arr.toList.length:=by rw[Array.length_toList];omega
   rw[Nat.mul_one,List.drop_eq_getElem_cons hlt] at hx;have hx:arr.toList[o+j]=Value.string (bs l[j]):=(List.cons.inj hx).1;simp only[World.cell?,hheap,Option.isSome_none,Bool.false_eq_true,if_false];rw[List.getD_eq_getElem?_getD,List.getElem?_map,List.getElem?_eq_getElem hj];show arr[o+j]?=some (.string (bs l[j]))
   rw[←hx,←Array.getElem?_toList,List.getElem?_eq_getElem hlt]
  ·rintro e w' ⟨v',rfl,ho,_,hb⟩;have:((l.map bs).take l.length).map Value.string=l.map fun s=>Value.string (bs s):=by
    rw[List.take_of_length_le (by rw[List.length_map];exact Nat.le_refl _),List.map_map];rfl
   rw[this] at ho;exact fin _ _ ho hb
end Go.Proofs.YtldllfocpadkeaaGreatDoor
namespace Nice
open Go Go.Eng
theorem fmtN_nat (u:Nat):fmtN (u:Int)=Lib.decDigits u:=by
 show Lib.itoa (u:Int)=_;unfold Lib.itoa;rw[if_neg (by omega)];rfl
theorem digsF_dec:∀(f u:Nat) (acc:List UInt8),u<10^f→0<f→digsF f u acc=Lib.decDigits u++acc
 |0,_,_,_,h=>absurd h (Nat.lt_irrefl 0)
 |f+1,u,acc,hu,_=>by
  unfold digsF;by_cases h:u<10
  ·rw[if_pos (by omega),Lib.decDigits_one h,Nat.mod_eq_of_lt h];rfl
  ·have hf:0<f:=by
    rcases Nat.eq_zero_or_pos f with h'|h'
    ·subst h';simp at hu;omega
    ·exact h'
   rw[if_neg (by omega),digsF_dec f (u/10) _ (by rw[Nat.pow_succ] at hu;omega) hf]
   conv=>rhs;rw[Lib.decDigits,dif_neg h]
   rw[List.append_assoc];rfl
theorem digits_fmt {n:Int} (h0:0≤n) (h1:n≤1099511627776):digits n=fmtN n:=by
 obtain⟨u,rfl⟩:∃u:Nat,n=(u:Int):=⟨n.toNat,by omega⟩
 unfold digits digs;rw[if_neg (by omega),fmtN_nat,show((u:Int)).toNat=u from rfl,digsF_dec 20 u [] (by omega) (by decide),List.append_nil]
end Nice
namespace Go.Proofs.YtldllfocpadkeaaGreatDoor
open Go Go.Eng Nice Go.RowKit
theorem fmt_len {n:Int} (h0:0≤n) (h1:n≤1099511627776):(fmtN n).length≤20:=by
 rw[←digits_fmt h0 h1];unfold digits;rw[if_neg (by omega)];exact digs_len n
end Go.Proofs.YtldllfocpadkeaaGreatDoor
namespace Nice
open Go Go.Eng
def bY:Option (DenL [.bool]):=some (true,())
def bN:Option (DenL [.bool]):=some (false,())
def rng (c:UInt8) (a b:Int) (o:Option (DenL [.bool])):Option (DenL [.bool]):=bif decide ((c.toNat:Int)≥a) then bif decide ((c.toNat:Int)≤b) then bY else o else o
def tk3 (c:UInt8):Option (DenL [.bool]):=bif (c.toNat:Int)==(45:Int) then bY else bN
theorem rng_eq (c:UInt8) (a b:Int) (o:Bool):rng c a b (some (o,()))=some (decide (a≤(c.toNat:Int)∧(c.toNat:Int)≤b)||o,()):=by
 unfold rng bY;by_cases h1:(c.toNat:Int)≥a
 ·by_cases h2:(c.toNat:Int)≤b
  ·rw[cdT h1,cdT h2,decide_eq_true (⟨h1,h2⟩:a≤(c.toNat:Int)∧(c.toNat:Int)≤b)];rfl
  ·rw[cdT h1,cdF h2,decide_eq_false (fun h:a≤(c.toNat:Int)∧(c.toNat:Int)≤b=>h2 h.2)];rfl
 ·rw[cdF h1,decide_eq_false (fun h:a≤(c.toNat:Int)∧(c.toNat:Int)≤b=>h1 h.1)];rfl
theorem tk3_eq (c:UInt8):tk3 c=some (decide (c.toNat=45),()):=by
 unfold tk3 bY bN;by_cases h:c.toNat=45
 ·rw[show((c.toNat:Int)==45)=true from beq_iff_eq.2 (by omega),decide_eq_true h];rfl
 ·rw[show((c.toNat:Int)==45)=false from beq_eq_false_iff_ne.2 (by omega),decide_eq_false h];rfl
end Nice
namespace Go.Proofs.YtldllfocpadkeaaGreatDoor
open Go Go.Eng Nice Go.RowKit
set_option maxRecDepth 1000000
noncomputable def otokW (x:DenL [.byte]):Option (DenL [.bool]):=fO Tryz.prog (envS []) (shOf []) Tryz.f113 [.byte] [.bool] x
theorem etok (c:UInt8):otokW (c,())=rng c 65 90 (rng c 97 122 (rng c 48 57 (tk3 c))):=by kernel_rfl
theorem tok_cW:PC 113 tokBS:=(pureO (envS_ok (l:=[]) trivial) gl_ne Tryz.func113 (by kernel_rfl) (by decide)).nice fun⟨c,()⟩ _=>by
 show otokW _=some (tokB c,());rw[etok,tk3_eq,rng_eq,rng_eq,rng_eq];unfold tokB;congr 2;rw[Bool.eq_iff_iff];simp only[Bool.or_eq_true,decide_eq_true_iff];omega
noncomputable def oprn (x:DenL [.byte]):Option (DenL [.bool]):=fO Tryz.prog (envS []) (shOf []) Tryz.f115 [.byte] [.bool] x
theorem eprn (c:UInt8):oprn (c,())=rng c 32 126 bN:=by kernel_rfl
theorem prn_c:PC 115 prBS:=(pureO (envS_ok (l:=[]) trivial) gl_ne Tryz.func115 (by kernel_rfl) (by decide)).nice fun⟨c,()⟩ _=>by
 show oprn _=some (prB c,());rw[eprn];unfold bN;rw[rng_eq,Bool.or_false];unfold prB;congr 2;rw[decide_eq_decide];omega
noncomputable def odgt (x:DenL [.byte]):Option (DenL [.bool]):=fO Tryz.prog (envS []) (shOf []) Tryz.f341 [.byte] [.bool] x
theorem edgt (c:UInt8):odgt (c,())=rng c 48 57 bN:=by kernel_rfl
noncomputable def digBS:PSpec:=⟨[.byte],[.bool],fun _=>true,fun x=>(isDig x.1,())⟩
theorem dgt_c:PC 341 digBS:=(pureO (envS_ok (l:=[]) trivial) gl_ne Tryz.func341 (by kernel_rfl) (by decide)).nice fun⟨c,()⟩ _=>by
 show odgt _=some (isDig c,());rw[edgt];unfold bN;rw[rng_eq,Bool.or_false];congr 2;rw[Bool.eq_iff_iff,isDig_iff,decide_eq_true_iff];omega
abbrev shrun:List (Nat×List (Nat×Sh)):=[(2,[(0,(.one .sym)),(1,(.one .any)),(4,(.one .sym)),(7,(.one .sym)),(8,(.one .sym))])]
noncomputable def hrun (k:Nat) (S:PSpec) (n:Nat) (s:List UInt8) (a b i:Int):Option (DenL [.int .i64]):=rH Tryz.prog (envS [(k,S)]) (shOf shrun) Tryz.f112 [.int .i64] n 0 [(0,sy (.string (bs s))),(1,Value.func (Fn.func k) #[] #[]),(4,sy (.int .i64 a)),(7,sy (.int .i64 b)),(8,sy (.int .i64 i))] []
noncomputable def orun (k:Nat) (S:PSpec) (x:DenL [.str,.fn k]):Option (DenL [.int .i64]):=fO Tryz.prog (envS [(k,S)]) (shOf shrun) Tryz.f112 [.str,.fn k] [.int .i64] x
noncomputable def nrun (k:Nat) (S:PSpec) (N:Nat) (x:DenL [.str,.fn k]):Option (DenL [.int .i64]):=fON Tryz.prog (envS [(k,S)]) (shOf shrun) Tryz.f112 [.str,.fn k] [.int .i64] N x
noncomputable def stepR (p:UInt8→Bool) (s:List UInt8) (b i:Int) (next:Option (DenL [.int .i64])):Option (DenL [.int .i64]):=
 bif decide (i<b) then(bif p (UInt8.ofNat ((s.getD i.toNat 0).toNat:Int).toNat) then gd [decide (inK .i64 (i+1)),decide (inK .u8 ((s.getD i.toNat 0).toNat:Int)),decide (0≤i),decide (i<(s.length:Int))] next
  else gd [decide (inK .u8 ((s.getD i.toNat 0).toNat:Int)),decide (0≤i),decide (i<(s.length:Int))] (some (i,()))) else some ((s.length:Int),())
theorem run_gen {k:Nat} {S:PSpec} {p:UInt8→Bool} (e1:∀(n:Nat) (s:List UInt8) (a b i:Int),hrun k S (n+1) s a b i=stepR p s b i (hrun k S n s a b (i+1))) (s:List UInt8) (hs:s.length≤140737488355328):
  ∀(r i n:Nat),s.length=i+r→r<n→hrun k S n s 0 (s.length:Int) (i:Int)=some ((i:Int)+((s.drop i).takeWhile p).length,()):=by
 intro r
 induction r with
 |zero=>
  intro i n hi hn;obtain⟨n,rfl⟩:∃k,n=k+1:=⟨n-1,by omega⟩
  rw[e1];unfold stepR;rw[cdF (by omega),List.drop_eq_nil_of_le (by omega)];show some ((s.length:Int),())=some ((i:Int)+((0:Nat):Int),());rw[hi];simp
 |succ r ih=>
  intro i n hi hn;obtain⟨n,rfl⟩:∃k,n=k+1:=⟨n-1,by omega⟩
  have hl:i<s.length:=by omega
  have hb:(s.getD i 0).toNat<256:=(s.getD i 0).toNat_lt;have hd:s.drop i=s.getD i 0::s.drop (i+1):=by
   rw[List.drop_eq_getElem_cons hl,List.getD_eq_getElem?_getD,List.getElem?_eq_getElem hl];rfl
  rw[e1];unfold stepR;rw[cdT (by omega),show(i:Int).toNat=i from rfl,byte_rt,hd];have g8:inK .u8 ((s.getD i 0).toNat:Int):=inK_u8.2 ⟨by omega,by omega⟩;cases hp:p (s.getD i 0)
  ·rw[xF,gdT g8,gdT (by omega),gdT (by omega),xG,List.takeWhile_cons,hp];simp
  ·have:=ih (i+1) n (by omega) (by omega);simp only[Int.natCast_add,Int.natCast_one] at this;rw[xT,gdT (inK_i64.2 ⟨by omega,by omega⟩),gdT g8,gdT (by omega),gdT (by omega),xG,this,List.takeWhile_cons,hp];simp only[if_true,List.length_cons,Int.natCast_add,Int.natCast_one];congr 2;omega
theorem erun_64 (n:Nat) (s:List UInt8) (a b i:Int):hrun 113 tokBS (n+1) s a b i=stepR tokB s b i (hrun 113 tokBS n s a b (i+1)):=by kernel_rfl
theorem erun_66 (n:Nat) (s:List UInt8) (a b i:Int):hrun 115 prBS (n+1) s a b i=stepR prB s b i (hrun 115 prBS n s a b (i+1)):=by kernel_rfl
theorem erun_137 (n:Nat) (s:List UInt8) (a b i:Int):hrun 341 digBS (n+1) s a b i=stepR isDig s b i (hrun 341 digBS n s a b (i+1)):=by kernel_rfl
theorem nrun_64 (N:Nat) (s:List UInt8):nrun 113 tokBS N (s,(),())=hrun 113 tokBS N s 0 (s.length:Int) 0:=by kernel_rfl
theorem nrun_66 (N:Nat) (s:List UInt8):nrun 115 prBS N (s,(),())=hrun 115 prBS N s 0 (s.length:Int) 0:=by kernel_rfl
theorem nrun_137 (N:Nat) (s:List UInt8):nrun 341 digBS N (s,(),())=hrun 341 digBS N s 0 (s.length:Int) 0:=by kernel_rfl
noncomputable def runK (k:Nat):PSpec:=⟨[.str,.fn k],[.int .i64],fun x=>bndS x.1,fun x=>(runLN k x.1,())⟩
theorem orun_of {k:Nat} {S:PSpec} {p:UInt8→Bool} (e1:∀(n:Nat) (s:List UInt8) (a b i:Int),hrun k S (n+1) s a b i=stepR p s b i (hrun k S n s a b (i+1))) (e0:∀(N:Nat) (s:List UInt8),nrun k S N (s,(),())=hrun k S N s 0 (s.length:Int) 0)
  (hk:kindB k=p) {s:List UInt8} (h:bndS s=true):orun k S (s,(),())=some (runLN k s,()):=by
 have hs:s.length≤140737488355328:=of_decide_eq_true h;have e:orun k S (s,(),())=nrun k S heads0 (s,(),()):=rfl;have:=run_gen e1 s hs s.length 0 heads0 (by omega) (by unfold heads0;omega);rw[e,e0];unfold runLN;rw[hk];refine Eq.trans this ?_;rw[List.drop_zero];simp
theorem run64_c:PC 112 (runK 113):=(pureO (sh:=shOf shrun) (envS_ok (l:=[(113,tokBS)]) ⟨tok_cW,trivial⟩) gl_ne Tryz.func112 (by kernel_rfl) (by decide)).nice fun⟨s,(),()⟩ h=>orun_of erun_64 nrun_64 (by funext c;rfl) h
theorem run66_c:PC 112 (runK 115):=(pureO (sh:=shOf shrun) (envS_ok (l:=[(115,prBS)]) ⟨prn_c,trivial⟩) gl_ne Tryz.func112 (by kernel_rfl) (by decide)).nice fun⟨s,(),()⟩ h=>orun_of erun_66 nrun_66 (by funext c;rfl) h
theorem run137_c:PC 112 (runK 341):=(pureO (sh:=shOf shrun) (envS_ok (l:=[(341,digBS)]) ⟨dgt_c,trivial⟩) gl_ne Tryz.func112 (by kernel_rfl) (by decide)).nice fun⟨s,(),()⟩ h=>orun_of erun_137 nrun_137 (by funext c;rfl) h
theorem run_c:PC 112 runS:=by
 intro fz w args x hfz hgl hr hp;obtain⟨s,k,⟨⟩⟩:=x;have hp:(bndS s&&kindP k)=true:=hp;rw[Bool.and_eq_true] at hp;have hk:k=113∨k=115∨k=341:=by
  have:=hp.2;unfold kindP at this;rw[Bool.or_eq_true,Bool.or_eq_true] at this;rcases this with h|h|h
  ·exact .inl (Nat.eq_of_beq_eq_true h)
  ·exact .inr (.inl (Nat.eq_of_beq_eq_true h))
  ·exact .inr (.inr (Nat.eq_of_beq_eq_true h))
 have hr':RdAll fz [.str,.fn k] (s,(),()) args.toList:=hr;rcases hk with rfl|rfl|rfl
 ·exact run64_c fz w args (s,(),()) hfz hgl hr' hp.1
 ·exact run66_c fz w args (s,(),()) hfz hgl hr' hp.1
 ·exact run137_c fz w args (s,(),()) hfz hgl hr' hp.1
end Go.Proofs.YtldllfocpadkeaaGreatDoor
namespace Nice
open Go Go.Eng
theorem low_eq:∀s:List UInt8,Lib.toLowerA s=lower s:=by
 have h:∀b:UInt8,Lib.lowerB b=lo b:=by
  intro b;have:(List.range 256).all (fun n=>Lib.lowerB (UInt8.ofNat n)==lo (UInt8.ofNat n))=true:=by kernel_rfl
  have:=List.all_eq_true.1 this b.toNat (List.mem_range.2 b.toNat_lt);rw[UInt8.ofNat_toNat] at this;exact beq_iff_eq.1 this
 intro s;unfold Lib.toLowerA lower;exact List.map_congr_left fun b _=>h b
theorem ascP_iff {s:List UInt8}:ascP s=true↔(∀c,c∈s→c.toNat<128)∧s.length≤140737488355328:=by
 unfold ascP bndS;rw[Bool.and_eq_true,List.all_eq_true,decide_eq_true_eq];simp only[decide_eq_true_eq]
def lenC:List UInt8:=[67,111,110,116,101,110,116,45,76,101,110,103,116,104]
def wRes (s:List UInt8):Option (DenL [.bool]):=bif lowN s==lowN lenC then gd [ascP lenC,ascP s] (bO true) else gd [ascP lenC,ascP s] (bO false)
def wV (v:List UInt8):Option (DenL [.bool]):=
 bif decide ((v.length:Int)≤100) then(bif runLN 115 v==(v.length:Int) then(bif trim1 v==v then gd [bndS v&&[32]==[32],bndS v&&kindP 115] (bO true) else gd [bndS v&&[32]==[32],bndS v&&kindP 115] (bO false)) else gd [bndS v&&kindP 115] (bO false)) else bO false
def wH (n v:List UInt8):Option (DenL [.bool]):=
 bif decide ((n.length:Int)≥1) then(bif decide ((n.length:Int)≤30) then(bif runLN 113 n==(n.length:Int) then(bif resN n then gd [ascP n,bndS n&&kindP 113] (bO false) else gd [ascP n,bndS n&&kindP 113] (wV v)) else gd [bndS n&&kindP 113] (bO false)) else bO false) else bO false
theorem takeW_all {p:UInt8→Bool}:∀{s:List UInt8},((s.takeWhile p).length=s.length)↔s.all p=true
 |[]=>by simp
 |c::r=>by
  rw[List.takeWhile_cons,List.all_cons];cases hp:p c
  ·simp
  ·simp only[if_true,List.length_cons,Bool.true_and];rw[←takeW_all (s:=r)];omega
theorem run_all (k:Nat) (s:List UInt8):(runLN k s==(s.length:Int))=s.all (kindB k):=by
 unfold runLN;rw[Bool.eq_iff_iff,beq_iff_eq,←takeW_all];omega
theorem kind64:kindB 113=tokB:=by funext c;rfl
theorem kind66:kindB 115=prB:=by funext c;rfl
theorem tok_asc {s:List UInt8} (h:s.all tokB=true):∀c,c∈s→c.toNat<128:=fun c hc=>by
 have:=List.all_eq_true.1 h c hc;unfold tokB at this;have:=of_decide_eq_true this;omega
theorem wH_n {n v:List UInt8} (h:headPW (n,v,())=true):wH n v=some (headB (n,v,()),()):=by
 unfold headPW at h;rw[Bool.and_eq_true] at h;obtain⟨h1,h2⟩:=h;have h1:bndS n=true:=h1;have h2:bndS v=true:=h2;have k64:(bndS n&&kindP 113)=true:=by rw[h1];rfl
 have k66:(bndS v&&kindP 115)=true:=by rw[h2];rfl
 have k32:(bndS v&&[32]==[32])=true:=by rw[h2];rfl
 unfold wH headB resN;dsimp only;by_cases a1:1≤n.length
 ·by_cases a2:n.length≤30
  ·rw[cdT (show(n.length:Int)≥1 by omega),cdT (show(n.length:Int)≤30 by omega),decide_eq_true (⟨a1,a2⟩:1≤n.length∧n.length≤30),run_all,kind64];cases ht:n.all tokB
   ·rw[xF,gdB k64,xG];rfl
   ·have ha:ascP n=true:=ascP_iff.2 ⟨tok_asc ht,by omega⟩;rw[xT];cases lower n==clen
    ·rw[xF,gdB ha,gdB k64,xG];unfold wV;by_cases b1:v.length≤100
     ·rw[cdT (show(v.length:Int)≤100 by omega),decide_eq_true b1,run_all,kind66];cases v.all prB
      ·rw[xF,gdB k66,xG];rfl
      ·rw[xT];cases trim1 v==v
       ·rw[xF,gdB k32,gdB k66,xG];rfl
       ·rw[xT,gdB k32,gdB k66,xG];rfl
     ·rw[cdF (show ¬(v.length:Int)≤100 by omega),decide_eq_false b1];rfl
    ·rw[xT,gdB ha,gdB k64,xG];rfl
  ·rw[cdT (show(n.length:Int)≥1 by omega),cdF (show ¬(n.length:Int)≤30 by omega),decide_eq_false (fun h:1≤n.length∧n.length≤30=>a2 h.2)];rfl
 ·rw[cdF (show ¬(n.length:Int)≥1 by omega),decide_eq_false (fun h:1≤n.length∧n.length≤30=>a1 h.1)];rfl
noncomputable def stepI (l:List HeadDW) (b i:Int) (next:Option (DenL [.int .i64])):Option (DenL [.int .i64]):=
 bif decide (i<b) then(bif !headB (l.getD i.toNat (HeadT).dflt) then gd [headPW (l.getD i.toNat (HeadT).dflt),decide (i.toNat<l.length),decide (0≤i),decide (i<(l.length:Int))] (some (i,()))
  else gd [decide (inK .i64 (i+1)),headPW (l.getD i.toNat (HeadT).dflt),decide (i.toNat<l.length),decide (0≤i),decide (i<(l.length:Int))] next) else some ((-1:Int),())
def wAny (l:List HeadDW):Option (DenL [.bool]):=bif decide (idxHN l≥0) then gd [headsPW l] (bO true) else gd [headsPW l] (bO false)
def wMay (n:Int) (hs:List HeadDW) (b:List UInt8):Option (DenL [.bool]):=
 bif anyN hs then gd [headsPW hs] (bif !wordsN n==[] then(bif decide ((hs.length:Int)≤10) then bO false else bO false) else bO false)
 else gd [headsPW hs] (bif !wordsN n==[] then(bif decide ((hs.length:Int)≤10) then(bif decide ((b.length:Int)≤20000) then(bif n !=204 then bO true else bif b==[] then bO true else bO false) else bO false) else bO false) else bO false)
theorem anyN_eq (l:List HeadDW):decide (idxHN l≥0)=anyN l:=by
 unfold idxHN anyN;cases l.any fun h=> !headB h
 ·rfl
 ·exact decide_eq_true (by rw[xT];omega)
theorem wMay_n {n:Int} {hs:List HeadDW} {b:List UInt8} (h:headsPW hs=true):wMay n hs b=some (amayB (n,hs,b,()),()):=by
 unfold wMay amayB;dsimp only;cases anyN hs
 ·rw[xF,gdB h,xG];cases wordsN n==[]
  ·rw[Bool.not_false,xT,Bool.true_and];by_cases a1:hs.length≤10
   ·rw[cdT (show(hs.length:Int)≤10 by omega),decide_eq_true a1,Bool.true_and,Bool.true_and];by_cases a2:b.length≤20000
    ·rw[cdT (show(b.length:Int)≤20000 by omega),decide_eq_true a2,Bool.true_and];unfold bne;cases n==204
     ·rfl
     ·cases b==[]<;>rfl
    ·rw[cdF (show ¬(b.length:Int)≤20000 by omega),decide_eq_false a2];rfl
   ·rw[cdF (show ¬(hs.length:Int)≤10 by omega),decide_eq_false a1];rfl
  ·rfl
 ·rw[xT,gdB h,xG];cases wordsN n==[]
  ·cases decide ((hs.length:Int)≤10)<;>cases decide (hs.length≤10)<;>rfl
  ·rfl
end Nice
namespace Go.Proofs.YtldllfocpadkeaaGreatDoor
open Go Go.Eng Nice Go.RowKit
set_option maxRecDepth 1000000
theorem low_c:PC 152 lowAS:=pc_mk fun fz w args x hgl hr hp=>by
 obtain⟨s,⟨⟩⟩:=x;obtain⟨h1,h2⟩:=ascP_iff.1 hp;obtain⟨_,r3,e1,g1,hr1⟩:=rd_cons' rfl hr;obtain rfl:r3=[]:=hr1;cases g1;have ha:args=#[.string (bs s)]:=Array.toList_inj.1 e1;subst ha;refine(Tryz.strings_ToLower_ascii (bs s) w (by show s.length≤_;exact h2) (fun j b hb=>h1 b (List.mem_of_getElem? hb))).mono ?_
 rintro e w' ⟨rfl,hbl⟩;exact⟨[.string (bs (lower s))],by rw[←low_eq];rfl,⟨_,_,rfl,.inr ⟨rfl,rfl⟩,rfl⟩,same_of hbl⟩
noncomputable def ores (x:DenL [.str]):Option (DenL [.bool]):=fO Tryz.prog (envS [(152,lowAS)]) (shOf []) Tryz.f114 [.str] [.bool] x
theorem eres (s:List UInt8):ores (s,())=wRes s:=by kernel_rfl
theorem res_c:PC 114 resS:=(pureO (envS_ok (l:=[(152,lowAS)]) ⟨low_c,trivial⟩) gl_ne Tryz.func114 (by kernel_rfl) (by decide)).nice fun⟨s,()⟩ h=>by
 have h:ascP s=true:=h;have hl:ascP lenC=true:=by kernel_rfl
 have e:lowN lenC=clen:=by kernel_rfl
 show ores _=some (resN s,());rw[eres];unfold wRes resN;rw[e,gdB hl,gdB h,xG,gdB hl,gdB h,xG];show(bif lower s==clen then bO true else bO false)=_;cases lower s==clen<;>rfl
theorem trim_cW:PC 116 trim1S:=pc_mk fun fz w args x hgl hr hp=>by
 obtain⟨s,p,⟨⟩⟩:=x;have hp':(bndS s&&p==[32])=true:=hp;clear hp;rw[Bool.and_eq_true,beq_iff_eq] at hp';obtain⟨hl,rfl⟩:=hp';have hl:s.length≤140737488355328:=of_decide_eq_true hl;obtain⟨_,_,e1,g1,hr1⟩:=rd_cons' rfl hr;obtain⟨_,r3,rfl,g2,hr2⟩:=rd_cons' rfl hr1;obtain rfl:r3=[]:=hr2;cases g1;cases g2;have ha:args=#[.string (bs s),.string (bs [32])]:=Array.toList_inj.1 e1
 subst ha;refine(Tryz.strings_Trim_one (bs s) 32 (by decide) w (by show s.length≤_;omega)).mono ?_;rintro e w' ⟨rfl,hw⟩;refine⟨[.string (bs (trim1 s))],rfl,⟨_,_,rfl,.inr ⟨rfl,rfl⟩,rfl⟩,?_⟩;rcases hw with rfl|rfl
 ·exact⟨Nat.le_refl _,rfl,rfl,fun _ _=>rfl⟩
 ·exact⟨Nat.le_refl _,rfl,rfl,fun _ _=>rfl⟩
noncomputable def omayH (x:DenL [HeadT]):Option (DenL [.bool]):=fO Tryz.prog (envS [(112,runS),(114,resS),(116,trim1S)]) (shOf []) Tryz.f67 [HeadT] [.bool] x
theorem emayH (n v:List UInt8):omayH ((n,v,()),())=wH n v:=by kernel_rfl
theorem mayH_c:PC 67 mayHS:=(pureO (envS_ok (l:=[(112,runS),(114,resS),(116,trim1S)]) ⟨run_c,res_c,trim_cW,trivial⟩) gl_ne Tryz.func67 (by kernel_rfl) (by decide)).nice fun⟨⟨n,v,()⟩,()⟩ h=>by
 show omayH _=_;rw[emayH];exact wH_n h
noncomputable def onotH (x:DenL [HeadT]):Option (DenL [.bool]):=fO Tryz.prog (envS [(67,mayHS)]) (shOf []) Tryz.f66 [HeadT] [.bool] x
theorem enotH (h:HeadDW):onotH (h,())=(bif headB h then gd [headPW h] (bO false) else gd [headPW h] (bO true)):=by kernel_rfl
theorem notH_c:PC 66 notHS:=(pureO (envS_ok (l:=[(67,mayHS)]) ⟨mayH_c,trivial⟩) gl_ne Tryz.func66 (by kernel_rfl) (by decide)).nice fun⟨x,()⟩ h=>by
 have h:headPW x=true:=h;show onotH _=some (!headB x,());rw[enotH,gdB h,gdB h,xG,xG];cases headB x<;>rfl
abbrev shidxH:List (Nat×List (Nat×Sh)):=[(2,[(0,(.one (.dat (.pair .str (.pair .str .unit))))),(1,(.one .any)),(4,(.one .sym)),(7,(.one .sym)),(8,(.one .sym))])]
noncomputable def hidxH (n:Nat) (l:List HeadDW) (a b i:Int):Option (DenL [.int .i64]):=rH Tryz.prog (envS [(66,notHS)]) (shOf shidxH) Tryz.f111 [.int .i64] n 0 [(0,dt 10),(1,Value.func (Fn.func 66) #[] #[]),(4,sy (.int .i64 a)),(7,sy (.int .i64 b)),(8,sy (.int .i64 i))] [.dat (.pair .str (.pair .str .unit)) l]
noncomputable def oidxH (x:DenL [.slice HeadT,.fn 66]):Option (DenL [.int .i64]):=fO Tryz.prog (envS [(66,notHS)]) (shOf shidxH) Tryz.f111 [.slice HeadT,.fn 66] [.int .i64] x
theorem oidxH_g (x:DenL [.slice HeadT,.fn 66]):oidxH x=fON Tryz.prog (envS [(66,notHS)]) (shOf shidxH) Tryz.f111 [.slice HeadT,.fn 66] [.int .i64] heads0 x:=rfl
theorem eidxH_g (N:Nat) (l:List HeadDW):fON Tryz.prog (envS [(66,notHS)]) (shOf shidxH) Tryz.f111 [.slice HeadT,.fn 66] [.int .i64] N (l,(),())=hidxH N l 0 (l.length:Int) 0:=by kernel_rfl
theorem eidxH_0 (n:Nat) (l:List HeadDW) (a b i:Int):hidxH (n+1) l a b i=stepI l b i (hidxH n l a b (i+1)):=by kernel_rfl
end Go.Proofs.YtldllfocpadkeaaGreatDoor
namespace Go.Proofs.YtldllfocpadkeaaGreatDoor
open Go Go.Eng Nice Go.RowKit
set_option maxRecDepth 1000000
theorem idx_lW (l:List HeadDW) (hl:l.length≤140737488355328) (hp:∀h,h∈l→headPW h=true):∀(r i n:Nat),l.length=i+r→r<n→hidxH n l 0 (l.length:Int) (i:Int)=some ((bif (l.drop i).any (fun h=> !headB h) then(i:Int)+((l.drop i).takeWhile headB).length else -1),()):=by
 intro r
 induction r with
 |zero=>
  intro i n hi hn;obtain⟨n,rfl⟩:∃k,n=k+1:=⟨n-1,by omega⟩
  rw[eidxH_0];unfold stepI;rw[cdF (by omega),List.drop_eq_nil_of_le (by omega)];rfl
 |succ r ih=>
  intro i n hi hn;obtain⟨n,rfl⟩:∃k,n=k+1:=⟨n-1,by omega⟩
  have hlt:i<l.length:=by omega
  have hd:l.drop i=l.getD i (HeadT).dflt::l.drop (i+1):=by
   rw[List.drop_eq_getElem_cons hlt,List.getD_eq_getElem?_getD,List.getElem?_eq_getElem hlt];rfl
  have hh:headPW (l.getD i (HeadT).dflt)=true:=hp _ (by
   rw[List.getD_eq_getElem?_getD,List.getElem?_eq_getElem hlt];exact List.getElem_mem hlt)
  rw[eidxH_0];unfold stepI;rw[cdT (by omega),show(i:Int).toNat=i from rfl,hd,List.any_cons,List.takeWhile_cons];cases hb:headB (l.getD i (HeadT).dflt)
  ·rw[Bool.not_false,xT,gdB hh,gdT (by omega),gdT (by omega),gdT (by omega),xG,Bool.true_or,xT];simp
  ·have:=ih (i+1) n (by omega) (by omega);simp only[Int.natCast_add,Int.natCast_one] at this;rw[Bool.not_true,xF,gdT (inK_i64.2 ⟨by omega,by omega⟩),gdB hh,gdT (by omega),gdT (by omega),gdT (by omega),xG,this,Bool.false_or];cases(l.drop (i+1)).any fun h=> !headB h
   ·rfl
   ·simp only[xT,if_true,List.length_cons,Int.natCast_add,Int.natCast_one];congr 2;omega
theorem headsP_iff {l:List HeadDW}:headsPW l=true↔l.length≤140737488355328∧∀h,h∈l→headPW h=true:=by
 unfold headsPW;rw[Bool.and_eq_true,decide_eq_true_eq,List.all_eq_true]
theorem idxH_c:PC 111 (idxHS 66):=(pureO (sh:=shOf shidxH) (envS_ok (l:=[(66,notHS)]) ⟨notH_c,trivial⟩) gl_ne Tryz.func111 (by kernel_rfl) (by decide)).nice fun⟨l,(),()⟩ h=>by
 obtain⟨h1,h2⟩:=headsP_iff.1 h;have h1:l.length≤140737488355328:=h1;show oidxH _=some (idxHN l,());rw[oidxH_g,eidxH_g];refine Eq.trans (idx_lW l h1 h2 l.length 0 heads0 (by omega) (by unfold heads0;omega)) ?_;unfold idxHN;rw[List.drop_zero];cases l.any fun h=> !headB h
 ·rfl
 ·simp
noncomputable def oanyH (x:DenL [.slice HeadT,.fn 66]):Option (DenL [.bool]):=fO Tryz.prog (envS [(111,idxHS 66)]) (shOf []) Tryz.f65 [.slice HeadT,.fn 66] [.bool] x
theorem eanyH (l:List HeadDW):oanyH (l,(),())=wAny l:=by kernel_rfl
theorem anyH_c:PC 65 (anyS 66):=(pureO (envS_ok (l:=[(111,idxHS 66)]) ⟨idxH_c,trivial⟩) gl_ne Tryz.func65 (by kernel_rfl) (by decide)).nice fun⟨l,(),()⟩ h=>by
 have h:headsPW l=true:=h;show oanyH _=some (anyN l,());rw[eanyH];unfold wAny;rw[anyN_eq,gdB h,gdB h,xG,xG];cases anyN l<;>rfl
noncomputable def oamayW (x:DenL [AnsT]):Option (DenL [.bool]):=fO Tryz.prog (envS [(68,wordsS),(65,anyS 66)]) (shOf []) Tryz.f26 [AnsT] [.bool] x
theorem eamayW (n:Int) (hs:List HeadDW) (b:List UInt8):oamayW ((n,hs,b,()),())=wMay n hs b:=by kernel_rfl
theorem amay_cW:PC 26 amayAS:=(pureO (envS_ok (l:=[(68,wordsS),(65,anyS 66)]) ⟨words_c,anyH_c,trivial⟩) gl_ne Tryz.func26 (by kernel_rfl) (by decide)).nice fun⟨⟨n,hs,b,()⟩,()⟩ h=>by
 show oamayW _=_;rw[eamayW];exact wMay_n h
end Go.Proofs.YtldllfocpadkeaaGreatDoor
namespace Nice
open Go Go.Eng
def hdT (h:HeadDW):List UInt8:=h.1++[58,32]++h.2.1++[13,10]
theorem headB_len {h:HeadDW} (hb:headB h=true):h.1.length≤30∧h.2.1.length≤100:=by
 unfold headB at hb;simp only[Bool.and_eq_true,decide_eq_true_eq] at hb;exact⟨hb.1.1.2,hb.2.1⟩
theorem amay_len {n:Int} {hs:List HeadDW} {b:List UInt8} (h:amayB (n,hs,b,())=true):(!(wordsN n==[]))=true∧hs.length≤10∧(∀x,x∈hs→headB x=true)∧b.length≤20000:=by
 unfold amayB at h;simp only[Bool.and_eq_true,decide_eq_true_eq] at h;refine⟨h.1,h.2.1,fun x hx=> ?_,h.2.2.2.1⟩;have h3:=h.2.2.1;unfold anyN at h3;cases hb:headB x
 ·have:(hs.any fun h=> !headB h)=true:=List.any_eq_true.2 ⟨x,hx,by rw[hb];rfl⟩;rw[this] at h3;cases h3
 ·rfl
end Nice
namespace Nice
open Go Go.Eng
noncomputable def g3 (l:List UInt8) (i:Int) (r:List Bool):List Bool:=decide (i.toNat<l.length)::decide (0≤i)::decide (i<(l.length:Int))::r
end Nice
namespace Nice
open Go Go.Eng
noncomputable def step2 (v:List UInt8) (i j:Int) (nx nx0:Option (DenL [.bool])):Option (DenL [.bool]):=
 bif decide (j<(v.length:Int)) then
  (bif decide (((v.getD j.toNat 0).toNat:Int)<32) then gd [decide (0≤j),decide (j<(v.length:Int))] (bO false)
  else bif decide (((v.getD j.toNat 0).toNat:Int)>126) then gd [decide (0≤j),decide (j<(v.length:Int)),decide (0≤j),decide (j<(v.length:Int))] (bO false)
  else gd [decide (inK .i64 (j+1)),decide (0≤j),decide (j<(v.length:Int)),decide (0≤j),decide (j<(v.length:Int))] nx)
 else gd [decide (inK .i64 (i+1))] nx0
end Nice
namespace Go.Proofs.YtldllfocpadkeaaGreatDoor
open Go Go.Eng Nice Go.RowKit
set_option maxRecDepth 1000000
abbrev shrmay:List (Nat×List (Nat×Sh)):=[(4,[(1,(.obj [.sym,(.dat (.pair .str (.pair .str .unit))),.sym])),(2,(.one .sym)),(3,(.one .sym))]),(10,[(1,(.obj [.sym,(.dat (.pair .str (.pair .str .unit))),.sym])),(2,(.one .sym)),(3,(.one .sym)),(4,(.one .sym)),(5,(.one .sym)),(6,(.one .sym))]),(16,[(1,(.obj [.sym,(.dat (.pair .str (.pair .str .unit))),.sym])),(2,(.one .sym)),(3,(.one .sym)),(4,(.one .sym)),(5,(.one .sym)),(6,(.one .sym)),(8,(.one .sym))])]
noncomputable def hm0 (k:Nat) (n:Int) (hs:List HeadDW) (b:List UInt8) (q:Bool) (i:Int):Option (DenL [.bool]):=rH Tryz.prog (envS [(77,wordsS),(78,lowerS)]) (shOf shrmay) Tryz.f36 [.bool] k 0 [(1,.pointer (some ⟨11,0,none⟩)),(2,.bool q),(3,sy (.int .i64 i))] [.dat (.pair .str (.pair .str .unit)) hs,.row [sy (.int .i64 n),dt 10,sy (.string (bs b))] 51 false]
noncomputable def hm1 (k:Nat) (n:Int) (hs:List HeadDW) (b:List UInt8) (q:Bool) (i:Int) (nm v:List UInt8) (j:Int):Option (DenL [.bool]):=rH Tryz.prog (envS [(77,wordsS),(78,lowerS)]) (shOf shrmay) Tryz.f36 [.bool] k 1 [(1,.pointer (some ⟨11,0,none⟩)),(2,.bool q),(3,sy (.int .i64 i)),(4,sy (.string (bs nm))),(5,sy (.string (bs v))),(6,sy (.int .i64 j))] [.dat (.pair .str (.pair .str .unit)) hs,.row [sy (.int .i64 n),dt 10,sy (.string (bs b))] 51 false]
noncomputable def hm2 (k:Nat) (n:Int) (hs:List HeadDW) (b:List UInt8) (q:Bool) (i:Int) (nm v:List UInt8) (j l:Int):Option (DenL [.bool]):=rH Tryz.prog (envS [(77,wordsS),(78,lowerS)]) (shOf shrmay) Tryz.f36 [.bool] k 2 [(1,.pointer (some ⟨11,0,none⟩)),(2,.bool q),(3,sy (.int .i64 i)),(4,sy (.string (bs nm))),(5,sy (.string (bs v))),(6,sy (.int .i64 j)),(8,sy (.int .i64 l))] [.dat (.pair .str (.pair .str .unit)) hs,.row [sy (.int .i64 n),dt 10,sy (.string (bs b))] 51 false]
theorem em2 (k:Nat) (n:Int) (hs:List HeadDW) (b:List UInt8) (q:Bool) (i:Int) (nm v:List UInt8) (j l:Int):hm2 (k+1) n hs b q i nm v j l=step2 v i l (hm2 k n hs b q i nm v j (l+1)) (hm0 k n hs b q (i+1)):=by kernel_rfl
end Go.Proofs.YtldllfocpadkeaaGreatDoor
namespace Nice
open Go Go.Eng
def endsB (v:List UInt8):Bool:=v==[]||(!((v.getD 0 0).toNat==32)&& !((v.getD (v.length-1) 0).toNat==32))
end Nice
namespace Nice
open Go Go.Eng
theorem dw_len (p:UInt8→Bool) (l:List UInt8):(l.dropWhile p).length≤l.length:=(List.dropWhile_sublist p).length_le
theorem n32 {c:UInt8} (h:¬c=32):(c.toNat==32)=false:=beq_eq_false_iff_ne.2 fun e=>h (UInt8.toNat_inj.1 e)
theorem trim_ends (v:List UInt8):(trim1 v==v)=endsB v:=by
 unfold trim1 Lib.trimB Lib.trimLeftB Lib.trimRightB endsB;cases hr:v.reverse with
 |nil=>have:v=[]:=List.reverse_eq_nil_iff.1 hr;subst this;rfl
 |cons d m=>
  have hv:v=m.reverse++[d]:=by rw[←List.reverse_reverse v,hr,List.reverse_cons]
  have hl:v.length=m.length+1:=by rw[hv];simp
  have hd:v.getD (v.length-1) 0=d:=by
   rw[hl,hv,List.getD_eq_getElem?_getD,List.getElem?_append_right (by simp)];simp
  have hne:(v==[])=false:=by rw[hv];cases m.reverse<;>rfl
  rw[hd,hne,Bool.false_or,List.dropWhile_cons];by_cases e:d=32
  ·subst e;rw[if_pos (show((32:UInt8)==32)=true from rfl)];have hn:List.dropWhile (fun x=>x==32) (List.dropWhile (fun x=>x==32) m).reverse≠v:=fun h=>by
    have h1:=congrArg List.length h;have h2:=dw_len (fun x=>x==32) (List.dropWhile (fun x=>x==32) m).reverse;have h3:=dw_len (fun x=>x==32) m;rw[List.length_reverse] at h2;omega
   rw[beq_eq_false_iff_ne.2 hn];show false=(_&&false);rw[Bool.and_false]
  ·rw[if_neg (by rw[beq_iff_eq];exact e),n32 e,←hr,List.reverse_reverse,Bool.not_false,Bool.and_true];cases v with
   |nil=>cases hne
   |cons c r=>
    show(List.dropWhile (fun x=>x==32) (c::r)==c::r)= !(c.toNat==32);rw[List.dropWhile_cons];by_cases f:c=32
    ·subst f;rw[if_pos (show((32:UInt8)==32)=true from rfl)];have hn:List.dropWhile (fun x=>x==32) r≠32::r:=fun h=>by
      have h1:=congrArg List.length h;have h2:=dw_len (fun x=>x==32) r;rw[List.length_cons] at h1;omega
     rw[beq_eq_false_iff_ne.2 hn];rfl
    ·rw[if_neg (by rw[beq_iff_eq];exact f),n32 f,beq_self_eq_true];rfl
end Nice
namespace Nice
open Go Go.Eng
theorem digsF_decQ:∀(f n:Nat) (acc:List UInt8),n<10^f→0<f→digsF f n acc=Lib.decDigits n++acc
 |0,n,acc,_,h=>absurd h (Nat.lt_irrefl 0)
 |f+1,n,acc,h,_=>by
  rw[Lib.decDigits];unfold digsF;by_cases e:n<10
  ·rw[if_pos (by omega),dif_pos e,show n%10=n by omega];rfl
  ·have h1:n/10<10^f:=by rw[Nat.pow_succ] at h;omega
   have h2:0<f:=by
    rcases Nat.eq_zero_or_pos f with h'|h'
    ·subst h';simp at h;omega
    ·exact h'
   rw[if_neg (by omega),dif_neg e,digsF_decQ f (n/10) _ h1 h2,List.append_assoc];rfl
theorem digits_fmtQ {n:Int} (h:i64P n=true):digits n=fmtN n:=by
 unfold i64P at h;rw[Bool.and_eq_true,decide_eq_true_eq,decide_eq_true_eq] at h;unfold digits digs;show _=Lib.itoa n;unfold Lib.itoa;by_cases e:n<0
 ·rw[if_pos e,if_pos e,digsF_decQ 20 _ _ (by omega) (by omega),List.append_nil,show(-n).toNat=n.natAbs by omega]
 ·rw[if_neg e,if_neg e,digsF_decQ 20 _ _ (by omega) (by omega),List.append_nil]
end Nice
namespace Nice
open Go Go.Eng
def eqHd (x y:HeadDW):Bool:=x.1==y.1&&(x.2.1==y.2.1&&true)
def eqHs:List HeadDW→List HeadDW→Bool
 |[],[]=>true
 |x::l,y::m=>eqHd x y&&eqHs l m
 |_,_=>false
def eqAns (a b:AnsD):Bool:=a.1==b.1&&(a.2.2.1==b.2.2.1&&eqHs a.2.1 b.2.1)
def ansB (a:AnsD):Bool:=decide (a.2.1.length≤140737488355328)
noncomputable def eqAS:PSpec:=⟨[AnsT,AnsT],[.bool],fun x=>ansB x.1,fun x=>(eqAns x.1 x.2.1,())⟩
theorem eqHd_refl (x:HeadDW):eqHd x x=true:=by unfold eqHd;rw[beq_self_eq_true,beq_self_eq_true];rfl
theorem eqHs_refl:∀l:List HeadDW,eqHs l l=true
 |[]=>rfl
 |x::l=>by
  show(eqHd x x&&eqHs l l)=true;rw[eqHd_refl,eqHs_refl l];rfl
theorem eqHs_len:∀(l m:List HeadDW),l.length≠m.length→eqHs l m=false
 |[],[],h=>absurd rfl h
 |[],_::_,_=>rfl
 |_::_,[],_=>rfl
 |x::l,y::m,h=>by
  show(eqHd x y&&eqHs l m)=false;rw[eqHs_len l m (fun e=>h (by rw[List.length_cons,List.length_cons,e])),Bool.and_false]
theorem eqAns_refl (a:AnsD):eqAns a a=true:=by
 unfold eqAns;rw[beq_self_eq_true,beq_self_eq_true,eqHs_refl];rfl
noncomputable def stepE (hs ks:List HeadDW) (i:Int) (nx:BO):BO:=
 bif decide (i<(hs.length:Int)) then
  bif !eqHd (hs.getD i.toNat (HeadT).dflt) (ks.getD i.toNat (HeadT).dflt) then gd [decide (i.toNat<ks.length),decide (0≤i),decide (i<(ks.length:Int)),decide (i.toNat<hs.length),decide (0≤i),decide (i<(hs.length:Int))] (bO false)
  else gd [decide (inK .i64 (i+1)),decide (i.toNat<ks.length),decide (0≤i),decide (i<(ks.length:Int)),decide (i.toNat<hs.length),decide (0≤i),decide (i<(hs.length:Int))] nx
 else bO true
end Nice
namespace Go.Proofs.YtldllfocpadkeaaGreatDoor
open Go Go.Eng Nice Go.RowKit
set_option maxRecDepth 1000000
abbrev sheqa:List (Nat×List (Nat×Sh)):=[(4,[(2,(.obj [.sym,(.dat (.pair .str (.pair .str .unit))),.sym])),(3,(.obj [.sym,(.dat (.pair .str (.pair .str .unit))),.sym])),(4,(.one .sym)),(5,(.one .sym))])]
noncomputable def heqa (k:Nat) (n:Int) (hs:List HeadDW) (b:List UInt8) (m:Int) (ks:List HeadDW) (c:List UInt8) (t4:Bool) (i:Int):BO:=rH Tryz.prog (envS []) (shOf sheqa) Tryz.f23 [.bool] k 0 [(2,.pointer (some ⟨11,0,none⟩)),(3,.pointer (some ⟨13,0,none⟩)),(4,.bool t4),(5,sy (.int .i64 i))] [.dat (.pair .str (.pair .str .unit)) hs,.row [sy (.int .i64 n),dt 10,sy (.string (bs b))] 51 false,.dat (.pair .str (.pair .str .unit)) ks,.row [sy (.int .i64 m),dt 12,sy (.string (bs c))] 51 false]
noncomputable def oeqa (x:DenL [AnsT,AnsT]):BO:=fO Tryz.prog (envS []) (shOf sheqa) Tryz.f23 [AnsT,AnsT] [.bool] x
theorem eeqa_g (N:Nat) (n:Int) (hs:List HeadDW) (b:List UInt8) (m:Int) (ks:List HeadDW) (c:List UInt8):fON Tryz.prog (envS []) (shOf sheqa) Tryz.f23 [AnsT,AnsT] [.bool] N ((n,hs,b,()),(m,ks,c,()),())=
 (bif n !=m then bO false else bif !b==c then bO false else bif (hs.length:Int) !=(ks.length:Int) then bO false else heqa N n hs b m ks c false 0):=by kernel_rfl
theorem oeqa_g (x:DenL [AnsT,AnsT]):oeqa x=fON Tryz.prog (envS []) (shOf sheqa) Tryz.f23 [AnsT,AnsT] [.bool] heads0 x:=rfl
theorem eeqa_0 (k:Nat) (n:Int) (hs:List HeadDW) (b:List UInt8) (m:Int) (ks:List HeadDW) (c:List UInt8) (t4:Bool) (i:Int):heqa (k+1) n hs b m ks c t4 i=stepE hs ks i (heqa k n hs b m ks c t4 (i+1)):=by kernel_rfl
theorem eqa_l (n:Int) (hs:List HeadDW) (b:List UInt8) (m:Int) (ks:List HeadDW) (c:List UInt8) (t4:Bool) (hl:hs.length≤140737488355328) (he:hs.length=ks.length):∀(r i k:Nat),hs.length=i+r→r<k→heqa k n hs b m ks c t4 (i:Int)=some (eqHs (hs.drop i) (ks.drop i),()):=by
 intro r
 induction r with
 |zero=>
  intro i k hi hk;obtain⟨k,rfl⟩:∃m,k=m+1:=⟨k-1,by omega⟩
  rw[eeqa_0];unfold stepE;rw[cdF (by omega),List.drop_eq_nil_of_le (by omega),List.drop_eq_nil_of_le (by omega)];rfl
 |succ r ih=>
  intro i k hi hk;obtain⟨k,rfl⟩:∃m,k=m+1:=⟨k-1,by omega⟩
  have h1:i<hs.length:=by omega
  have h2:i<ks.length:=by omega
  have d1:hs.drop i=hs.getD i (HeadT).dflt::hs.drop (i+1):=by
   rw[List.drop_eq_getElem_cons h1,List.getD_eq_getElem?_getD,List.getElem?_eq_getElem h1];rfl
  have d2:ks.drop i=ks.getD i (HeadT).dflt::ks.drop (i+1):=by
   rw[List.drop_eq_getElem_cons h2,List.getD_eq_getElem?_getD,List.getElem?_eq_getElem h2];rfl
  have:=ih (i+1) k (by omega) (by omega);simp only[Int.natCast_add,Int.natCast_one] at this;rw[eeqa_0];unfold stepE;rw[cdT (by omega),show(i:Int).toNat=i from rfl,d1,d2];show _=some (eqHd _ _&&eqHs _ _,());cases eqHd (hs.getD i (HeadT).dflt) (ks.getD i (HeadT).dflt)
  ·rw[Bool.not_false,xT,gdT h2,gdT (by omega),gdT (by omega),gdT h1,gdT (by omega),gdT (by omega),xG];rfl
  ·rw[Bool.not_true,xF,gdT (inK_i64.2 ⟨by omega,by omega⟩),gdT h2,gdT (by omega),gdT (by omega),gdT h1,gdT (by omega),gdT (by omega),xG,this,Bool.true_and]
theorem eqa_c:PC 23 eqAS:=(pureO (sh:=shOf sheqa) (envS_ok (l:=[]) trivial) gl_ne Tryz.func23 (by kernel_rfl) (by decide)).nice fun⟨⟨n,hs,b,()⟩,⟨m,ks,c,()⟩,()⟩ h=>by
 have h:hs.length≤140737488355328:=of_decide_eq_true h;show oeqa _=some (n==m&&(b==c&&eqHs hs ks),());rw[oeqa_g,eeqa_g];unfold bne;cases n==m
 ·rfl
 ·cases b==c
  ·rfl
  ·show(bif !((hs.length:Int)==(ks.length:Int)) then bO false else heqa heads0 n hs b m ks c false 0)=some (eqHs hs ks,());by_cases he:hs.length=ks.length
   ·rw[show((hs.length:Int)==(ks.length:Int))=true from beq_iff_eq.2 (by omega),Bool.not_true,xF];exact eqa_l n hs b m ks c false h he hs.length 0 heads0 (by omega) (by unfold heads0;omega)
   ·rw[show((hs.length:Int)==(ks.length:Int))=false from beq_eq_false_iff_ne.2 (by omega),Bool.not_false,xT,eqHs_len hs ks he];rfl
end Go.Proofs.YtldllfocpadkeaaGreatDoor
