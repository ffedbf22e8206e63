/-
  Part of the proof: LawPg. No condition.
-/
import Derived.Test.YtldllfocpadkeaaGreatDoorG5
import Derived.Test.YtldllfocpadkeaaGreatDoorRow
import Derived.Test.YtldllfocpadkeaaGreatDoorBegE
namespace Nice
open Go Go.Eng
def nextA (a:AskD) (x:List UInt8):AskD:=(a.1,a.2.1,a.2.2.1,a.2.2.2.1,a.2.2.2.2.1,a.2.2.2.2.2.1,a.2.2.2.2.2.2.1,x,a.2.2.2.2.2.2.2.2.1,a.2.2.2.2.2.2.2.2.2.1,())
noncomputable def lpStep {α:Type} (l:List α) (key:α→List UInt8) (d:α) (x:List UInt8) (m i:Int) (nx ex:BO):BO:=
 bif decide (i<m) then(bif Op.bytesLess (key (l.getD i.toNat d)) x||key (l.getD i.toNat d)==x then gd (gI l i) (bO false) else gd (decide (inK .i64 (i+1))::gI l i) nx) else ex
noncomputable def lpEnd (P:ShD) (k:Int):BO:=bif (P.1.length:Int)+(P.2.1.length:Int)==k then gd [decide (inK .i64 ((P.1.length:Int)+(P.2.1.length:Int)))] (bO true) else gd [decide (inK .i64 ((P.1.length:Int)+(P.2.1.length:Int)))] (bO false)
theorem lp_l {α:Type} {l:List α} {key:α→List UInt8} {d:α} {x:List UInt8} {h:Nat→Int→BO} {ex:Nat→BO} {K:Nat} (he:∀N i,h (N+1) i=lpStep l key d x (l.length:Int) i (h N (i+1)) (ex N)) (hl:l.length≤1000) (hx:∀e,e∈l→(Op.bytesLess (key e) x||key e==x)=false) {b:Bool} (hex:∀N,K<N→ex N=bO b):
  ∀(r i N:Nat),l.length=i+r→r+K+1<N→h N (i:Int)=bO b:=by
 intro r
 induction r with
 |zero=>
  intro i N hi hN;obtain⟨N,rfl⟩:∃k,N=k+1:=⟨N-1,by omega⟩
  rw[he];unfold lpStep;rw[cdF (by omega),hex N (by omega)]
 |succ r ih=>
  intro i N hi hN;obtain⟨N,rfl⟩:∃k,N=k+1:=⟨N-1,by omega⟩
  have hlt:i<l.length:=by omega
  have:=ih (i+1) N (by omega) (by omega);simp only[Int.natCast_add,Int.natCast_one] at this;have hm:l.getD (i:Int).toNat d∈l:=by
   show l.getD i d∈l;rw[List.getD_eq_getElem?_getD,List.getElem?_eq_getElem hlt];exact List.getElem_mem hlt
  rw[he];unfold lpStep;rw[cdT (by omega),hx _ hm,xF,gdT (inK_i64.2 ⟨by omega,by omega⟩)];unfold gI;rw[gdT (by omega),gdT (by omega),gdT (by omega),xG];exact this
theorem page_after {s:StD} {p f:List UInt8} {k:Int} {b:Bool} {e:EntD} (h:e∈pageL s p f k b):(Op.bytesLess e.1 f||e.1==f)=false:=by
 have h1:e∈selL s p f b:=List.mem_of_mem_take h;have h2:=(List.mem_filter.1 h1).2;unfold selP at h2;simp only[Bool.and_eq_true,Bool.not_eq_true'] at h2;exact h2.2.1
theorem leaf_after {s:StD} {a:AskD}:(∀x,x∈(leafN s a).1→(Op.bytesLess x a.2.2.2.2.2.2.2.1||x==a.2.2.2.2.2.2.2.1)=false)∧(∀e,e∈(leafN s a).2.1→(Op.bytesLess e.1 a.2.2.2.2.2.2.2.1||e.1==a.2.2.2.2.2.2.2.1)=false)∧(leafN s a).1.length≤20∧(leafN s a).2.1.length≤20:=by
 have z:(∀x,x∈zSh.1→(Op.bytesLess x a.2.2.2.2.2.2.2.1||x==a.2.2.2.2.2.2.2.1)=false)∧(∀e,e∈zSh.2.1→(Op.bytesLess e.1 a.2.2.2.2.2.2.2.1||e.1==a.2.2.2.2.2.2.2.1)=false)∧zSh.1.length≤20∧zSh.2.1.length≤20:=
  ⟨(fun x h=>by cases h),(fun x h=>by cases h),(by decide),(by decide)⟩
 unfold leafN leafB;cases bmayN s
 ·exact z
 cases mayN a
 ·exact z
 cases a.1==4
 ·cases a.1==5
  ·exact z
  ·exact⟨(fun x h=>by cases h),(fun e h=>page_after h),(by show 0≤20;omega),page_len⟩
 ·refine⟨fun x h=> ?_,(fun x h=>by cases h),?_,(by show 0≤20;omega)⟩
  ·have h:x∈(pageL s a.2.2.2.2.2.2.1 a.2.2.2.2.2.2.2.1 a.2.2.2.2.2.2.2.2.1 true).map (·.1):=h;obtain⟨e,he,rfl⟩:=List.mem_map.1 h;exact page_after he
  ·show((pageL s a.2.2.2.2.2.2.1 a.2.2.2.2.2.2.2.1 a.2.2.2.2.2.2.2.2.1 true).map (·.1)).length≤20;rw[List.length_map];exact page_len
theorem leaf_more {s:StD} {a:AskD} (h:(leafN s a).2.2.1=true):((leafN s a).1.length:Int)+((leafN s a).2.1.length:Int)=mostN a.2.2.2.2.2.2.2.2.1∧(leafN s a).2.2.2.1.length≤40:=by
 unfold leafN leafB at h⊢;have zf:∀{c:Prop},zSh.2.2.1=true→c:=fun h=>by cases h
 revert h
 cases hb:bmayN s
 ·exact fun h=>zf h
 cases mayN a
 ·exact fun h=>zf h
 have hp:=bmay_page hb;have key:∀e,e∈s.2.1→e.1.length≤40:=fun e he=>by
  obtain⟨i,hi,rfl⟩:=List.getElem_of_mem he;have hb':=hb;unfold bmayN at hb';simp only[Bool.and_eq_true,decide_eq_true_eq] at hb';have:=allFr_iff.1 hb'.2.2.2.2.1 i (Nat.zero_le _) (by omega);unfold bEnt at this;rw[Bool.and_eq_true] at this;have e1:entAt s.2.1 i=s.2.1[i]:=by
   unfold entAt;rw[List.getD_eq_getElem?_getD,List.getElem?_eq_getElem hi];rfl
  exact isKey_bnd (entB_key (e1▸this.1))
 have kp:∀{p f k b} e,e∈pageL s p f k b→e.1.length≤40:=fun e he=>key e (List.mem_filter.1 (List.mem_of_mem_take he)).1
 have m1:=most_pos a.2.2.2.2.2.2.2.2.1;cases a.1==4
 ·cases a.1==5
  ·exact fun h=>zf h
  ·intro h;have h:pageM s a.2.2.2.2.2.2.1 a.2.2.2.2.2.2.2.1 a.2.2.2.2.2.2.2.2.1 false=true:=h;have h1:=page_more h;refine⟨?_,?_⟩
   ·show((0:Nat):Int)+((pageL s a.2.2.2.2.2.2.1 a.2.2.2.2.2.2.2.1 a.2.2.2.2.2.2.2.2.1 false).length:Int)=_;omega
   ·show(bif pageM s a.2.2.2.2.2.2.1 a.2.2.2.2.2.2.2.1 a.2.2.2.2.2.2.2.2.1 false then(entAt (pageL s a.2.2.2.2.2.2.1 a.2.2.2.2.2.2.2.1 a.2.2.2.2.2.2.2.2.1 false) _).1 else []).length≤40;rw[h,xT];refine kp (p:=a.2.2.2.2.2.2.1) (f:=a.2.2.2.2.2.2.2.1) (k:=a.2.2.2.2.2.2.2.2.1) (b:=false) _ ?_;unfold entAt;rw[List.getD_eq_getElem?_getD,List.getElem?_eq_getElem (by omega)]
    exact List.getElem_mem _
 ·intro h;have h:pageM s a.2.2.2.2.2.2.1 a.2.2.2.2.2.2.2.1 a.2.2.2.2.2.2.2.2.1 true=true:=h;have h1:=page_more h;have hl:(namesL s a.2.2.2.2.2.2.1 a.2.2.2.2.2.2.2.1 a.2.2.2.2.2.2.2.2.1 true).length=(pageL s a.2.2.2.2.2.2.1 a.2.2.2.2.2.2.2.1 a.2.2.2.2.2.2.2.2.1 true).length:=by unfold namesL;rw[List.length_map]
  refine⟨?_,?_⟩
  ·show((namesL s a.2.2.2.2.2.2.1 a.2.2.2.2.2.2.2.1 a.2.2.2.2.2.2.2.2.1 true).length:Int)+((0:Nat):Int)=_;omega
  ·show(bif pageM s a.2.2.2.2.2.2.1 a.2.2.2.2.2.2.2.1 a.2.2.2.2.2.2.2.2.1 true then lastN (namesL s a.2.2.2.2.2.2.1 a.2.2.2.2.2.2.2.1 a.2.2.2.2.2.2.2.2.1 true) else []).length≤40;rw[h,xT];unfold lastN;rw[List.getD_eq_getElem?_getD,List.getElem?_eq_getElem (by omega)];have hm:∀x,x∈namesL s a.2.2.2.2.2.2.1 a.2.2.2.2.2.2.2.1 a.2.2.2.2.2.2.2.2.1 true→x.length≤40:=fun x hx=>by
    unfold namesL at hx;obtain⟨e,he,rfl⟩:=List.mem_map.1 hx;exact kp _ he
   exact hm _ (List.getElem_mem _)
theorem leaf_last {s:StD} {a:AskD} (h:(leafN s a).2.2.1=false):(leafN s a).2.2.2.1=[]:=by
 unfold leafN leafB at h⊢
 revert h
 cases bmayN s
 ·exact fun _=>rfl
 cases mayN a
 ·exact fun _=>rfl
 cases a.1==4
 ·cases a.1==5
  ·exact fun _=>rfl
  ·intro h;have h:pageM s a.2.2.2.2.2.2.1 a.2.2.2.2.2.2.2.1 a.2.2.2.2.2.2.2.2.1 false=false:=h;show(bif pageM s a.2.2.2.2.2.2.1 a.2.2.2.2.2.2.2.1 a.2.2.2.2.2.2.2.2.1 false then _ else [])=_;rw[h];rfl
 ·intro h;have h:pageM s a.2.2.2.2.2.2.1 a.2.2.2.2.2.2.2.1 a.2.2.2.2.2.2.2.2.1 true=false:=h;show(bif pageM s a.2.2.2.2.2.2.1 a.2.2.2.2.2.2.2.1 a.2.2.2.2.2.2.2.2.1 true then _ else [])=_;rw[h];rfl
theorem mayL_max {a:AskD} (hk:isL a.1=true) (h:mayN a=true):mostN a.2.2.2.2.2.2.2.2.1=a.2.2.2.2.2.2.2.2.1:=by
 unfold mayN at h;rw[hk,xT] at h;unfold mayL at h;simp only[Bool.and_eq_true,decide_eq_true_eq] at h;unfold mostN;omega
noncomputable def lpTwo (s1 s2:StD) (A:AskD) (h0:ShD→ShD→BO):BO:=
 bif mayN A then gd [leafP s1 A,askP A] (bif (leafN s1 A).2.2.1 then gd [leafP s2 (nextA A (leafN s1 A).2.2.2.1)] (h0 (leafN s1 A) (leafN s2 (nextA A (leafN s1 A).2.2.2.1))) else bif (leafN s1 A).2.2.2.1==[] then bO true else bO false) else gd [askP A] (bO true)
noncomputable def lpB (s1 s2:StD) (A:AskD) (h0:ShD→ShD→BO):BO:=bif A.1 !=4 then(bif A.1 !=5 then bO true else lpTwo s1 s2 A h0) else lpTwo s1 s2 A h0
theorem lcut0 (s:List UInt8) (n:Nat):(cut s (n:Int)).length≤n:=by unfold cut;rw[List.length_take];omega
theorem acut_askP (a:AskD) (h1:i64P a.2.2.1=true) (h2:i64P a.2.2.2.2.2.2.2.2.1=true):askP (acutN a)=true:=by
 have l1:(cut a.2.1 42).length≤42:=lcut0 a.2.1 42;have l2:(cut a.2.2.2.1 302).length≤302:=lcut0 a.2.2.2.1 302;have l3:(cut a.2.2.2.2.2.1 10).length≤10:=lcut0 a.2.2.2.2.2.1 10;have l4:(cut a.2.2.2.2.2.2.1 42).length≤42:=lcut0 a.2.2.2.2.2.2.1 42;have l5:(cut a.2.2.2.2.2.2.2.1 42).length≤42:=lcut0 a.2.2.2.2.2.2.2.1 42
 unfold askP qryP sh1 acutN;dsimp only;rw[decide_eq_true (by omega:(cut a.2.1 42).length≤1000),decide_eq_true (by omega:(cut a.2.2.2.1 302).length≤1000),decide_eq_true (by omega:(cut a.2.2.2.2.2.1 10).length≤1000),decide_eq_true (by omega:(cut a.2.2.2.2.2.2.1 42).length≤1000),decide_eq_true (by omega:(cut a.2.2.2.2.2.2.2.1 42).length≤1000),h1,h2];rfl
theorem next_askP {a:AskD} {x:List UInt8} (h:askP a=true) (hx:x.length≤1000):askP (nextA a x)=true:=by
 unfold askP qryP sh1 at *;simp only[Bool.and_eq_true,decide_eq_true_eq] at h;unfold nextA;dsimp only;rw[decide_eq_true h.1.1,decide_eq_true h.1.2.1,decide_eq_true h.1.2.2.1,h.1.2.2.2,decide_eq_true h.2.1,decide_eq_true hx,h.2.2.2];rfl
theorem lpB_n {s1 s2:StD} {A:AskD} {h0:ShD→ShD→BO} (hA:askP A=true) (b1:bmayP s1=true) (b2:bmayP s2=true)
  (hh:∀(P Q:ShD) (x:List UInt8),(∀y,y∈Q.1→(Op.bytesLess y P.2.2.2.1||y==P.2.2.2.1)=false)→(∀e,e∈Q.2.1→(Op.bytesLess e.1 P.2.2.2.1||e.1==P.2.2.2.1)=false)→Q.1.length≤20→Q.2.1.length≤20→P.1.length≤20→P.2.1.length≤20→(P.1.length:Int)+(P.2.1.length:Int)=A.2.2.2.2.2.2.2.2.1→h0 P Q=bO true):lpB s1 s2 A h0=bO true:=by
 have two:isL A.1=true→lpTwo s1 s2 A h0=bO true:=fun hk=>by
  unfold lpTwo;cases hm:mayN A
  ·rw[xF,gdB hA,xG]
  rw[xT,gdB (show leafP s1 A=true by unfold leafP;rw[b1,hA];rfl),gdB hA,xG];cases hg:(leafN s1 A).2.2.1
  ·rw[xF,leaf_last hg];rfl
  ·obtain⟨m1,m2⟩:=leaf_more hg;obtain⟨-, -,p1,p2⟩:=leaf_after (s:=s1) (a:=A);obtain⟨q1,q2,q3,q4⟩:=leaf_after (s:=s2) (a:=nextA A (leafN s1 A).2.2.2.1);rw[xT,gdB (show leafP s2 _=true by unfold leafP;rw[b2,next_askP hA (by omega)];rfl),xG];exact hh _ _ [] q1 q2 q3 q4 p1 p2 (m1.trans (mayL_max hk hm))
 unfold lpB;by_cases h4:A.1=4
 ·rw[show(A.1 !=4)=false from by rw[bne_eq_false_iff_eq];exact h4,xF];exact two (by unfold isL;rw[h4];rfl)
 ·rw[show(A.1 !=4)=true from bne_iff_ne.2 h4,xT];by_cases h5:A.1=5
  ·rw[show(A.1 !=5)=false from by rw[bne_eq_false_iff_eq];exact h5,xF];exact two (by unfold isL;rw[h5];rfl)
  ·rw[show(A.1 !=5)=true from bne_iff_ne.2 h5,xT]
end Nice
namespace Go.Proofs.YtldllfocpadkeaaGreatDoor
open Go Go.Eng Nice
set_option maxRecDepth 1000000
theorem begun19_c:PC 12 trueS:=pure_true begun19_run
abbrev shLP:List (Nat×List (Nat×Sh)):=[(14,[(5,(.obj [.sym,.sym,.sym,.sym,.sym,.sym,.sym,.sym,.sym,.sym])),(6,(.one .sym)),(8,(.obj [(.dat .str),(.dat EntT),.sym,.sym])),(10,(.obj [(.dat .str),(.dat EntT),.sym,.sym])),(49,(.one .sym)),(50,(.one .sym))]),(20,[(5,(.obj [.sym,.sym,.sym,.sym,.sym,.sym,.sym,.sym,.sym,.sym])),(6,(.one .sym)),(8,(.obj [(.dat .str),(.dat EntT),.sym,.sym])),(10,(.obj [(.dat .str),(.dat EntT),.sym,.sym])),(64,(.one .sym)),(65,(.one .sym))])]
noncomputable abbrev enLP:Eng.Env:=envS [(12,trueS),(14,acutS),(17,mayDS),(16,leafS)]
abbrev rowA (a:AskD):AO:=.row [sy (.int .i64 a.1),sy (.string (bs a.2.1)),sy (.int .i64 a.2.2.1),sy (.string (bs a.2.2.2.1)),sy (.int .i64 a.2.2.2.2.1),sy (.string (bs a.2.2.2.2.2.1)),sy (.string (bs a.2.2.2.2.2.2.1)),sy (.string (bs a.2.2.2.2.2.2.2.1)),sy (.int .i64 a.2.2.2.2.2.2.2.2.1),.bool a.2.2.2.2.2.2.2.2.2.1] 28 false
abbrev objsLP (A:AskD) (n:List (List UInt8)) (l:List EntD) (g:Bool) (x:List UInt8) (n2:List (List UInt8)) (l2:List EntD) (g2:Bool) (x2:List UInt8):List AO:=[rowA A,.dat .str n,.dat EntT l,.row [dt 11,dt 12,.bool g,sy (.string (bs x))] 35 false,.dat .str n2,.dat EntT l2,.row [dt 14,dt 15,.bool g2,sy (.string (bs x2))] 35 false]
noncomputable def hlp0 (N:Nat) (A:AskD) (P Q:ShD) (m i:Int):BO:=rH Tryz.prog enLP (shOf shLP) Tryz.f6 [.bool] N 0 [(5,.pointer (some ⟨10,0,none⟩)),(6,.bool false),(8,.pointer (some ⟨13,0,none⟩)),(10,.pointer (some ⟨16,0,none⟩)),(49,sy (.int .i64 m)),(50,sy (.int .i64 i))] (objsLP A P.1 P.2.1 P.2.2.1 P.2.2.2.1 Q.1 Q.2.1 Q.2.2.1 Q.2.2.2.1)
noncomputable def hlp1 (N:Nat) (A:AskD) (P Q:ShD) (m i:Int):BO:=rH Tryz.prog enLP (shOf shLP) Tryz.f6 [.bool] N 1 [(5,.pointer (some ⟨10,0,none⟩)),(6,.bool false),(8,.pointer (some ⟨13,0,none⟩)),(10,.pointer (some ⟨16,0,none⟩)),(64,sy (.int .i64 m)),(65,sy (.int .i64 i))] (objsLP A P.1 P.2.1 P.2.2.1 P.2.2.2.1 Q.1 Q.2.1 Q.2.2.1 Q.2.2.2.1)
noncomputable def olp (x:DenL [StT,StT,AskT]):BO:=fO Tryz.prog enLP (shOf shLP) Tryz.f6 [StT,StT,AskT] [.bool] x
theorem olp_g (x:DenL [StT,StT,AskT]):olp x=fON Tryz.prog enLP (shOf shLP) Tryz.f6 [StT,StT,AskT] [.bool] heads0 x:=rfl
theorem elp_g (N:Nat) (q:Int) (l:List EntD) (m:List MemoD) (a b c d e:Int) (q2:Int) (l2:List EntD) (m2:List MemoD) (a2 b2 c2 d2 e2:Int) (kd:Int) (key:List UInt8) (v:Int) (bo:List UInt8) (co:Int) (t p f:List UInt8) (mx:Int) (ba:Bool):
 fON Tryz.prog enLP (shOf shLP) Tryz.f6 [StT,StT,AskT] [.bool] N ((q,l,m,(a,b,c,d,e,()),()),(q2,l2,m2,(a2,b2,c2,d2,e2,()),()),(kd,key,v,bo,co,t,p,f,mx,ba,()),())=
 lpB (q,l,m,(a,b,c,d,e,()),()) (q2,l2,m2,(a2,b2,c2,d2,e2,()),()) (acutN (kd,key,v,bo,co,t,p,f,mx,ba,())) (fun P Q=>hlp0 N (acutN (kd,key,v,bo,co,t,p,f,mx,ba,())) P Q (Q.1.length:Int) 0):=by kernel_rfl
theorem elp_0 (N:Nat) (A:AskD) (P Q:ShD) (m i:Int):hlp0 (N+1) A P Q m i=lpStep Q.1 id Ty.str.dflt P.2.2.2.1 m i (hlp0 N A P Q m (i+1)) (hlp1 N A P Q (Q.2.1.length:Int) 0):=by kernel_rfl
theorem elp_1 (N:Nat) (A:AskD) (P Q:ShD) (m i:Int):hlp1 (N+1) A P Q m i=lpStep Q.2.1 (fun e=>e.1) (EntT).dflt P.2.2.2.1 m i (hlp1 N A P Q m (i+1)) (lpEnd P A.2.2.2.2.2.2.2.2.1):=by kernel_rfl
theorem lp_n {s1 s2:StD} {a:AskD} (h1:bmayP s1=true) (h2:bmayP s2=true) (h3:i64P a.2.2.1=true) (h4:i64P a.2.2.2.2.2.2.2.2.1=true):olp (s1,s2,a,())=some (true,()):=by
 obtain⟨q,l,m,⟨a0,b0,c0,d0,e0,⟨⟩⟩,⟨⟩⟩:=s1;obtain⟨q2,l2,m2,⟨a2,b2,c2,d2,e2,⟨⟩⟩,⟨⟩⟩:=s2;obtain⟨kd,key,v,bo,co,t,p,f,mx,ba,⟨⟩⟩:=a;rw[olp_g,elp_g];refine lpB_n (acut_askP _ h3 h4) h1 h2 fun P Q _ g1 g2 g3 g4 g5 g6 g7=> ?_
 refine lp_l (K:=30) (l:=Q.1) (key:=id) (h:=fun N i=>hlp0 N _ P Q (Q.1.length:Int) i) (ex:=fun N=>hlp1 N _ P Q (Q.2.1.length:Int) 0) (fun N i=>elp_0 N _ P Q _ i) (by omega) g1 (fun N hN=> ?_) Q.1.length 0 heads0 (by omega) (Nat.lt_of_le_of_lt (Nat.add_le_add_right (Nat.add_le_add_right g3 30) 1) (by unfold heads0;omega))
 refine lp_l (K:=0) (l:=Q.2.1) (key:=fun e=>e.1) (h:=fun N i=>hlp1 N _ P Q (Q.2.1.length:Int) i) (ex:=fun _=>lpEnd P _) (fun N i=>elp_1 N _ P Q _ i) (by omega) g2 (fun N hN=> ?_) Q.2.1.length 0 N (by omega) (by omega);unfold lpEnd;rw[show((P.1.length:Int)+(P.2.1.length:Int)==_)=true from beq_iff_eq.2 g7,xT,gdT (inK_i64.2 ⟨by omega,by omega⟩),xG]
theorem lp_c:PC 6 (ofO [StT,StT,AskT] [.bool] olp):=pureO (sh:=shOf shLP) (envS_ok (l:=[(12,trueS),(14,acutS),(17,mayDS),(16,leafS)]) ⟨begun19_c,acut_c,am_c,leaf_c,trivial⟩) gl_ne Tryz.func6 (by kernel_rfl) (by decide)
theorem ents_bd {l:List EntD} (h:∀x,x∈l→Bd EntT x):l.all entP=true:=List.all_eq_true.2 fun e he=>by
 have:=h e he;have h1:e.1.length≤reach:=this.1;have h2:e.2.1.length≤reach:=this.2.1.1;unfold entP bndS;rw[Bool.and_eq_true,decide_eq_true_eq,decide_eq_true_eq];exact⟨h1,h2⟩
theorem i64_bd {n:Int} (h:inK .i64 n):i64P n=true:=by
 have:=inK_i64.1 h;unfold i64P;rw[Bool.and_eq_true,decide_eq_true_eq,decide_eq_true_eq];exact this
theorem lawPg_run {w:World} (hgl:GlW glC w) {args:Array Value} {x:DenL [StT,StT,AskT]} (hx:RdAll (fzW w) [StT,StT,AskT] x args.toList) (hb:BdL [StT,StT,AskT] x):Calls Tryz.prog 6 args w fun e w'=>e=.returned (.bool true)∧Same w w':=
 law_calls lp_c (fun x hb=>by
  obtain⟨s1,s2,a,⟨⟩⟩:=x;have:=lp_n (s1:=s1) (s2:=s2) (a:=a) (ents_bd hb.1.2.1.2) (ents_bd hb.2.1.2.1.2) (i64_bd hb.2.2.1.2.2.1) (i64_bd hb.2.2.1.2.2.2.2.2.2.2.2.1);exact⟨by show(olp (s1,s2,a,())).isSome=true;rw[this];rfl,by show(olp (s1,s2,a,())).getD _=_;rw[this];rfl⟩) hgl hx hb
end Go.Proofs.YtldllfocpadkeaaGreatDoor
