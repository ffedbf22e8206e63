/-
  Part of the proof: ShW ShR ShX ShY BkR BkS LawLA. No condition.
-/
import Derived.Test.YtldllfocpadkeaaGreatDoorG7
import Derived.Test.YtldllfocpadkeaaGreatDoorG6
namespace Nice
open Go Go.Eng
theorem gI_ok {α β:Type} {l:List α} {i:Nat} (h:i<l.length) (q:List Bool) (y:Option β):gd (gI l (i:Int)++q) y=gd q y:=by
 unfold gI;simp only[List.cons_append,List.nil_append];rw[show(i:Int).toNat=i from rfl,gdT h,gdT (by omega),gdT (by omega)]
theorem gI_ok0 {α β:Type} {l:List α} {i:Nat} (h:i<l.length) (y:Option β):gd (gI l (i:Int)) y=y:=by
 have:=gI_ok h [] y;rw[List.append_nil,xG] at this;exact this
end Nice
namespace Nice
open Go Go.Eng
def eqV (x y:VerD):Bool:=x.1==y.1&&x.2.1==y.2.1
def eqVs:List VerD→List VerD→Bool
 |[],[]=>true
 |x::a,y::b=>eqV x y&&eqVs a b
 |_,_=>false
def eqEn (x y:EntD):Bool:=x.1==y.1&&eqVs x.2.1 y.2.1
def eqEs:List EntD→List EntD→Bool
 |[],[]=>true
 |x::a,y::b=>eqEn x y&&eqEs a b
 |_,_=>false
theorem eqVs_cons (x y:VerD) (a b:List VerD):eqVs (x::a) (y::b)=(eqV x y&&eqVs a b):=rfl
theorem eqEs_cons (x y:EntD) (a b:List EntD):eqEs (x::a) (y::b)=(eqEn x y&&eqEs a b):=rfl
theorem eqVs_len:∀(a b:List VerD),a.length≠b.length→eqVs a b=false
 |[],[],h=>absurd rfl h
 |[],_::_,_=>rfl
 |_::_,[],_=>rfl
 |x::a,y::b,h=>by rw[eqVs_cons,eqVs_len a b (by simpa using h),Bool.and_false]
theorem eqEs_len:∀(a b:List EntD),a.length≠b.length→eqEs a b=false
 |[],[],h=>absurd rfl h
 |[],_::_,_=>rfl
 |_::_,[],_=>rfl
 |x::a,y::b,h=>by rw[eqEs_cons,eqEs_len a b (by simpa using h),Bool.and_false]
def eqShN (a b:ShD):Bool:=a.1==b.1&&(eqEs a.2.1 b.2.1&&(a.2.2.1==b.2.2.1&&a.2.2.2.1==b.2.2.2.1))
def eqShP (a:ShD):Bool:=decide (a.1.length≤1099511627776)&&(decide (a.2.1.length≤1099511627776)&&a.2.1.all fun e=>decide (e.2.1.length≤1099511627776))
noncomputable def eqShS:PSpec:=⟨[ShT,ShT],[.bool],fun x=>eqShP x.1,fun x=>(eqShN x.1 x.2.1,())⟩
noncomputable def begQ (a b:ShD) (nx:BO):BO:=bif (a.1.length:Int) !=(b.1.length:Int) then bO false else bif (a.2.1.length:Int) !=(b.2.1.length:Int) then bO false else nx
noncomputable def stepQ0 (n n2:List (List UInt8)) (i:Int) (nx ex:BO):BO:=
 bif decide (i<(n.length:Int)) then(bif !n.getD i.toNat Ty.str.dflt==n2.getD i.toNat Ty.str.dflt then gd (gI n2 i++gI n i) (bO false) else gd (decide (inK .i64 (i+1))::(gI n2 i++gI n i)) nx) else ex
noncomputable def stepQ1 (l l2:List EntD) (i:Int) (nx:List UInt8→List VerD→List UInt8→List VerD→BO):BO:=
 bif decide (i<(l.length:Int)) then gd (gI l2 i++gI l i) (bif !(l.getD i.toNat (EntT).dflt).1==(l2.getD i.toNat (EntT).dflt).1 then bO false else bif ((l.getD i.toNat (EntT).dflt).2.1.length:Int) !=((l2.getD i.toNat (EntT).dflt).2.1.length:Int) then bO false else nx (l.getD i.toNat (EntT).dflt).1 (l.getD i.toNat (EntT).dflt).2.1 (l2.getD i.toNat (EntT).dflt).1 (l2.getD i.toNat (EntT).dflt).2.1) else bO true
noncomputable def stepQ2 (v v2:List VerD) (i j:Int) (nx ex:BO):BO:=
 bif decide (j<(v.length:Int)) then(bif (v.getD j.toNat (VerT).dflt).1 !=(v2.getD j.toNat (VerT).dflt).1 then gd (gI v2 j++gI v j) (bO false)
  else bif (v.getD j.toNat (VerT).dflt).2.1 then(bif (v2.getD j.toNat (VerT).dflt).2.1 then gd (decide (inK .i64 (j+1))::(gI v2 j++(gI v j++(gI v2 j++gI v j)))) nx else gd (gI v2 j++(gI v j++(gI v2 j++gI v j))) (bO false))
  else(bif (v2.getD j.toNat (VerT).dflt).2.1 then gd (gI v2 j++(gI v j++(gI v2 j++gI v j))) (bO false) else gd (decide (inK .i64 (j+1))::(gI v2 j++(gI v j++(gI v2 j++gI v j)))) nx))
 else gd [decide (inK .i64 (i+1))] ex
theorem begQ_n {a b:ShD} {c:Bool} {nx:BO} (h:a.1.length=b.1.length→a.2.1.length=b.2.1.length→nx=bO (a.1==b.1&&(eqEs a.2.1 b.2.1&&c))):begQ a b nx=bO (a.1==b.1&&(eqEs a.2.1 b.2.1&&c)):=by
 unfold begQ;by_cases h1:a.1.length=b.1.length
 ·rw[show((a.1.length:Int) !=(b.1.length:Int))=false from by rw[bne_eq_false_iff_eq];omega,xF];by_cases h2:a.2.1.length=b.2.1.length
  ·rw[show((a.2.1.length:Int) !=(b.2.1.length:Int))=false from by rw[bne_eq_false_iff_eq];omega,xF,h h1 h2]
  ·rw[show((a.2.1.length:Int) !=(b.2.1.length:Int))=true from by rw[bne_iff_ne];omega,xT,eqEs_len _ _ h2,Bool.false_and,Bool.and_false]
 ·have:(a.1==b.1)=false:=by
   rw[beq_eq_false_iff_ne];intro e;exact h1 (congrArg List.length e)
  rw[show((a.1.length:Int) !=(b.1.length:Int))=true from by rw[bne_iff_ne];omega,xT,this,Bool.false_and]
end Nice
namespace Go.Proofs.YtldllfocpadkeaaGreatDoor
open Go Go.Eng Nice Go.RowKit
set_option maxRecDepth 1000000
abbrev shq:List (Nat×List (Nat×Sh)):=[(4,[(2,(.obj [(.dat .str),(.dat EntT),.sym,.sym])),(3,(.obj [(.dat .str),(.dat EntT),.sym,.sym])),(4,(.one .sym)),(5,(.one .sym))]),(9,[(2,(.obj [(.dat .str),(.dat EntT),.sym,.sym])),(3,(.obj [(.dat .str),(.dat EntT),.sym,.sym])),(4,(.one .sym)),(6,(.one .sym))]),(15,[(2,(.obj [(.dat .str),(.dat EntT),.sym,.sym])),(3,(.obj [(.dat .str),(.dat EntT),.sym,.sym])),(4,(.one .sym)),(6,(.one .sym)),(7,(.obj [.sym,(.dat VerT)])),(8,(.obj [.sym,(.dat VerT)])),(9,(.one .sym))])]
noncomputable def hq0 (N:Nat) (n:List (List UInt8)) (l:List EntD) (b:Bool) (x x2:List UInt8) (n2:List (List UInt8)) (l2:List EntD) (i:Int):BO:=rH Tryz.prog (envS []) (shOf shq) Tryz.f18 [.bool] N 0 [(2,.pointer (some ⟨12,0,none⟩)),(3,.pointer (some ⟨15,0,none⟩)),(4,.bool false),(5,sy (.int .i64 i))] [.dat .str n,.dat EntT l,.row [dt 10,dt 11,.bool b,sy (.string (bs x))] 35 false,.dat .str n2,.dat EntT l2,.row [dt 13,dt 14,.bool b,sy (.string (bs x2))] 39 false]
noncomputable def hq1 (N:Nat) (n:List (List UInt8)) (l:List EntD) (b:Bool) (x x2:List UInt8) (n2:List (List UInt8)) (l2:List EntD) (i:Int):BO:=rH Tryz.prog (envS []) (shOf shq) Tryz.f18 [.bool] N 1 [(2,.pointer (some ⟨12,0,none⟩)),(3,.pointer (some ⟨15,0,none⟩)),(4,.bool false),(6,sy (.int .i64 i))] [.dat .str n,.dat EntT l,.row [dt 10,dt 11,.bool b,sy (.string (bs x))] 35 false,.dat .str n2,.dat EntT l2,.row [dt 13,dt 14,.bool b,sy (.string (bs x2))] 39 false]
noncomputable def hq2 (N:Nat) (n:List (List UInt8)) (l:List EntD) (b:Bool) (x x2:List UInt8) (n2:List (List UInt8)) (l2:List EntD) (i:Int) (k:List UInt8) (v:List VerD) (k2:List UInt8) (v2:List VerD) (j:Int):BO:=rH Tryz.prog (envS []) (shOf shq) Tryz.f18 [.bool] N 2 [(2,.pointer (some ⟨12,0,none⟩)),(3,.pointer (some ⟨15,0,none⟩)),(4,.bool false),(6,sy (.int .i64 i)),(7,.pointer (some ⟨17,0,none⟩)),(8,.pointer (some ⟨19,0,none⟩)),(9,sy (.int .i64 j))] [.dat .str n,.dat EntT l,.row [dt 10,dt 11,.bool b,sy (.string (bs x))] 35 false,.dat .str n2,.dat EntT l2,.row [dt 13,dt 14,.bool b,sy (.string (bs x2))] 39 false,.dat VerT v,.row [sy (.string (bs k)),dt 16] 44 false,.dat VerT v2,.row [sy (.string (bs k2)),dt 18] 44 false]
noncomputable def oq (x:DenL [ShT,ShT]):BO:=fO Tryz.prog (envS []) (shOf shq) Tryz.f18 [ShT,ShT] [.bool] x
theorem oq_g (x:DenL [ShT,ShT]):oq x=fON Tryz.prog (envS []) (shOf shq) Tryz.f18 [ShT,ShT] [.bool] heads0 x:=rfl
theorem eqq_tt (N:Nat) (n:List (List UInt8)) (l:List EntD) (x:List UInt8) (n2:List (List UInt8)) (l2:List EntD) (x2:List UInt8):fON Tryz.prog (envS []) (shOf shq) Tryz.f18 [ShT,ShT] [.bool] N ((n,l,true,x,()),(n2,l2,true,x2,()),())=begQ (n,l,true,x,()) (n2,l2,true,x2,()) (bif !x==x2 then bO false else hq0 N n l true x x2 n2 l2 0):=by kernel_rfl
theorem eqq_tf (N:Nat) (n:List (List UInt8)) (l:List EntD) (x:List UInt8) (n2:List (List UInt8)) (l2:List EntD) (x2:List UInt8):fON Tryz.prog (envS []) (shOf shq) Tryz.f18 [ShT,ShT] [.bool] N ((n,l,true,x,()),(n2,l2,false,x2,()),())=begQ (n,l,true,x,()) (n2,l2,false,x2,()) (bO false):=by kernel_rfl
theorem eqq_ft (N:Nat) (n:List (List UInt8)) (l:List EntD) (x:List UInt8) (n2:List (List UInt8)) (l2:List EntD) (x2:List UInt8):fON Tryz.prog (envS []) (shOf shq) Tryz.f18 [ShT,ShT] [.bool] N ((n,l,false,x,()),(n2,l2,true,x2,()),())=begQ (n,l,false,x,()) (n2,l2,true,x2,()) (bO false):=by kernel_rfl
theorem eqq_ff (N:Nat) (n:List (List UInt8)) (l:List EntD) (x:List UInt8) (n2:List (List UInt8)) (l2:List EntD) (x2:List UInt8):fON Tryz.prog (envS []) (shOf shq) Tryz.f18 [ShT,ShT] [.bool] N ((n,l,false,x,()),(n2,l2,false,x2,()),())=begQ (n,l,false,x,()) (n2,l2,false,x2,()) (bif !x==x2 then bO false else hq0 N n l false x x2 n2 l2 0):=by kernel_rfl
theorem eq0 (N:Nat) (n:List (List UInt8)) (l:List EntD) (b:Bool) (x x2:List UInt8) (n2:List (List UInt8)) (l2:List EntD) (i:Int):hq0 (N+1) n l b x x2 n2 l2 i=stepQ0 n n2 i (hq0 N n l b x x2 n2 l2 (i+1)) (hq1 N n l b x x2 n2 l2 0):=by kernel_rfl
theorem eq1 (N:Nat) (n:List (List UInt8)) (l:List EntD) (b:Bool) (x x2:List UInt8) (n2:List (List UInt8)) (l2:List EntD) (i:Int):hq1 (N+1) n l b x x2 n2 l2 i=stepQ1 l l2 i (fun k v k2 v2=>hq2 N n l b x x2 n2 l2 i k v k2 v2 0):=by kernel_rfl
theorem eq2 (N:Nat) (n:List (List UInt8)) (l:List EntD) (b:Bool) (x x2:List UInt8) (n2:List (List UInt8)) (l2:List EntD) (i:Int) (k:List UInt8) (v:List VerD) (k2:List UInt8) (v2:List VerD) (j:Int):hq2 (N+1) n l b x x2 n2 l2 i k v k2 v2 j=stepQ2 v v2 i j (hq2 N n l b x x2 n2 l2 i k v k2 v2 (j+1)) (hq1 N n l b x x2 n2 l2 (i+1)):=by kernel_rfl
theorem dropG {α:Type} {l:List α} {i:Nat} (d:α) (h:i<l.length):l.drop i=l.getD i d::l.drop (i+1):=by
 rw[List.drop_eq_getElem_cons h,List.getD_eq_getElem?_getD,List.getElem?_eq_getElem h];rfl
theorem q2_l (n:List (List UInt8)) (l:List EntD) (b:Bool) (x x2:List UInt8) (n2:List (List UInt8)) (l2:List EntD) (i:Nat) (hi:i≤1099511627776) (k:List UInt8) (v:List VerD) (k2:List UInt8) (v2:List VerD) (hv:v.length≤1099511627776) (he:v2.length=v.length):∀(r j N:Nat),v.length=j+r→r<N→hq2 N n l b x x2 n2 l2 (i:Int) k v k2 v2 (j:Int)=bif eqVs (v.drop j) (v2.drop j) then hq1 (N-r-1) n l b x x2 n2 l2 ((i:Int)+1) else bO false:=by
 intro r
 induction r with
 |zero=>
  intro j N hj hN;obtain⟨N,rfl⟩:∃m,N=m+1:=⟨N-1,by omega⟩
  rw[eq2];unfold stepQ2;rw[cdF (by omega),gdT (inK_i64.2 ⟨by omega,by omega⟩),xG,List.drop_eq_nil_of_le (by omega),List.drop_eq_nil_of_le (by omega)];rfl
 |succ r ih=>
  intro j N hj hN;obtain⟨N,rfl⟩:∃m,N=m+1:=⟨N-1,by omega⟩
  have h1:j<v.length:=by omega
  have h2:j<v2.length:=by omega
  have hG:∀y:BO,gd (gI v2 (j:Int)++(gI v (j:Int)++(gI v2 (j:Int)++gI v (j:Int)))) y=y:=fun y=>by rw[gI_ok h2,gI_ok h1,gI_ok h2,gI_ok0 h1]
  have hG1:∀y:BO,gd (gI v2 (j:Int)++gI v (j:Int)) y=y:=fun y=>by rw[gI_ok h2,gI_ok0 h1]
  have this:=ih (j+1) N (by omega) (by omega);simp only[Int.natCast_add,Int.natCast_one] at this;have hk1:inK .i64 ((j:Int)+1):=inK_i64.2 ⟨by omega,by omega⟩;rw[eq2];unfold stepQ2;rw[cdT (by omega),show(j:Int).toNat=j from rfl,dropG (VerT).dflt h1,dropG (VerT).dflt h2,eqVs_cons,this,show N+1-(r+1)-1=N-r-1 by omega,hG1,gdT hk1,hG,hG]
  unfold eqV;generalize v.getD j (VerT).dflt=a;generalize v2.getD j (VerT).dflt=c;obtain⟨a1,a2,a3,a4⟩:=a;obtain⟨c1,c2,c3,c4⟩:=c;dsimp only;have hb:(a1 !=c1)= !(a1==c1):=rfl;rw[hb];cases a1==c1
  ·rfl
  ·cases a2<;>cases c2<;>rfl
theorem q1_l (n:List (List UInt8)) (l:List EntD) (b:Bool) (x x2:List UInt8) (n2:List (List UInt8)) (l2:List EntD) (hl:l.length≤1099511627776) (hv:∀e,e∈l→e.2.1.length≤1099511627776) (he:l2.length=l.length):∀(r i N:Nat),l.length=i+r→1099511627780*r<N→hq1 N n l b x x2 n2 l2 (i:Int)=bO (eqEs (l.drop i) (l2.drop i)):=by
 intro r
 induction r with
 |zero=>
  intro i N hi hN;obtain⟨N,rfl⟩:∃m,N=m+1:=⟨N-1,by omega⟩
  rw[eq1];unfold stepQ1;rw[cdF (by omega),List.drop_eq_nil_of_le (by omega),List.drop_eq_nil_of_le (by omega)];rfl
 |succ r ih=>
  intro i N hi hN;obtain⟨N,rfl⟩:∃m,N=m+1:=⟨N-1,by omega⟩
  have h1:i<l.length:=by omega
  have h2:i<l2.length:=by omega
  have hm:l.getD i (EntT).dflt∈l:=by
   rw[List.getD_eq_getElem?_getD,List.getElem?_eq_getElem h1];exact List.getElem_mem h1
  have hvl:=hv _ hm;rw[eq1];unfold stepQ1;rw[cdT (by omega),show(i:Int).toNat=i from rfl,dropG (EntT).dflt h1,dropG (EntT).dflt h2,eqEs_cons,gI_ok h2,gI_ok0 h1]
  revert hvl
  generalize l.getD i (EntT).dflt=a;generalize l2.getD i (EntT).dflt=c;intro hvl;unfold eqEn;cases hk:a.1==c.1
  ·rfl
  ·rw[Bool.not_true,xF,Bool.true_and];by_cases hlen:a.2.1.length=c.2.1.length
   ·rw[show((a.2.1.length:Int) !=(c.2.1.length:Int))=false from by rw[bne_eq_false_iff_eq];omega,xF];have h3:=q2_l n l b x x2 n2 l2 i (by omega) a.1 a.2.1 c.1 c.2.1 hvl hlen.symm a.2.1.length 0 N (by omega) (by omega);rw[List.drop_zero,List.drop_zero] at h3;refine Eq.trans h3 ?_;have this:=ih (i+1) (N-a.2.1.length-1) (by omega) (by omega)
    simp only[Int.natCast_add,Int.natCast_one] at this;rw[this];cases eqVs a.2.1 c.2.1<;>rfl
   ·rw[show((a.2.1.length:Int) !=(c.2.1.length:Int))=true from by rw[bne_iff_ne];omega,xT,eqVs_len _ _ hlen];rfl
theorem q0_l (n:List (List UInt8)) (l:List EntD) (b:Bool) (x x2:List UInt8) (n2:List (List UInt8)) (l2:List EntD) (hn:n.length≤1099511627776) (hne:n2.length=n.length) (hl:l.length≤1099511627776) (hv:∀e,e∈l→e.2.1.length≤1099511627776) (he:l2.length=l.length):∀(r i N:Nat),n.length=i+r→r+1099511627780*l.length+2<N→hq0 N n l b x x2 n2 l2 (i:Int)=bO (n.drop i==n2.drop i&&eqEs l l2):=by
 intro r
 induction r with
 |zero=>
  intro i N hi hN;obtain⟨N,rfl⟩:∃m,N=m+1:=⟨N-1,by omega⟩
  have:=q1_l n l b x x2 n2 l2 hl hv he l.length 0 N (by omega) (by omega);rw[eq0];unfold stepQ0;rw[cdF (by omega),List.drop_eq_nil_of_le (by omega),List.drop_eq_nil_of_le (by omega)];exact this
 |succ r ih=>
  intro i N hi hN;obtain⟨N,rfl⟩:∃m,N=m+1:=⟨N-1,by omega⟩
  have h1:i<n.length:=by omega
  have h2:i<n2.length:=by omega
  have this:=ih (i+1) N (by omega) (by omega);simp only[Int.natCast_add,Int.natCast_one] at this;rw[eq0];unfold stepQ0;rw[cdT (by omega),show(i:Int).toNat=i from rfl,dropG [] h1,dropG [] h2,gI_ok h2,gI_ok0 h1,gdT (inK_i64.2 ⟨by omega,by omega⟩),gI_ok h2,gI_ok0 h1,this,show n.getD i Ty.str.dflt=n.getD i [] from rfl,show n2.getD i Ty.str.dflt=n2.getD i [] from rfl,List.cons_beq_cons]
  cases n.getD i []==n2.getD i []<;>rfl
theorem eqShP_iff {a:ShD}:eqShP a=true↔a.1.length≤1099511627776∧a.2.1.length≤1099511627776∧∀e,e∈a.2.1→e.2.1.length≤1099511627776:=by
 unfold eqShP;rw[Bool.and_eq_true,Bool.and_eq_true,decide_eq_true_eq,decide_eq_true_eq,List.all_eq_true];exact⟨fun⟨h1,h2,h3⟩=>⟨h1,h2,fun e he=>of_decide_eq_true (h3 e he)⟩,fun⟨h1,h2,h3⟩=>⟨h1,h2,fun e he=>decide_eq_true (h3 e he)⟩⟩
theorem q_n {n:List (List UInt8)} {l:List EntD} {b:Bool} {x:List UInt8} {n2:List (List UInt8)} {l2:List EntD} {x2:List UInt8} (h:eqShP (n,l,b,x,())=true):begQ (n,l,b,x,()) (n2,l2,b,x2,()) (bif !x==x2 then bO false else hq0 heads0 n l b x x2 n2 l2 0)=bO (eqShN (n,l,b,x,()) (n2,l2,b,x2,())):=by
 obtain⟨h1,h2,h3⟩:=eqShP_iff.1 h;have h1:n.length≤1099511627776:=h1;have h2:l.length≤1099511627776:=h2;refine(begQ_n (c:=x==x2) fun e1 e2=> ?_).trans ?_
 ·have e1:n.length=n2.length:=e1;have e2:l.length=l2.length:=e2;have:=q0_l n l b x x2 n2 l2 h1 e1.symm h2 h3 e2.symm n.length 0 heads0 (by omega) (by unfold heads0;omega);rw[List.drop_zero,List.drop_zero] at this;cases x==x2
  ·show bO false=bO (n==n2&&(eqEs l l2&&false));rw[Bool.and_false,Bool.and_false]
  ·show hq0 heads0 n l b x x2 n2 l2 0=bO (n==n2&&(eqEs l l2&&true));rw[Bool.and_true];exact this
 ·show bO (n==n2&&(eqEs l l2&&x==x2))=bO (n==n2&&(eqEs l l2&&(b==b&&x==x2)));rw[beq_self_eq_true,Bool.true_and]
theorem q_nF {a b:ShD} (h:(a.2.2.1==b.2.2.1)=false):begQ a b (bO false)=bO (eqShN a b):=by
 unfold eqShN;rw[h,Bool.false_and];exact begQ_n (c:=false) fun _ _=>by rw[Bool.and_false,Bool.and_false]
theorem eqsh_c:PC 18 eqShS:=(pureO (sh:=shOf shq) (envS_ok (l:=[]) trivial) gl_ne Tryz.func18 (by kernel_rfl) (by decide)).nice fun⟨⟨n,l,b,x,()⟩,⟨n2,l2,b2,x2,()⟩,()⟩ h=>by
 show oq _=bO (eqShN (n,l,b,x,()) (n2,l2,b2,x2,()));rw[oq_g];cases b
 ·cases b2
  ·rw[eqq_ff];exact q_n h
  ·rw[eqq_ft];exact q_nF rfl
 ·cases b2
  ·rw[eqq_tf];exact q_nF rfl
  ·rw[eqq_tt];exact q_n h
end Go.Proofs.YtldllfocpadkeaaGreatDoor
namespace Nice
open Go Go.Eng
def rhStep (n lo hi k:Int) (nx:IO1):IO1:=bif decide (n>lo) then(bif decide (n<hi) then some (k,()) else nx) else nx
def rhE (n:Int):IO1:=rhStep n 4294967296 8589934592 1 (rhStep n 8589934592 12884901888 2 (rhStep n 12884901888 17179869184 3 (rhStep n 17179869184 21474836480 4 (rhStep n 21474836480 25769803776 5 (some (0,()))))))
theorem rhStep_in {n lo hi k:Int} {nx:IO1} (h1:lo<n) (h2:n<hi):rhStep n lo hi k nx=some (k,()):=by
 unfold rhStep;rw[cdT (by omega),cdT h2]
theorem rhStep_out {n lo hi k:Int} {nx:IO1} (h:n≤lo∨hi≤n):rhStep n lo hi k nx=nx:=by
 unfold rhStep;by_cases h1:n>lo
 ·rw[cdT h1,cdF (by omega)]
 ·rw[cdF h1]
theorem homeN_eq {n k:Int} (h0:1≤k) (h5:k≤5) (h1:k*4294967296<n) (h2:n<(k+1)*4294967296):homeN n=k:=by
 unfold homeN;have e1:n.tmod 4294967296=n%4294967296:=Int.tmod_eq_emod_of_nonneg (by omega);have e2:n.tdiv 4294967296=n/4294967296:=Int.tdiv_eq_ediv_of_nonneg (by omega);rw[decide_eq_false (show ¬n<4294967296 by omega),decide_eq_false (show ¬n≥25769803776 by omega),e1,e2,show(n%4294967296==0)=false from by rw[beq_eq_false_iff_ne];omega]
 show n/4294967296=k;omega
theorem homeN_zero {n:Int} (h:n≤4294967296∨25769803776≤n∨n%4294967296=0):homeN n=0:=by
 unfold homeN;by_cases h1:n<4294967296
 ·rw[decide_eq_true h1];rfl
 rw[decide_eq_false h1];by_cases h2:n≥25769803776
 ·rw[decide_eq_true h2];rfl
 rw[decide_eq_false h2];have e1:n.tmod 4294967296=n%4294967296:=Int.tmod_eq_emod_of_nonneg (by omega);rw[e1,show(n%4294967296==0)=true from beq_iff_eq.2 (by omega)];rfl
theorem rhE_n (n:Int):rhE n=some (homeN n,()):=by
 unfold rhE;by_cases h1:4294967296<n∧n<8589934592
 ·rw[rhStep_in h1.1 h1.2,homeN_eq (k:=1) (by omega) (by omega) (by omega) (by omega)]
 rw[rhStep_out (by omega)];by_cases h2:8589934592<n∧n<12884901888
 ·rw[rhStep_in h2.1 h2.2,homeN_eq (k:=2) (by omega) (by omega) (by omega) (by omega)]
 rw[rhStep_out (by omega)];by_cases h3:12884901888<n∧n<17179869184
 ·rw[rhStep_in h3.1 h3.2,homeN_eq (k:=3) (by omega) (by omega) (by omega) (by omega)]
 rw[rhStep_out (by omega)];by_cases h4:17179869184<n∧n<21474836480
 ·rw[rhStep_in h4.1 h4.2,homeN_eq (k:=4) (by omega) (by omega) (by omega) (by omega)]
 rw[rhStep_out (by omega)];by_cases h5:21474836480<n∧n<25769803776
 ·rw[rhStep_in h5.1 h5.2,homeN_eq (k:=5) (by omega) (by omega) (by omega) (by omega)]
 rw[rhStep_out (by omega),homeN_zero (by omega)]
noncomputable abbrev gVe (e:EntD):List Bool:=[decide (((e.2.1.length:Int)-1).toNat<e.2.1.length),decide (0≤(e.2.1.length:Int)-1),decide ((e.2.1.length:Int)-1<(e.2.1.length:Int)),decide (inK .i64 ((e.2.1.length:Int)-1))]
noncomputable def rbE (q:Int) (l:List EntD) (i:Int) (e:EntD) (nx:BO):BO:=
 bif entB (e.1,e.2.1,()) then(bif decide (i>0) then(bif Op.bytesLess e.1 (l.getD (i-1).toNat (EntT).dflt).1||e.1==(l.getD (i-1).toNat (EntT).dflt).1 then gd (gPx l i++(gI l i++(entP (e.1,e.2.1,())::gI l i))) (bO false)
     else bif decide ((e.2.1.getD ((e.2.1.length:Int)-1).toNat (VerT).dflt).1>q) then gd (gVe e++(gI l i++(gI l i++(gPx l i++(gI l i++(entP (e.1,e.2.1,())::gI l i)))))) (bO false) else gd (decide (inK .i64 (i+1))::(gVe e++(gI l i++(gI l i++(gPx l i++(gI l i++(entP (e.1,e.2.1,())::gI l i))))))) nx)
  else bif decide ((e.2.1.getD ((e.2.1.length:Int)-1).toNat (VerT).dflt).1>q) then gd (gVe e++(gI l i++(gI l i++(entP (e.1,e.2.1,())::gI l i)))) (bO false) else gd (decide (inK .i64 (i+1))::(gVe e++(gI l i++(gI l i++(entP (e.1,e.2.1,())::gI l i))))) nx)
 else gd (entP (e.1,e.2.1,())::gI l i) (bO false)
noncomputable def rbStep (q:Int) (l:List EntD) (i:Int) (nx ex:BO):BO:=bif decide (i<(l.length:Int)) then rbE q l i (l.getD i.toNat (EntT).dflt) nx else ex
theorem gJ_ok {α β:Type} {l:List α} {i:Nat} (h1:i<l.length) (y:Option β) (ps:List Bool):gd (gI l (i:Int)++ps) y=gd ps y:=by
 unfold gI;simp only[List.cons_append,List.nil_append];rw[gdT (by omega),gdT (by omega),gdT (by omega)]
theorem gJ_ok0 {α β:Type} {l:List α} {i:Nat} (h1:i<l.length) (y:Option β):gd (gI l (i:Int)) y=y:=by
 have:=gJ_ok h1 y [];rw[List.append_nil] at this;rw[this,xG]
theorem rbE_n {q:Int} {l:List EntD} {i:Nat} {b:Bool} {nx:BO} (hl:l.length≤40) (hi:i<l.length) (hp:entP (entAt l i)=true) (h:nx=bO b):rbE q l (i:Int) (entAt l i) nx=bO (bEnt q l i&&b):=by
 have hk:inK .i64 ((i:Int)+1):=inK_i64.2 ⟨by omega,by omega⟩;have hp':entP ((entAt l i).1,(entAt l i).2.1,())=true:=hp;have he:entB ((entAt l i).1,(entAt l i).2.1,())=entB (entAt l i):=rfl;unfold rbE bEnt;rw[he];cases hb:entB (entAt l i)
 ·rw[xF,gdB hp',gJ_ok0 hi];rfl
 ·obtain⟨n1,n2⟩:=entB_len hb;have e1:(((entAt l i).2.1.length:Int)-1).toNat=(entAt l i).2.1.length-1:=by omega
  have hz:∀(y:BO) ps,gd (gVe (entAt l i)++ps) y=gd ps y:=fun y ps=>by
   unfold gVe;simp only[List.cons_append,List.nil_append];rw[gdT (by omega),gdT (by omega),gdT (by omega),gdT (inK_i64.2 ⟨by omega,by omega⟩)]
  have hv:(entAt l i).2.1.getD (((entAt l i).2.1.length:Int)-1).toNat (VerT).dflt=lastV (entAt l i):=by rw[e1];rfl
  rw[xT,hv,Bool.true_and];by_cases h0:i=0
  ·subst h0;rw[cdF (by omega)];by_cases h1:(lastV (entAt l 0)).1>q
   ·rw[cdT h1,hz,gJ_ok hi,gJ_ok hi,gdB hp',gJ_ok0 hi,decide_eq_false (show ¬(lastV (entAt l 0)).1≤q by omega)];rfl
   ·rw[cdF h1,gdT hk,hz,gJ_ok hi,gJ_ok hi,gdB hp',gJ_ok0 hi,decide_eq_true (show(lastV (entAt l 0)).1≤q by omega),h];rfl
  ·have e2:((i:Int)-1).toNat=i-1:=by omega
   have e3:Nat.beq i 0=false:=by cases i with
    |zero=>exact absurd rfl h0
    |succ n=>rfl
   rw[cdT (by omega),e2,e3,Bool.false_or];show(bif Op.bytesLess (entAt l i).1 (entAt l (i-1)).1||(entAt l i).1==(entAt l (i-1)).1 then _ else _)=_;have ht:=less_tot (entAt l (i-1)).1 (entAt l i).1;cases hb2:Op.bytesLess (entAt l i).1 (entAt l (i-1)).1||(entAt l i).1==(entAt l (i-1)).1
   ·rw[hb2] at ht;rw[xF,ht];by_cases h1:(lastV (entAt l i)).1>q
    ·rw[cdT h1,hz,gJ_ok hi,gJ_ok hi,gPx_ok (by omega) hi (by omega),gJ_ok hi,gdB hp',gJ_ok0 hi,decide_eq_false (show ¬(lastV (entAt l i)).1≤q by omega)];rfl
    ·rw[cdF h1,gdT hk,hz,gJ_ok hi,gJ_ok hi,gPx_ok (by omega) hi (by omega),gJ_ok hi,gdB hp',gJ_ok0 hi,decide_eq_true (show(lastV (entAt l i)).1≤q by omega),h];rfl
   ·rw[hb2] at ht;rw[xT,gPx_ok (by omega) hi (by omega),gJ_ok hi,gdB hp',gJ_ok0 hi,ht];cases decide ((lastV (entAt l i)).1≤q)<;>rfl
noncomputable def rmTail (q:Int) (x:MemoD) (i:Int) (G:List Bool) (nx:BO) (lo:Int):BO:=
 bif decide (x.1<lo) then gd (decide (inK .i64 (homeN x.1-1))::G) (bO false) else bif decide (x.2.1.1<0) then gd (decide (inK .i64 (homeN x.1-1))::G) (bO false) else bif decide (x.2.1.1>13) then gd (decide (inK .i64 (homeN x.1-1))::G) (bO false)
  else bif decide (x.2.1.2.1<0) then gd (decide (inK .i64 (homeN x.1-1))::G) (bO false) else bif decide (x.2.1.2.1>q) then gd (decide (inK .i64 (homeN x.1-1))::G) (bO false) else gd (decide (inK .i64 (i+1))::decide (inK .i64 (homeN x.1-1))::G) nx
theorem rmTail_n {q:Int} {x:MemoD} {i lo:Int} {G:List Bool} {b:Bool} {nx:BO} (hi:inK .i64 (i+1)) (hh:inK .i64 (homeN x.1-1)) (hG:∀y:BO,gd G y=y) (h:nx=bO b):rmTail q x i G nx lo=bO (decide (lo≤x.1)&&(bRes q x&&b)):=by
 unfold rmTail bRes;by_cases h0:x.1<lo
 ·rw[cdT h0,gdT hh,hG,decide_eq_false (show ¬lo≤x.1 by omega)];rfl
 rw[cdF h0,decide_eq_true (show lo≤x.1 by omega)];by_cases h1:x.2.1.1<0
 ·rw[cdT h1,gdT hh,hG,decide_eq_false (show ¬0≤x.2.1.1 by omega)];rfl
 rw[cdF h1,decide_eq_true (show 0≤x.2.1.1 by omega)];by_cases h2:x.2.1.1>13
 ·rw[cdT h2,gdT hh,hG,decide_eq_false (show ¬x.2.1.1≤13 by omega)];rfl
 rw[cdF h2,decide_eq_true (show x.2.1.1≤13 by omega)];by_cases h3:x.2.1.2.1<0
 ·rw[cdT h3,gdT hh,hG,decide_eq_false (show ¬0≤x.2.1.2.1 by omega)];rfl
 rw[cdF h3,decide_eq_true (show 0≤x.2.1.2.1 by omega)];by_cases h4:x.2.1.2.1>q
 ·rw[cdT h4,gdT hh,hG,decide_eq_false (show ¬x.2.1.2.1≤q by omega)];rfl
 rw[cdF h4,decide_eq_true (show x.2.1.2.1≤q by omega),gdT hi,gdT hh,hG,h];rfl
noncomputable def rmE (q:Int) (L:LowD) (m:List MemoD) (i:Int) (x:MemoD) (nx:BO):BO:=
 bif homeN x.1==0 then bO false else bif decide (i>0) then(bif decide (x.1≤(m.getD (i-1).toNat (MemoT).dflt).1) then gd (gPx m i) (bO false) else selB L (homeN x.1-1) (rmTail q x i (gPx m i) nx)) else selB L (homeN x.1-1) (rmTail q x i [] nx)
noncomputable def rmStep (q:Int) (L:LowD) (m:List MemoD) (i:Int) (nx:BO):BO:=bif decide (i<(m.length:Int)) then gd (gI m i) (rmE q L m i (m.getD i.toNat (MemoT).dflt) nx) else bO true
theorem rmE_n {q:Int} {L:LowD} {m:List MemoD} {i:Nat} {b:Bool} {nx:BO} (hl:m.length≤100) (hi:i<m.length) (h:nx=bO b):rmE q L m (i:Int) (memAt m i) nx=bO (bMem q L m i&&b):=by
 have hk:inK .i64 ((i:Int)+1):=inK_i64.2 ⟨by omega,by omega⟩;unfold rmE bMem;have hc:=homeN_cases (memAt m i).1;cases h0:homeN (memAt m i).1==0
 ·have h0':homeN (memAt m i).1≠0:=by simpa using h0
  have hh:inK .i64 (homeN (memAt m i).1-1):=inK_i64.2 ⟨by omega,by omega⟩;rw[xF,selB_n (by omega),selB_n (by omega),show(!false)=true from rfl,Bool.true_and];by_cases hi0:i=0
  ·subst hi0;rw[cdF (by omega),rmTail_n hk hh (fun y=>xG _) h];show bO _=bO _;rw[Bool.and_assoc,show Nat.beq 0 0=true from rfl,Bool.true_or,Bool.true_and]
  ·have e2:((i:Int)-1).toNat=i-1:=by omega
   have e3:Nat.beq i 0=false:=by cases i with
    |zero=>exact absurd rfl hi0
    |succ n=>rfl
   have hG:∀y:BO,gd (gPx m (i:Int)) y=y:=fun y=>by
    have:=gPx_ok (show 0<i by omega) hi (by omega) y [];rw[List.append_nil] at this;rw[this,xG]
   rw[cdT (by omega),e2,e3,Bool.false_or];show(bif decide ((memAt m i).1≤(memAt m (i-1)).1) then _ else _)=_;by_cases h2:(memAt m i).1≤(memAt m (i-1)).1
   ·rw[cdT h2,hG,decide_eq_false (show ¬(memAt m (i-1)).1<(memAt m i).1 by omega),Bool.false_and,Bool.and_false];rfl
   ·rw[cdF h2,rmTail_n hk hh hG h,decide_eq_true (show(memAt m (i-1)).1<(memAt m i).1 by omega),Bool.true_and,Bool.and_assoc]
 ·rw[xT];rfl
noncomputable def smK (b is:Bool) (p f:List UInt8) (k:Int) (o:List EntD) (i:Int) (e:EntD) (nx:List EntD→PO):PO:=
 bif decide ((e.1.length:Int)<(p.length:Int)) then gd [decide (inK .i64 (i+1))] (nx o) else bif !List.take (p.length:Int).toNat e.1==p then gd [decide (inK .i64 (i+1)),decide ((p.length:Int)≤(e.1.length:Int))] (nx o)
  else bif Op.bytesLess e.1 f||e.1==f then gd [decide (inK .i64 (i+1)),decide ((p.length:Int)≤(e.1.length:Int))] (nx o)
  else bif b&& !is then gd [decide (inK .i64 (i+1)),decide ((p.length:Int)≤(e.1.length:Int))] (nx o)
  else gd [decide ((p.length:Int)≤(e.1.length:Int))] (bif (o.length:Int)==k then some (o,true,()) else gd [decide (inK .i64 (i+1)),decide ((2*(o.length+[(e.1,e.2.1,())].length)+400)*40≤281474976710656)] (nx (o++[(e.1,e.2.1,())])))
noncomputable def smStep (b:Bool) (p f:List UInt8) (k:Int) (l o:List EntD) (i:Int) (nx:List EntD→PO):PO:=
 bif decide (i<(l.length:Int)) then gd (gI l i) (bif (nowN ((l.getD i.toNat (EntT).dflt).1,(l.getD i.toNat (EntT).dflt).2.1,())).2 then gd [decide ((l.getD i.toNat (EntT).dflt).2.1.length≤140737488355328)] (smK b true p f k o i (l.getD i.toNat (EntT).dflt) nx) else gd [decide ((l.getD i.toNat (EntT).dflt).2.1.length≤140737488355328)] (smK b false p f k o i (l.getD i.toNat (EntT).dflt) nx)) else some (o,false,())
theorem sm_l {b:Bool} {p f:List UInt8} {k:Int} {l:List EntD} {h:Nat→List EntD→Int→PO} (he:∀N o i,h (N+1) o i=smStep b p f k l o i (fun o'=>h N o' (i+1))) (hk:0≤k) (hl:l.length≤40) (hv:∀e,e∈l→1≤e.2.1.length∧e.2.1.length≤12):
  ∀(r i N:Nat) (o:List EntD),l.length=i+r→r<N→o.length≤i→(o.length:Int)≤k→h N o (i:Int)=some ((o++(l.drop i).filter (selP p f b)).take k.toNat,decide (k<((o++(l.drop i).filter (selP p f b)).length:Int)),()):=by
 intro r
 induction r with
 |zero=>
  intro i N o hi hN ho hok;obtain⟨N,rfl⟩:∃k,N=k+1:=⟨N-1,by omega⟩
  rw[he];unfold smStep;rw[cdF (by omega),List.drop_eq_nil_of_le (by omega),List.filter_nil,List.append_nil,List.take_of_length_le (by omega),decide_eq_false (show ¬k<(o.length:Int) by omega)]
 |succ r ih=>
  intro i N o hi hN ho hok;obtain⟨N,rfl⟩:∃k,N=k+1:=⟨N-1,by omega⟩
  have hlt:i<l.length:=by omega
  have hk1:inK .i64 ((i:Int)+1):=inK_i64.2 ⟨by omega,by omega⟩;have hd:l.drop i=entAt l i::l.drop (i+1):=by
   rw[List.drop_eq_getElem_cons hlt];congr 1;unfold entAt;rw[List.getD_eq_getElem?_getD,List.getElem?_eq_getElem hlt];rfl
  obtain⟨v1,v2⟩:=hv (entAt l i) (by
   show l.getD i _∈l;rw[List.getD_eq_getElem?_getD,List.getElem?_eq_getElem hlt];exact List.getElem_mem hlt)
  have hno:∀o':List EntD,o'.length≤i+1→(o'.length:Int)≤k→h N o' ((i:Int)+1)=some ((o'++(l.drop (i+1)).filter (selP p f b)).take k.toNat,decide (k<((o'++(l.drop (i+1)).filter (selP p f b)).length:Int)),()):=fun o' h' h''=>by
   have:=ih (i+1) N o' (by omega) (by omega) h' h'';simpa only[Int.natCast_add,Int.natCast_one] using this
  have skip:selP p f b (entAt l i)=false→h N o ((i:Int)+1)=some ((o++(l.drop i).filter (selP p f b)).take k.toNat,decide (k<((o++(l.drop i).filter (selP p f b)).length:Int)),()):=fun hs=>by
   rw[hd,List.filter_cons_of_neg (by rw[hs];exact Bool.false_ne_true)];exact hno o (by omega) hok
  have take:selP p f b (entAt l i)=true→(o.length:Int)<k→h N (o++[entAt l i]) ((i:Int)+1)=some ((o++(l.drop i).filter (selP p f b)).take k.toNat,decide (k<((o++(l.drop i).filter (selP p f b)).length:Int)),()):=fun hs hlk=>by
   have:=hno (o++[entAt l i]) (by rw[List.length_append,List.length_singleton];omega) (by rw[List.length_append,List.length_singleton];omega);rw[hd,List.filter_cons_of_pos hs];simpa only[List.append_assoc,List.singleton_append] using this
  have full:selP p f b (entAt l i)=true→(o.length:Int)=k→some (o,true,())=(some ((o++(l.drop i).filter (selP p f b)).take k.toNat,decide (k<((o++(l.drop i).filter (selP p f b)).length:Int)),()):PO):=fun hs hlk=>by
   rw[hd,List.filter_cons_of_pos hs,show k.toNat=o.length by omega,List.take_left,decide_eq_true (by rw[List.length_append,List.length_cons];omega)]
  have core:∀is:Bool,(nowN (entAt l i)).2=is→smK b is p f k o (i:Int) (entAt l i) (fun o'=>h N o' ((i:Int)+1))=some ((o++(l.drop i).filter (selP p f b)).take k.toNat,decide (k<((o++(l.drop i).filter (selP p f b)).length:Int)),()):=fun is his=>by
   unfold smK;by_cases c1:((entAt l i).1.length:Int)<(p.length:Int)
   ·rw[cdT c1,gdT hk1,xG];exact skip (by unfold selP hasPre;rw[decide_eq_false (show ¬p.length≤(entAt l i).1.length by omega)];rfl)
   rw[cdF c1,show(p.length:Int).toNat=p.length from rfl];have hp:hasPre (entAt l i).1 p=(List.take p.length (entAt l i).1==p):=by
    unfold hasPre;rw[decide_eq_true (show p.length≤(entAt l i).1.length by omega),Bool.true_and]
   cases c2:List.take p.length (entAt l i).1==p
   ·rw[show(!false)=true from rfl,xT,gdT hk1,gdT (by omega),xG];exact skip (by unfold selP;rw[hp,c2];rfl)
   rw[show(!true)=false from rfl,xF];cases c3:Op.bytesLess (entAt l i).1 f||(entAt l i).1==f
   ·rw[xF];cases c4:b&& !is
    ·have hs:selP p f b (entAt l i)=true:=by
      unfold selP fitB;rw[hp,c2,c3,his];cases b
      ·rfl
      ·cases is
       ·cases c4
       ·rfl
     rw[xF,gdT (by omega),xG];by_cases c5:(o.length:Int)=k
     ·rw[show((o.length:Int)==k)=true from beq_iff_eq.2 c5,xT];exact full hs c5
     ·rw[show((o.length:Int)==k)=false from beq_eq_false_iff_ne.2 c5,xF,gdT hk1,gdT (by simp only[List.length_singleton];omega),xG];exact take hs (by omega)
    ·rw[xT,gdT hk1,gdT (by omega),xG];exact skip (by
      unfold selP fitB;rw[hp,c2,c3,his];cases b
      ·cases c4
      ·cases is
       ·rfl
       ·cases c4)
   ·rw[xT,gdT hk1,gdT (by omega),xG];exact skip (by unfold selP;rw[hp,c2,c3];rfl)
  rw[he];unfold smStep;rw[cdT (by omega),gJ_ok0 hlt];show(bif (nowN (entAt l i)).2 then gd [decide ((entAt l i).2.1.length≤140737488355328)] (smK b true p f k o (i:Int) (entAt l i) (fun o'=>h N o' ((i:Int)+1))) else gd [decide ((entAt l i).2.1.length≤140737488355328)] (smK b false p f k o (i:Int) (entAt l i) (fun o'=>h N o' ((i:Int)+1))))=_
  cases hnw:(nowN (entAt l i)).2
  ·rw[xF,gdT (by omega),xG];exact core false hnw
  ·rw[xT,gdT (by omega),xG];exact core true hnw
noncomputable def someS (b:Bool):PSpec:=⟨[StT,.str,.str,IT,.bool],[.slice EntT,.bool],fun x=>pageP x.1&&x.2.2.2.2.1==b,fun x=>(pageL x.1 x.2.1 x.2.2.1 x.2.2.2.1 x.2.2.2.2.1,pageM x.1 x.2.1 x.2.2.1 x.2.2.2.1 x.2.2.2.2.1,())⟩
theorem most_eq (k:Int):max 1 (min k 20)=mostN k:=by unfold mostN;omega
noncomputable def rleafS:PSpec:=⟨[StT,AskT],[ShT],fun x=>pageP x.1,fun x=>(leafB x.1 x.2.1,())⟩
noncomputable def rleafE (s:StD) (a:AskD):HO1:=bif a.1==4 then nmE s (namesL s a.2.2.2.2.2.2.1 a.2.2.2.2.2.2.2.1 a.2.2.2.2.2.2.2.2.1 true) (pageM s a.2.2.2.2.2.2.1 a.2.2.2.2.2.2.2.1 a.2.2.2.2.2.2.2.2.1 true)
 else bif a.1==5 then enE s (pageL s a.2.2.2.2.2.2.1 a.2.2.2.2.2.2.2.1 a.2.2.2.2.2.2.2.2.1 false) (pageM s a.2.2.2.2.2.2.1 a.2.2.2.2.2.2.2.1 a.2.2.2.2.2.2.2.2.1 false) else some (zSh,())
theorem rleafE_n {s:StD} {a:AskD} (hp:pageP s=true):rleafE s a=some (leafB s a,()):=by
 unfold rleafE leafB;cases a.1==4
 ·rw[xF,xF];cases a.1==5
  ·rw[xF,xF]
  ·rw[xT,xT];refine enE_n hp (Nat.le_trans page_len (by omega)) fun hg=> ?_
   have:=page_more hg;have:=most_pos a.2.2.2.2.2.2.2.2.1;omega
 ·rw[xT,xT];refine nmE_n hp ?_ fun hg=> ?_
  ·unfold namesL;rw[List.length_map];exact Nat.le_trans page_len (by omega)
  ·have:=page_more hg;have:=most_pos a.2.2.2.2.2.2.2.2.1;unfold namesL;rw[List.length_map];omega
def eqAll:List VerD→List VerD→Bool
 |[],[]=>true
 |x::a,y::b=>(x.1==y.1&&(x.2.1==y.2.1&&(x.2.2.1==y.2.2.1&&true)))&&eqAll a b
 |_,_=>false
noncomputable def eqStep (l l2:List VerD) (i:Int) (nx:BO):BO:=
 bif decide (i<(l.length:Int)) then(bif !((l.getD i.toNat (VerT).dflt).1==(l2.getD i.toNat (VerT).dflt).1&&((l.getD i.toNat (VerT).dflt).2.1==(l2.getD i.toNat (VerT).dflt).2.1&&((l.getD i.toNat (VerT).dflt).2.2.1==(l2.getD i.toNat (VerT).dflt).2.2.1&&true))) then gd (gI l2 i++gI l i) (bO false) else gd (decide (inK .i64 (i+1))::(gI l2 i++gI l i)) nx) else bO true
def eqEN (a b:EntD):Bool:=a.1==b.1&&eqAll a.2.1 b.2.1
def eqEP (a:EntD):Bool:=decide (a.2.1.length≤1000000)
noncomputable def eqES:PSpec:=⟨[EntT,EntT],[.bool],fun x=>eqEP x.1,fun x=>(eqEN x.1 x.2.1,())⟩
theorem eqAll_len:∀(a b:List VerD),a.length≠b.length→eqAll a b=false
 |[],[],h=>absurd rfl h
 |[],_::_,_=>rfl
 |_::_,[],_=>rfl
 |x::a,y::b,h=>by
  show(_&&eqAll a b)=false;rw[eqAll_len a b (by simpa using h),Bool.and_false]
theorem eqAll_refl:∀a:List VerD,eqAll a a=true
 |[]=>rfl
 |x::a=>by
  show((x.1==x.1&&(x.2.1==x.2.1&&(x.2.2.1==x.2.2.1&&true)))&&eqAll a a)=true;rw[eqAll_refl a,beq_self_eq_true,beq_self_eq_true,beq_self_eq_true];rfl
theorem eqEN_refl (e:EntD):eqEN e e=true:=by
 unfold eqEN;rw[beq_self_eq_true,eqAll_refl];rfl
def stN (s:StD):StD:=(s.1,(s.2.1.take 42).map lentN,s.2.2.1.take 103,s.2.2.2.1,())
def stP (s:StD):Bool:=s.2.1.all fun e=>decide (e.2.1.length≤140737488355328)
noncomputable def stS:PSpec:=⟨[StT],[StT],fun x=>stP x.1,fun x=>(stN x.1,())⟩
abbrev SO1:=Option (DenL [StT])
noncomputable def stEnd (q:Int) (m:List MemoD) (L:LowD) (o:List EntD):SO1:=gd [decide ((2*(0+(cutL m none (some (min (m.length:Int) 103))).length)+400)*24≤281474976710656),decide (0≤min (m.length:Int) 103),decide (min (m.length:Int) 103≤(m.length:Int))] (some ((q,o,[]++cutL m none (some (min (m.length:Int) 103)),L,()),()))
noncomputable def stStep (q:Int) (l:List EntD) (m:List MemoD) (L:LowD) (o:List EntD) (i:Int) (nx:List EntD→SO1):SO1:=
 bif decide (i<(l.length:Int)) then(bif decide (i<42) then gd (decide (inK .i64 (i+1))::decide ((2*(o.length+[lentN ((l.getD i.toNat (EntT).dflt).1,(l.getD i.toNat (EntT).dflt).2.1,())].length)+400)*40≤281474976710656)::decide ((l.getD i.toNat (EntT).dflt).2.1.length≤140737488355328)::gI l i) (nx (o++[lentN ((l.getD i.toNat (EntT).dflt).1,(l.getD i.toNat (EntT).dflt).2.1,())])) else stEnd q m L o) else stEnd q m L o
theorem stEnd_n {q:Int} {m:List MemoD} {L:LowD} {o:List EntD}:stEnd q m L o=some ((q,o,m.take 103,L,()),()):=by
 unfold stEnd;have hc:cutL m none (some (min (m.length:Int) 103))=m.take 103:=by
  show m.take (min (m.length:Int) 103).toNat=m.take 103;by_cases hl:m.length≤103
  ·rw[Int.min_eq_left (by omega),List.take_of_length_le (by omega),List.take_of_length_le hl]
  ·rw[Int.min_eq_right (by omega)];rfl
 have hl:(m.take 103).length≤103:=by rw[List.length_take];omega
 rw[hc,gdT (by omega),gdT (by omega),gdT (by omega),xG,List.nil_append]
theorem st_l {q:Int} {l:List EntD} {m:List MemoD} {L:LowD} {h:Nat→List EntD→Int→SO1} (he:∀N o i,h (N+1) o i=stStep q l m L o i (fun o'=>h N o' (i+1))) (hv:∀e,e∈l→e.2.1.length≤140737488355328):
  ∀(r i N:Nat) (o:List EntD),min l.length 42=i+r→r<N→o.length≤i→h N o (i:Int)=some ((q,o++((l.take 42).drop i).map lentN,m.take 103,L,()),()):=by
 intro r
 induction r with
 |zero=>
  intro i N o hi hN ho;obtain⟨N,rfl⟩:∃k,N=k+1:=⟨N-1,by omega⟩
  rw[he];unfold stStep;rw[List.drop_eq_nil_of_le (by rw[List.length_take];omega),List.map_nil,List.append_nil];by_cases h1:(i:Int)<(l.length:Int)
  ·rw[cdT h1,cdF (by omega),stEnd_n]
  ·rw[cdF h1,stEnd_n]
 |succ r ih=>
  intro i N o hi hN ho;obtain⟨N,rfl⟩:∃k,N=k+1:=⟨N-1,by omega⟩
  have hlt:i<l.length:=by omega
  have hlt2:i<(l.take 42).length:=by rw[List.length_take];omega
  have hd:(l.take 42).drop i=entAt l i::(l.take 42).drop (i+1):=by
   rw[List.drop_eq_getElem_cons hlt2];congr 1;unfold entAt;rw[List.getElem_take,List.getD_eq_getElem?_getD,List.getElem?_eq_getElem hlt];rfl
  have hm:entAt l i∈l:=by
   show l.getD i _∈l;rw[List.getD_eq_getElem?_getD,List.getElem?_eq_getElem hlt];exact List.getElem_mem hlt
  have:=ih (i+1) N (o++[lentN (entAt l i)]) (by omega) (by omega) (by rw[List.length_append,List.length_singleton];omega);simp only[Int.natCast_add,Int.natCast_one] at this;rw[he];unfold stStep;rw[cdT (by omega),cdT (by omega),gdT (inK_i64.2 ⟨by omega,by omega⟩),gdT (by simp only[List.length_singleton];omega),gdT (show(l.getD (i:Int).toNat (EntT).dflt).2.1.length≤140737488355328 from hv _ hm),gJ_ok0 hlt,hd,List.map_cons]
  refine this.trans ?_;rw[List.append_assoc,List.singleton_append]
end Nice
namespace Go.Proofs.YtldllfocpadkeaaGreatDoor
open Go Go.Eng Nice
set_option maxRecDepth 1000000
noncomputable def orhome (x:DenL [IT]):IO1:=fO Tryz.prog (envS []) (shOf []) Tryz.f51 [IT] [IT] x
theorem erhome (n:Int):orhome (n,())=rhE n:=by kernel_rfl
theorem rhome_c:PC 51 homeS:=(pureO (envS_ok (l:=[]) trivial) gl_ne Tryz.func51 (by kernel_rfl) (by decide)).nice fun⟨n,()⟩ _=>(erhome n).trans (rhE_n n)
abbrev shrb:List (Nat×List (Nat×Sh)):=[(4,[(1,(.obj [.sym,(.dat EntT),(.dat MemoT),.sym,.sym,.sym,.sym,.sym])),(2,(.one .sym)),(3,(.one .sym))]),(14,[(1,(.obj [.sym,(.dat EntT),(.dat MemoT),.sym,.sym,.sym,.sym,.sym])),(2,(.one .sym)),(5,(.one .sym))])]
noncomputable abbrev enRB:Eng.Env:=envS [(50,entS),(51,homeS)]
noncomputable def hrb0 (N:Nat) (q:Int) (l:List EntD) (m:List MemoD) (a b c d e:Int) (i:Int):BO:=rH Tryz.prog enRB (shOf shrb) Tryz.f15 [.bool] N 0 [(1,.pointer (some ⟨12,0,none⟩)),(2,.bool false),(3,sy (.int .i64 i))] [.dat EntT l,.dat MemoT m,rowBM q (a,b,c,d,e,())]
noncomputable def hrb2 (N:Nat) (q:Int) (l:List EntD) (m:List MemoD) (a b c d e:Int) (i:Int):BO:=rH Tryz.prog enRB (shOf shrb) Tryz.f15 [.bool] N 2 [(1,.pointer (some ⟨12,0,none⟩)),(2,.bool false),(5,sy (.int .i64 i))] [.dat EntT l,.dat MemoT m,rowBM q (a,b,c,d,e,())]
noncomputable def orb (x:DenL [StT]):BO:=fO Tryz.prog enRB (shOf shrb) Tryz.f15 [StT] [.bool] x
theorem orb_g (x:DenL [StT]):orb x=fON Tryz.prog enRB (shOf shrb) Tryz.f15 [StT] [.bool] heads0 x:=rfl
theorem erb_g (N:Nat) (q:Int) (l:List EntD) (m:List MemoD) (a b c d e:Int):fON Tryz.prog enRB (shOf shrb) Tryz.f15 [StT] [.bool] N ((q,l,m,(a,b,c,d,e,()),()),())=
 (bif decide (q<0) then bO false else bif decide (q>1099511627776) then bO false else bif decide ((l.length:Int)>40) then bO false else bif decide ((m.length:Int)>100) then bO false else hrb0 N q l m a b c d e 0):=by kernel_rfl
theorem erb_0 (N:Nat) (q:Int) (l:List EntD) (m:List MemoD) (a b c d e:Int) (i:Int):hrb0 (N+1) q l m a b c d e i=rbStep q l i (hrb0 N q l m a b c d e (i+1)) (lowsE (a,b,c,d,e,()) (hrb2 N q l m a b c d e 0)):=by kernel_rfl
theorem erb_2 (N:Nat) (q:Int) (l:List EntD) (m:List MemoD) (a b c d e:Int) (i:Int):hrb2 (N+1) q l m a b c d e i=rmStep q (a,b,c,d,e,()) m i (hrb2 N q l m a b c d e (i+1)):=by kernel_rfl
theorem rb2_l (q:Int) (l:List EntD) (m:List MemoD) (a b c d e:Int) (hm:m.length≤100):∀(r i N:Nat),m.length=i+r→r<N→hrb2 N q l m a b c d e (i:Int)=bO (allFr (bMem q (a,b,c,d,e,()) m) r i):=by
 intro r
 induction r with
 |zero=>
  intro i N hi hN;obtain⟨N,rfl⟩:∃k,N=k+1:=⟨N-1,by omega⟩
  rw[erb_2];unfold rmStep;rw[cdF (by omega)];rfl
 |succ r ih=>
  intro i N hi hN;obtain⟨N,rfl⟩:∃k,N=k+1:=⟨N-1,by omega⟩
  have this:=ih (i+1) N (by omega) (by omega);simp only[Int.natCast_add,Int.natCast_one] at this;rw[erb_2];unfold rmStep;rw[cdT (by omega),gJ_ok0 (by omega)];exact rmE_n hm (by omega) this
theorem rb0_l (q:Int) (l:List EntD) (m:List MemoD) (a b c d e:Int) (hl:l.length≤40) (hm:m.length≤100) (hp:∀x,x∈l→entP x=true):∀(r i N:Nat),l.length=i+r→r+101<N→hrb0 N q l m a b c d e (i:Int)=bO (allFr (bEnt q l) r i&&(bLows (a,b,c,d,e,())&&allFr (bMem q (a,b,c,d,e,()) m) m.length 0)):=by
 intro r
 induction r with
 |zero=>
  intro i N hi hN;obtain⟨N,rfl⟩:∃k,N=k+1:=⟨N-1,by omega⟩
  have this:=rb2_l q l m a b c d e hm m.length 0 N (by omega) (by omega);rw[erb_0];unfold rbStep;rw[cdF (by omega)];exact lowsE_n this
 |succ r ih=>
  intro i N hi hN;obtain⟨N,rfl⟩:∃k,N=k+1:=⟨N-1,by omega⟩
  have hlt:i<l.length:=by omega
  have this:=ih (i+1) N (by omega) (by omega);simp only[Int.natCast_add,Int.natCast_one] at this;have hpi:entP (entAt l i)=true:=hp _ (by
   show l.getD i _∈l;rw[List.getD_eq_getElem?_getD,List.getElem?_eq_getElem hlt];exact List.getElem_mem hlt)
  rw[erb_0];unfold rbStep;rw[cdT (by omega)];refine(rbE_n hl hlt hpi this).trans ?_;show bO (_&&(_&&_))=bO ((_&&_)&&_);rw[Bool.and_assoc]
theorem rb_n (q:Int) (l:List EntD) (m:List MemoD) (a b c d e:Int) (h:l.all entP=true):orb ((q,l,m,(a,b,c,d,e,()),()),())=bO (bmayN (q,l,m,(a,b,c,d,e,()),())):=by
 have hp:=List.all_eq_true.1 h;show orb _=bO (decide (0≤q)&&(decide (q≤1099511627776)&&(decide (l.length≤40)&&(decide (m.length≤100)&&(allFr (bEnt q l) l.length 0&&(bLows (a,b,c,d,e,())&&allFr (bMem q (a,b,c,d,e,()) m) m.length 0))))));rw[orb_g,erb_g];by_cases h1:q<0
 ·rw[cdT h1,decide_eq_false (show ¬0≤q by omega)];rfl
 rw[cdF h1,decide_eq_true (show 0≤q by omega)];by_cases h2:q>1099511627776
 ·rw[cdT h2,decide_eq_false (show ¬q≤1099511627776 by omega)];rfl
 rw[cdF h2,decide_eq_true (show q≤1099511627776 by omega)];by_cases h3:(l.length:Int)>40
 ·rw[cdT h3,decide_eq_false (show ¬l.length≤40 by omega)];rfl
 rw[cdF h3,decide_eq_true (show l.length≤40 by omega)];by_cases h4:(m.length:Int)>100
 ·rw[cdT h4,decide_eq_false (show ¬m.length≤100 by omega)];rfl
 rw[cdF h4,decide_eq_true (show m.length≤100 by omega)];exact rb0_l q l m a b c d e (by omega) (by omega) hp l.length 0 heads0 (by omega) (by unfold heads0;omega)
theorem rbmay_c:PC 15 bmayS:=(pureO (sh:=shOf shrb) (envS_ok (l:=[(50,entS),(51,homeS)]) ⟨rme_c,rhome_c,trivial⟩) gl_ne Tryz.func15 (by kernel_rfl) (by decide)).nice fun⟨⟨q,l,m,⟨a,b,c,d,e,()⟩,()⟩,()⟩ h=>rb_n q l m a b c d e h
noncomputable def ornow (x:DenL [EntT]):Option (DenL [VerT,.bool]):=fO Tryz.prog (envS []) (shOf []) Tryz.f43 [EntT] [VerT,.bool] x
theorem ernow (k:List UInt8) (l:List VerD):ornow ((k,l,()),())=nowE k l:=by kernel_rfl
theorem rnow_c:PC 43 nowS:=(pureO (envS_ok (l:=[]) trivial) gl_ne Tryz.func43 (by kernel_rfl) (by decide)).nice fun⟨⟨k,l,()⟩,()⟩ h=>by
 show ornow _=_;rw[ernow];exact nowE_n (of_decide_eq_true h)
abbrev shsm:List (Nat×List (Nat×Sh)):=[(4,[(1,(.one .sym)),(2,(.one .sym)),(3,(.one .sym)),(4,(.one .sym)),(5,(.obj [.sym,(.dat EntT),(.dat MemoT),.sym,.sym,.sym,.sym,.sym])),(10,(.one .any)),(11,(.one .sym)),(12,(.one (.vec EntT 44))),(13,(.one .sym))])]
noncomputable abbrev enSM:Eng.Env:=envS [(43,nowS)]
noncomputable def hsm (b0:Bool) (N:Nat) (p f:List UInt8) (k:Int) (q:Int) (l:List EntD) (m:List MemoD) (a b c d e:Int) (o:List EntD) (i:Int):PO:=rH Tryz.prog enSM (shOf shsm) Tryz.f98 [.slice EntT,.bool] N 0 [(1,sy (.string (bs p))),(2,sy (.string (bs f))),(3,sy (.int .i64 k)),(4,.bool b0),(5,.pointer (some ⟨12,0,none⟩)),(10,Value.slice none 0 0),(11,.bool false),(12,dt 13),(13,sy (.int .i64 i))] [.dat EntT l,.dat MemoT m,rowBM q (a,b,c,d,e,()),.vec EntT o 44]
noncomputable def osm (x:DenL [StT,.str,.str,IT,.bool]):PO:=fO Tryz.prog enSM (shOf shsm) Tryz.f98 [StT,.str,.str,IT,.bool] [.slice EntT,.bool] x
theorem osm_g (x:DenL [StT,.str,.str,IT,.bool]):osm x=fON Tryz.prog enSM (shOf shsm) Tryz.f98 [StT,.str,.str,IT,.bool] [.slice EntT,.bool] heads0 x:=rfl
theorem esmT_g (N:Nat) (q:Int) (l:List EntD) (m:List MemoD) (a b c d e:Int) (p f:List UInt8) (k:Int):fON Tryz.prog enSM (shOf shsm) Tryz.f98 [StT,.str,.str,IT,.bool] [.slice EntT,.bool] N ((q,l,m,(a,b,c,d,e,()),()),p,f,k,true,())=hsm true N p f (max 1 (min k 20)) q l m a b c d e [] 0:=by kernel_rfl
theorem esmF_g (N:Nat) (q:Int) (l:List EntD) (m:List MemoD) (a b c d e:Int) (p f:List UInt8) (k:Int):fON Tryz.prog enSM (shOf shsm) Tryz.f98 [StT,.str,.str,IT,.bool] [.slice EntT,.bool] N ((q,l,m,(a,b,c,d,e,()),()),p,f,k,false,())=hsm false N p f (max 1 (min k 20)) q l m a b c d e [] 0:=by kernel_rfl
theorem esmT_0 (N:Nat) (p f:List UInt8) (k:Int) (q:Int) (l:List EntD) (m:List MemoD) (a b c d e:Int) (o:List EntD) (i:Int):hsm true (N+1) p f k q l m a b c d e o i=smStep true p f k l o i (fun o'=>hsm true N p f k q l m a b c d e o' (i+1)):=by kernel_rfl
theorem esmF_0 (N:Nat) (p f:List UInt8) (k:Int) (q:Int) (l:List EntD) (m:List MemoD) (a b c d e:Int) (o:List EntD) (i:Int):hsm false (N+1) p f k q l m a b c d e o i=smStep false p f k l o i (fun o'=>hsm false N p f k q l m a b c d e o' (i+1)):=by kernel_rfl
theorem sm_n (b0:Bool) {s:StD} (h:pageP s=true) (p f:List UInt8) (k:Int):osm (s,p,f,k,b0,())=some (pageL s p f k b0,pageM s p f k b0,()):=by
 obtain⟨q,l,m,⟨a,b,c,d,e,⟨⟩⟩,⟨⟩⟩:=s;obtain⟨h1,h2⟩:=pageP_h h;have h0:=most_nn k;cases b0
 ·rw[osm_g,esmF_g,most_eq];exact sm_l (b:=false) (p:=p) (f:=f) (k:=mostN k) (l:=l) (h:=fun N o i=>hsm false N p f (mostN k) q l m a b c d e o i) (fun N o i=>esmF_0 N p f (mostN k) q l m a b c d e o i) h0 h1 h2 l.length 0 heads0 [] (by omega) (Nat.lt_of_le_of_lt h1 (by unfold heads0;omega)) (Nat.le_refl _) (by simpa using h0)
 ·rw[osm_g,esmT_g,most_eq];exact sm_l (b:=true) (p:=p) (f:=f) (k:=mostN k) (l:=l) (h:=fun N o i=>hsm true N p f (mostN k) q l m a b c d e o i) (fun N o i=>esmT_0 N p f (mostN k) q l m a b c d e o i) h0 h1 h2 l.length 0 heads0 [] (by omega) (Nat.lt_of_le_of_lt h1 (by unfold heads0;omega)) (Nat.le_refl _) (by simpa using h0)
theorem some_c (b0:Bool):PC 98 (someS b0):=(pureO (sh:=shOf shsm) (envS_ok (l:=[(43,nowS)]) ⟨rnow_c,trivial⟩) gl_ne Tryz.func98 (by kernel_rfl) (by decide)).nice fun⟨s,p,f,k,b,()⟩ h=>sm_n b (by
 have h:(pageP s&&b==b0)=true:=h;rw[Bool.and_eq_true] at h;exact h.1) p f k
end Go.Proofs.YtldllfocpadkeaaGreatDoor
namespace Go.Proofs.YtldllfocpadkeaaGreatDoor
open Go Go.Eng Nice
set_option maxRecDepth 1000000
abbrev shrnm:List (Nat×List (Nat×Sh)):=[(4,[(8,(.one .any)),(9,(.one .sym)),(10,(.one (.dat EntT))),(11,(.one .sym)),(12,(.one (.vec .str 9))),(13,(.one .sym))])]
noncomputable abbrev enRN:Eng.Env:=envS [(98,someS true)]
noncomputable def hrnm (N:Nat) (g:Bool) (o:List (List UInt8)) (l:List EntD) (i:Int):KO:=rH Tryz.prog enRN (shOf shrnm) Tryz.f55 [.slice .str,.bool] N 0 [(8,Value.slice none 0 0),(9,.bool false),(10,dt 10),(11,.bool g),(12,dt 11),(13,sy (.int .i64 i))] [.dat EntT l,.vec .str o 9]
noncomputable def ornm (x:DenL [StT,.str,.str,IT]):KO:=fO Tryz.prog enRN (shOf shrnm) Tryz.f55 [StT,.str,.str,IT] [.slice .str,.bool] x
theorem ornm_g (x:DenL [StT,.str,.str,IT]):ornm x=fON Tryz.prog enRN (shOf shrnm) Tryz.f55 [StT,.str,.str,IT] [.slice .str,.bool] heads0 x:=rfl
noncomputable def rnmB (N:Nat) (s:StD) (p f:List UInt8) (k:Int):KO:=bif pageM s p f k true then gd [pageP s&&true==true] (hrnm N true [] (pageL s p f k true) 0) else gd [pageP s&&true==true] (hrnm N false [] (pageL s p f k true) 0)
theorem ernm_g (N:Nat) (q:Int) (l:List EntD) (m:List MemoD) (a b c d e:Int) (p f:List UInt8) (k:Int):fON Tryz.prog enRN (shOf shrnm) Tryz.f55 [StT,.str,.str,IT] [.slice .str,.bool] N ((q,l,m,(a,b,c,d,e,()),()),p,f,k,())=rnmB N (q,l,m,(a,b,c,d,e,()),()) p f k:=by kernel_rfl
theorem ernmT_0 (N:Nat) (o:List (List UInt8)) (l:List EntD) (i:Int):hrnm (N+1) true o l i=nmStep true l o (l.length:Int) i (fun o'=>hrnm N true o' l (i+1)):=by kernel_rfl
theorem ernmF_0 (N:Nat) (o:List (List UInt8)) (l:List EntD) (i:Int):hrnm (N+1) false o l i=nmStep false l o (l.length:Int) i (fun o'=>hrnm N false o' l (i+1)):=by kernel_rfl
theorem rnm_n {s:StD} (h:pageP s=true) (p f:List UInt8) (k:Int):ornm (s,p,f,k,())=some (namesL s p f k true,pageM s p f k true,()):=by
 obtain⟨q,l,m,⟨a,b,c,d,e,⟨⟩⟩,⟨⟩⟩:=s;rw[ornm_g,ernm_g];unfold rnmB;have hl:=page_len (s:=(q,l,m,(a,b,c,d,e,()),())) (p:=p) (f:=f) (k:=k) (b:=true);have hh:(pageL (q,l,m,(a,b,c,d,e,()),()) p f k true).length<heads0:=Nat.lt_of_le_of_lt hl (by unfold heads0;omega);have hp:(pageP (q,l,m,(a,b,c,d,e,()),())&&true==true)=true:=by rw[h];rfl
 cases pageM (q,l,m,(a,b,c,d,e,()),()) p f k true
 ·rw[xF,gdB hp,xG];exact nm_l (h:=fun N o i=>hrnm N false o (pageL (q,l,m,(a,b,c,d,e,()),()) p f k true) i) (fun N o i=>ernmF_0 N o _ i) (by omega) _ 0 heads0 [] (Nat.zero_add _).symm hh (Nat.le_refl _)
 ·rw[xT,gdB hp,xG];exact nm_l (h:=fun N o i=>hrnm N true o (pageL (q,l,m,(a,b,c,d,e,()),()) p f k true) i) (fun N o i=>ernmT_0 N o _ i) (by omega) _ 0 heads0 [] (Nat.zero_add _).symm hh (Nat.le_refl _)
theorem rnames_c:PC 55 namesS:=(pureO (sh:=shOf shrnm) (envS_ok (l:=[(98,someS true)]) ⟨some_c true,trivial⟩) gl_ne Tryz.func55 (by kernel_rfl) (by decide)).nice fun⟨s,p,f,k,()⟩ h=>rnm_n h p f k
noncomputable def orvs (x:DenL [StT,.str,.str,IT]):PO:=fO Tryz.prog (envS [(98,someS false)]) (shOf []) Tryz.f56 [StT,.str,.str,IT] [.slice EntT,.bool] x
noncomputable def rvsB (s:StD) (p f:List UInt8) (k:Int):PO:=bif pageM s p f k false then gd [pageP s&&false==false] (some (pageL s p f k false,true,())) else gd [pageP s&&false==false] (some (pageL s p f k false,false,()))
theorem ervs (q:Int) (l:List EntD) (m:List MemoD) (a b c d e:Int) (p f:List UInt8) (k:Int):orvs ((q,l,m,(a,b,c,d,e,()),()),p,f,k,())=rvsB (q,l,m,(a,b,c,d,e,()),()) p f k:=by kernel_rfl
theorem rvers_c:PC 56 versS:=(pureO (envS_ok (l:=[(98,someS false)]) ⟨some_c false,trivial⟩) gl_ne Tryz.func56 (by kernel_rfl) (by decide)).nice fun⟨⟨q,l,m,⟨a,b,c,d,e,()⟩,()⟩,p,f,k,()⟩ h=>by
 have h:pageP (q,l,m,(a,b,c,d,e,()),())=true:=h;have hp:(pageP (q,l,m,(a,b,c,d,e,()),())&&false==false)=true:=by rw[h];rfl
 show orvs _=some (pageL (q,l,m,(a,b,c,d,e,()),()) p f k false,pageM (q,l,m,(a,b,c,d,e,()),()) p f k false,());rw[ervs];unfold rvsB;cases pageM (q,l,m,(a,b,c,d,e,()),()) p f k false
 ·rw[xF,gdB hp,xG]
 ·rw[xT,gdB hp,xG]
noncomputable def orleaf (x:DenL [StT,AskT]):HO1:=fO Tryz.prog (envS [(55,namesS),(56,versS)]) (shOf []) Tryz.f19 [StT,AskT] [ShT] x
theorem erleaf (q:Int) (l:List EntD) (m:List MemoD) (a b c d e:Int) (kd:Int) (key:List UInt8) (v:Int) (bo:List UInt8) (co:Int) (t p f:List UInt8) (mx:Int) (ba:Bool):orleaf ((q,l,m,(a,b,c,d,e,()),()),(kd,key,v,bo,co,t,p,f,mx,ba,()),())=rleafE (q,l,m,(a,b,c,d,e,()),()) (kd,key,v,bo,co,t,p,f,mx,ba,()):=by kernel_rfl
theorem rleaf_c:PC 19 rleafS:=(pureO (envS_ok (l:=[(55,namesS),(56,versS)]) ⟨rnames_c,rvers_c,trivial⟩) gl_ne Tryz.func19 (by kernel_rfl) (by decide)).nice fun⟨⟨q,l,m,⟨a,b,c,d,e,()⟩,()⟩,⟨kd,key,v,bo,co,t,p,f,mx,ba,()⟩,()⟩ h=>(erleaf q l m a b c d e kd key v bo co t p f mx ba).trans (rleafE_n h)
abbrev shee:List (Nat×List (Nat×Sh)):=[(4,[(2,(.obj [.sym,(.dat VerT)])),(3,(.obj [.sym,(.dat VerT)])),(4,(.one .sym)),(5,(.one .sym))])]
noncomputable def hee (N:Nat) (k:List UInt8) (l:List VerD) (k2:List UInt8) (l2:List VerD) (i:Int):BO:=rH Tryz.prog (envS []) (shOf shee) Tryz.f20 [.bool] N 0 [(2,.pointer (some ⟨11,0,none⟩)),(3,.pointer (some ⟨13,0,none⟩)),(4,.bool false),(5,sy (.int .i64 i))] [.dat VerT l,.row [sy (.string (bs k)),dt 10] 44 false,.dat VerT l2,.row [sy (.string (bs k2)),dt 12] 44 false]
noncomputable def oee (x:DenL [EntT,EntT]):BO:=fO Tryz.prog (envS []) (shOf shee) Tryz.f20 [EntT,EntT] [.bool] x
theorem oee_g (x:DenL [EntT,EntT]):oee x=fON Tryz.prog (envS []) (shOf shee) Tryz.f20 [EntT,EntT] [.bool] heads0 x:=rfl
theorem eee_g (N:Nat) (k:List UInt8) (l:List VerD) (k2:List UInt8) (l2:List VerD):fON Tryz.prog (envS []) (shOf shee) Tryz.f20 [EntT,EntT] [.bool] N ((k,l,()),(k2,l2,()),())=(bif !k==k2 then bO false else bif (l.length:Int) !=(l2.length:Int) then bO false else hee N k l k2 l2 0):=by kernel_rfl
theorem eee_0 (N:Nat) (k:List UInt8) (l:List VerD) (k2:List UInt8) (l2:List VerD) (i:Int):hee (N+1) k l k2 l2 i=eqStep l l2 i (hee N k l k2 l2 (i+1)):=by kernel_rfl
theorem ee_l (k:List UInt8) (l:List VerD) (k2:List UInt8) (l2:List VerD) (hl:l.length=l2.length) (hb:l.length≤1000000):∀(r i N:Nat),l.length=i+r→r<N→hee N k l k2 l2 (i:Int)=bO (eqAll (l.drop i) (l2.drop i)):=by
 intro r
 induction r with
 |zero=>
  intro i N hi hN;obtain⟨N,rfl⟩:∃k,N=k+1:=⟨N-1,by omega⟩
  rw[eee_0];unfold eqStep;rw[cdF (by omega),List.drop_eq_nil_of_le (by omega),List.drop_eq_nil_of_le (by omega)];rfl
 |succ r ih=>
  intro i N hi hN;obtain⟨N,rfl⟩:∃k,N=k+1:=⟨N-1,by omega⟩
  have hlt:i<l.length:=by omega
  have hlt2:i<l2.length:=by omega
  have dr:∀m:List VerD,i<m.length→m.drop i=m.getD i (VerT).dflt::m.drop (i+1):=fun m hm=>by
   rw[List.drop_eq_getElem_cons hm,List.getD_eq_getElem?_getD,List.getElem?_eq_getElem hm];rfl
  have this:=ih (i+1) N (by omega) (by omega);simp only[Int.natCast_add,Int.natCast_one] at this;rw[eee_0];unfold eqStep;rw[cdT (by omega),show(i:Int).toNat=i from rfl,dr l hlt,dr l2 hlt2,this];show _=bO ((_&&(_&&(_&&true)))&&eqAll (l.drop (i+1)) (l2.drop (i+1)));cases((l.getD i (VerT).dflt).1==(l2.getD i (VerT).dflt).1&&((l.getD i (VerT).dflt).2.1==(l2.getD i (VerT).dflt).2.1&&((l.getD i (VerT).dflt).2.2.1==(l2.getD i (VerT).dflt).2.2.1&&true)))
  ·rw[show(!false)=true from rfl,xT,gJ_ok hlt2,gJ_ok0 hlt];rfl
  ·rw[show(!true)=false from rfl,xF,gdT (inK_i64.2 ⟨by omega,by omega⟩),gJ_ok hlt2,gJ_ok0 hlt];rfl
theorem ee_n {k:List UInt8} {l:List VerD} {k2:List UInt8} {l2:List VerD} (hb:l.length≤1000000):oee ((k,l,()),(k2,l2,()),())=bO (eqEN (k,l,()) (k2,l2,())):=by
 rw[oee_g,eee_g];unfold eqEN;dsimp only;cases k==k2
 ·rw[show(!false)=true from rfl,xT];rfl
 ·rw[show(!true)=false from rfl,xF,Bool.true_and];by_cases h:l.length=l2.length
  ·rw[show((l.length:Int) !=(l2.length:Int))=false from by rw[bne_eq_false_iff_eq];omega,xF];exact ee_l k l k2 l2 h hb l.length 0 heads0 (by omega) (Nat.lt_of_le_of_lt hb (by unfold heads0;omega))
  ·rw[show((l.length:Int) !=(l2.length:Int))=true from by rw[bne_iff_ne];omega,xT,eqAll_len _ _ h]
theorem eqE_c:PC 20 eqES:=(pureO (sh:=shOf shee) (envS_ok (l:=[]) trivial) gl_ne Tryz.func20 (by kernel_rfl) (by decide)).nice fun⟨⟨k,l,()⟩,⟨k2,l2,()⟩,()⟩ h=>ee_n (of_decide_eq_true h)
abbrev shst:List (Nat×List (Nat×Sh)):=[(3,[(1,(.obj [.sym,(.dat EntT),(.dat MemoT),.sym,.sym,.sym,.sym,.sym])),(2,(.obj [.sym,.any,.any,.sym,.sym,.sym,.sym,.sym])),(3,(.one (.vec EntT 44))),(4,(.one .sym))])]
noncomputable def hst (N:Nat) (q:Int) (l:List EntD) (m:List MemoD) (a b c d e:Int) (o:List EntD) (i:Int):SO1:=rH Tryz.prog (envS [(49,lentS)]) (shOf shst) Tryz.f13 [StT] N 0 [(1,.pointer (some ⟨12,0,none⟩)),(2,.pointer (some ⟨13,0,none⟩)),(3,dt 14),(4,sy (.int .i64 i))] [.dat EntT l,.dat MemoT m,rowBM q (a,b,c,d,e,()),.row [sy (.int .i64 0),Value.slice none 0 0,Value.slice none 0 0,sy (.int .i64 0),sy (.int .i64 0),sy (.int .i64 0),sy (.int .i64 0),sy (.int .i64 0)] 26 false,.vec EntT o 44]
noncomputable def ost (x:DenL [StT]):SO1:=fO Tryz.prog (envS [(49,lentS)]) (shOf shst) Tryz.f13 [StT] [StT] x
theorem ost_g (x:DenL [StT]):ost x=fON Tryz.prog (envS [(49,lentS)]) (shOf shst) Tryz.f13 [StT] [StT] heads0 x:=rfl
theorem est_g (N:Nat) (q:Int) (l:List EntD) (m:List MemoD) (a b c d e:Int):fON Tryz.prog (envS [(49,lentS)]) (shOf shst) Tryz.f13 [StT] [StT] N ((q,l,m,(a,b,c,d,e,()),()),())=hst N q l m a b c d e [] 0:=by kernel_rfl
theorem est_0 (N:Nat) (q:Int) (l:List EntD) (m:List MemoD) (a b c d e:Int) (o:List EntD) (i:Int):hst (N+1) q l m a b c d e o i=stStep q l m (a,b,c,d,e,()) o i (fun o'=>hst N q l m a b c d e o' (i+1)):=by kernel_rfl
theorem st_n {q:Int} {l:List EntD} {m:List MemoD} {a b c d e:Int} (hv:∀x,x∈l→x.2.1.length≤140737488355328):ost ((q,l,m,(a,b,c,d,e,()),()),())=some (stN (q,l,m,(a,b,c,d,e,()),()),()):=by
 rw[ost_g,est_g];exact st_l (h:=fun N o i=>hst N q l m a b c d e o i) (fun N o i=>est_0 N q l m a b c d e o i) hv (min l.length 42) 0 heads0 [] (by omega) (Nat.lt_of_le_of_lt (Nat.min_le_right _ 42) (by unfold heads0;omega)) (Nat.le_refl _)
theorem st_c:PC 13 stS:=(pureO (sh:=shOf shst) (envS_ok (l:=[(49,lentS)]) ⟨lent_c,trivial⟩) gl_ne Tryz.func13 (by kernel_rfl) (by decide)).nice fun⟨⟨q,l,m,⟨a,b,c,d,e,()⟩,()⟩,()⟩ h=>st_n fun x hx=>of_decide_eq_true (List.all_eq_true.1 (show(l.all fun e=>decide (e.2.1.length≤140737488355328))=true from h) x hx)
end Go.Proofs.YtldllfocpadkeaaGreatDoor
namespace Nice
open Go Go.Eng
noncomputable def eqB0 (P W:ShD):BO:=bif eqShN P W then gd [eqShP P] (bO true) else gd [eqShP P] (bO false)
noncomputable def laStep (P W:ShD) (i:Int) (nx:BO):BO:=
 bif decide (i<(P.2.1.length:Int)) then(bif decide (i<(W.2.1.length:Int)) then(bif eqEN ((P.2.1.getD i.toNat (EntT).dflt).1,(P.2.1.getD i.toNat (EntT).dflt).2.1,()) ((W.2.1.getD i.toNat (EntT).dflt).1,(W.2.1.getD i.toNat (EntT).dflt).2.1,()) then gd (decide (inK .i64 (i+1))::eqEP ((P.2.1.getD i.toNat (EntT).dflt).1,(P.2.1.getD i.toNat (EntT).dflt).2.1,())::(gI W.2.1 i++gI P.2.1 i)) nx
  else gd (eqEP ((P.2.1.getD i.toNat (EntT).dflt).1,(P.2.1.getD i.toNat (EntT).dflt).2.1,())::(gI W.2.1 i++gI P.2.1 i)) (bO false)) else eqB0 P W) else eqB0 P W
noncomputable def laB (s:StD) (A:AskD) (h0:ShD→ShD→BO):BO:=
 gd [stP s] (bif bmayN (stN s) then gd [leafP (stN s) A,bmayP (stN s)] (bif mayN A then(bif A.1 !=4 then(bif A.1 !=5 then gd [askP A] (eqB0 (leafN (stN s) A) zSh) else gd [pageP (stN s),askP A] (h0 (leafN (stN s) A) (leafB (stN s) A))) else gd [pageP (stN s),askP A] (h0 (leafN (stN s) A) (leafB (stN s) A))) else gd [askP A] (eqB0 (leafN (stN s) A) zSh)) else gd [bmayP (stN s)] (bO true))
theorem eqVs_refl:∀a:List VerD,eqVs a a=true
 |[]=>rfl
 |x::a=>by
  rw[eqVs_cons,eqVs_refl a];unfold eqV;rw[beq_self_eq_true,beq_self_eq_true];rfl
theorem eqEs_refl:∀a:List EntD,eqEs a a=true
 |[]=>rfl
 |x::a=>by
  rw[eqEs_cons,eqEs_refl a];unfold eqEn;rw[beq_self_eq_true,eqVs_refl];rfl
theorem eqShN_refl (a:ShD):eqShN a a=true:=by
 unfold eqShN;rw[beq_self_eq_true,eqEs_refl,beq_self_eq_true,beq_self_eq_true];rfl
theorem eqB0_refl {P:ShD} (h:eqShP P=true):eqB0 P P=bO true:=by
 unfold eqB0;rw[eqShN_refl,xT,gdB h,xG]
theorem la_l {P:ShD} {h:Nat→Int→BO} (he:∀N i,h (N+1) i=laStep P P i (h N (i+1))) (hP:eqShP P=true) (hl:P.2.1.length≤1000) (hv:∀e,e∈P.2.1→e.2.1.length≤1000000):∀(r i N:Nat),P.2.1.length=i+r→r<N→h N (i:Int)=bO true:=by
 intro r
 induction r with
 |zero=>
  intro i N hi hN;obtain⟨N,rfl⟩:∃k,N=k+1:=⟨N-1,by omega⟩
  rw[he];unfold laStep;rw[cdF (by omega),eqB0_refl hP]
 |succ r ih=>
  intro i N hi hN;obtain⟨N,rfl⟩:∃k,N=k+1:=⟨N-1,by omega⟩
  have hlt:i<P.2.1.length:=by omega
  have hm:P.2.1.getD (i:Int).toNat (EntT).dflt∈P.2.1:=by
   show P.2.1.getD i _∈P.2.1;rw[List.getD_eq_getElem?_getD,List.getElem?_eq_getElem hlt];exact List.getElem_mem hlt
  have:=ih (i+1) N (by omega) (by omega);simp only[Int.natCast_add,Int.natCast_one] at this;rw[he];unfold laStep;rw[cdT (by omega),cdT (by omega),eqEN_refl,xT,gdT (inK_i64.2 ⟨by omega,by omega⟩),gdB (show eqEP _=true from decide_eq_true (hv _ hm)),gJ_ok hlt,gJ_ok0 hlt];exact this
theorem lentN_bd (e:EntD):(lentN e).1.length≤42∧(lentN e).2.1.length≤14:=by
 unfold lentN;refine⟨lcut0 e.1 42,?_⟩;show((e.2.1.take 14).map cutV).length≤14;rw[List.length_map,List.length_take];omega
theorem stN_ent {s:StD} {e:EntD} (h:e∈(stN s).2.1):e.1.length≤42∧e.2.1.length≤14:=by
 have h:e∈(s.2.1.take 42).map lentN:=h;obtain⟨x, -,rfl⟩:=List.mem_map.1 h;exact lentN_bd x
theorem stN_bmayP (s:StD):bmayP (stN s)=true:=List.all_eq_true.2 fun e he=>by
 obtain⟨h1,h2⟩:=stN_ent he;unfold entP bndS;rw[Bool.and_eq_true,decide_eq_true_eq,decide_eq_true_eq];omega
theorem leafB_ent {s:StD} {a:AskD}:(∀e,e∈(leafB (stN s) a).2.1→e.2.1.length≤14)∧(leafB (stN s) a).1.length≤20∧(leafB (stN s) a).2.1.length≤20:=by
 unfold leafB;cases a.1==4
 ·cases a.1==5
  ·exact⟨(fun x h=>by cases h),(by show 0≤20;omega),(by show 0≤20;omega)⟩
  ·exact⟨(fun e h=>(stN_ent (List.mem_filter.1 (List.mem_of_mem_take h)).1).2),(by show 0≤20;omega),page_len⟩
 ·refine⟨(fun x h=>by cases h),?_,(by show 0≤20;omega)⟩;show((pageL (stN s) a.2.2.2.2.2.2.1 a.2.2.2.2.2.2.2.1 a.2.2.2.2.2.2.2.2.1 true).map (·.1)).length≤20;rw[List.length_map];exact page_len
theorem leafB_eqP {s:StD} {a:AskD}:eqShP (leafB (stN s) a)=true:=by
 obtain⟨h1,h2,h3⟩:=leafB_ent (s:=s) (a:=a);unfold eqShP;rw[Bool.and_eq_true,Bool.and_eq_true,decide_eq_true_eq,decide_eq_true_eq];refine⟨by omega,by omega,List.all_eq_true.2 fun e he=>decide_eq_true ?_⟩;have:=h1 e he;omega
theorem laB_n {s:StD} {A:AskD} {h0:ShD→ShD→BO} (hs:stP s=true) (hA:askP A=true) (hh:∀P:ShD,eqShP P=true→P.2.1.length≤20→(∀e,e∈P.2.1→e.2.1.length≤14)→h0 P P=bO true):laB s A h0=bO true:=by
 have hb:=stN_bmayP s;have hlp:leafP (stN s) A=true:=by unfold leafP;rw[hb,hA];rfl
 have hz:eqB0 zSh zSh=bO true:=eqB0_refl rfl;obtain⟨e1, -,e3⟩:=leafB_ent (s:=s) (a:=A);unfold laB;rw[gdB hs,xG];cases hm:bmayN (stN s)
 ·rw[xF,gdB hb,xG]
 have hp:=bmay_page hm;rw[xT,gdB hlp,gdB hb,xG];cases ha:mayN A
 ·have e:leafN (stN s) A=zSh:=by unfold leafN;rw[hm,ha];rfl
  rw[xF,gdB hA,xG,e,hz]
 have e:leafN (stN s) A=leafB (stN s) A:=by unfold leafN;rw[hm,ha];rfl
 have main:gd [pageP (stN s),askP A] (h0 (leafN (stN s) A) (leafB (stN s) A))=bO true:=by
  rw[gdB hp,gdB hA,xG,e];exact hh _ leafB_eqP e3 e1
 rw[xT];by_cases h4:A.1=4
 ·rw[show(A.1 !=4)=false from by rw[bne_eq_false_iff_eq];exact h4,xF];exact main
 ·rw[show(A.1 !=4)=true from bne_iff_ne.2 h4,xT];by_cases h5:A.1=5
  ·rw[show(A.1 !=5)=false from by rw[bne_eq_false_iff_eq];exact h5,xF];exact main
  ·have e2:leafB (stN s) A=zSh:=by
    unfold leafB;rw[show(A.1==4)=false from beq_eq_false_iff_ne.2 h4,show(A.1==5)=false from beq_eq_false_iff_ne.2 h5];rfl
   rw[show(A.1 !=5)=true from bne_iff_ne.2 h5,xT,gdB hA,xG,e,e2,hz]
end Nice
namespace Go.Proofs.YtldllfocpadkeaaGreatDoor
open Go Go.Eng Nice
set_option maxRecDepth 1000000
abbrev shLA:List (Nat×List (Nat×Sh)):=[(12,[(4,(.one .sym)),(6,(.obj [(.dat .str),(.dat EntT),.sym,.sym])),(7,(.obj [(.dat .str),(.dat EntT),.sym,.sym])),(8,(.one .sym))])]
noncomputable abbrev enLA:Eng.Env:=envS [(12,trueS),(13,stS),(14,acutS),(15,bmayS),(16,leafS),(17,mayDS),(18,eqShS),(19,rleafS),(20,eqES)]
noncomputable def hla (N:Nat) (P W:ShD) (i:Int):BO:=rH Tryz.prog enLA (shOf shLA) Tryz.f3 [.bool] N 0 [(4,.bool false),(6,.pointer (some ⟨12,0,none⟩)),(7,.pointer (some ⟨15,0,none⟩)),(8,sy (.int .i64 i))] [.dat .str P.1,.dat EntT P.2.1,.row [dt 10,dt 11,.bool P.2.2.1,sy (.string (bs P.2.2.2.1))] 35 false,.dat .str W.1,.dat EntT W.2.1,.row [dt 13,dt 14,.bool W.2.2.1,sy (.string (bs W.2.2.2.1))] 39 false]
noncomputable def ola (x:DenL [StT,AskT]):BO:=fO Tryz.prog enLA (shOf shLA) Tryz.f3 [StT,AskT] [.bool] x
theorem ola_g (x:DenL [StT,AskT]):ola x=fON Tryz.prog enLA (shOf shLA) Tryz.f3 [StT,AskT] [.bool] heads0 x:=rfl
theorem ela_g (N:Nat) (q:Int) (l:List EntD) (m:List MemoD) (a b c d e:Int) (kd:Int) (key:List UInt8) (v:Int) (bo:List UInt8) (co:Int) (t p f:List UInt8) (mx:Int) (ba:Bool):
 fON Tryz.prog enLA (shOf shLA) Tryz.f3 [StT,AskT] [.bool] N ((q,l,m,(a,b,c,d,e,()),()),(kd,key,v,bo,co,t,p,f,mx,ba,()),())=
 laB (q,l,m,(a,b,c,d,e,()),()) (acutN (kd,key,v,bo,co,t,p,f,mx,ba,())) (fun P W=>hla N P W 0):=by kernel_rfl
theorem ela_0 (N:Nat) (P W:ShD) (i:Int):hla (N+1) P W i=laStep P W i (hla N P W (i+1)):=by kernel_rfl
theorem la_n {s:StD} {a:AskD} (h1:stP s=true) (h3:i64P a.2.2.1=true) (h4:i64P a.2.2.2.2.2.2.2.2.1=true):ola (s,a,())=some (true,()):=by
 obtain⟨q,l,m,⟨a0,b0,c0,d0,e0,⟨⟩⟩,⟨⟩⟩:=s;obtain⟨kd,key,v,bo,co,t,p,f,mx,ba,⟨⟩⟩:=a;rw[ola_g,ela_g];refine laB_n h1 (acut_askP _ h3 h4) fun P p1 p2 p3=> ?_
 exact la_l (P:=P) (h:=fun N i=>hla N P P i) (fun N i=>ela_0 N P P i) p1 (by omega) (fun e he=>by have:=p3 e he;omega) P.2.1.length 0 heads0 (by omega) (Nat.lt_of_le_of_lt p2 (by unfold heads0;omega))
theorem la_c:PC 3 (ofO [StT,AskT] [.bool] ola):=pureO (sh:=shOf shLA) (envS_ok (l:=[(12,trueS),(13,stS),(14,acutS),(15,bmayS),(16,leafS),(17,mayDS),(18,eqShS),(19,rleafS),(20,eqES)]) ⟨begun19_c,st_c,acut_c,rbmay_c,leaf_c,am_c,eqsh_c,rleaf_c,eqE_c,trivial⟩) gl_ne Tryz.func3 (by kernel_rfl) (by decide)
theorem st_bd {s:StD} (h:∀x,x∈s.2.1→Bd EntT x):stP s=true:=List.all_eq_true.2 fun e he=>by
 have:=h e he;have h2:e.2.1.length≤reach:=this.2.1.1;exact decide_eq_true h2
theorem lawLA_run {w:World} (hgl:GlW glC w) {args:Array Value} {x:DenL [StT,AskT]} (hx:RdAll (fzW w) [StT,AskT] x args.toList) (hb:BdL [StT,AskT] x):Calls Tryz.prog 3 args w fun e w'=>e=.returned (.bool true)∧Same w w':=
 law_calls la_c (fun x hb=>by
  obtain⟨s1,a,⟨⟩⟩:=x;have:=la_n (s:=s1) (a:=a) (st_bd hb.1.2.1.2) (i64_bd hb.2.1.2.2.1) (i64_bd hb.2.1.2.2.2.2.2.2.2.2.1);exact⟨by show(ola (s1,a,())).isSome=true;rw[this];rfl,by show(ola (s1,a,())).getD _=_;rw[this];rfl⟩) hgl hx hb
end Go.Proofs.YtldllfocpadkeaaGreatDoor
