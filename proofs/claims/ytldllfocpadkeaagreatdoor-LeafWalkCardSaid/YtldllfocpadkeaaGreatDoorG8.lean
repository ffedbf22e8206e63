/-
  Part of the proof: ShW ShR ShX ShY BkR BkS LawLA LwW LwP. No condition.
-/
import Derived.Test.YtldllfocpadkeaaGreatDoorG7
import Derived.Test.YtldllfocpadkeaaGreatDoorG6
namespace Nice
open Go Go.Eng
def eqV (x y:VerD):Bool:=x.1==y.1&&x.2.1==y.2.1
def eqVs:List VerD→List VerD→Bool
 |[],[]=>true
 |x::a,y::b=>eqV x y&&eqVs a b
 |_,_=>false
end Nice
namespace Go.Proofs.YtldllfocpadkeaaGreatDoor
open Go Go.Eng Nice Go.RowKit
set_option maxRecDepth 1000000
abbrev shq:List (Nat×List (Nat×Sh)):=[(4,[(2,(.obj [(.dat .str),(.dat EntT),.sym,.sym])),(3,(.obj [(.dat .str),(.dat EntT),.sym,.sym])),(4,(.one .sym)),(5,(.one .sym))]),(9,[(2,(.obj [(.dat .str),(.dat EntT),.sym,.sym])),(3,(.obj [(.dat .str),(.dat EntT),.sym,.sym])),(4,(.one .sym)),(6,(.one .sym))]),(15,[(2,(.obj [(.dat .str),(.dat EntT),.sym,.sym])),(3,(.obj [(.dat .str),(.dat EntT),.sym,.sym])),(4,(.one .sym)),(6,(.one .sym)),(7,(.obj [.sym,(.dat VerT)])),(8,(.obj [.sym,(.dat VerT)])),(9,(.one .sym))])]
noncomputable def hq2 (N:Nat) (n:List (List UInt8)) (l:List EntD) (b:Bool) (x x2:List UInt8) (n2:List (List UInt8)) (l2:List EntD) (i:Int) (k:List UInt8) (v:List VerD) (k2:List UInt8) (v2:List VerD) (j:Int):BO:=rH Tryz.prog (envS []) (shOf shq) Tryz.f18 [.bool] N 2 [(2,.pointer (some ⟨12,0,none⟩)),(3,.pointer (some ⟨15,0,none⟩)),(4,.bool false),(6,sy (.int .i64 i)),(7,.pointer (some ⟨17,0,none⟩)),(8,.pointer (some ⟨19,0,none⟩)),(9,sy (.int .i64 j))] [.dat .str n,.dat EntT l,.row [dt 10,dt 11,.bool b,sy (.string (bs x))] 35 false,.dat .str n2,.dat EntT l2,.row [dt 13,dt 14,.bool b,sy (.string (bs x2))] 39 false,.dat VerT v,.row [sy (.string (bs k)),dt 16] 44 false,.dat VerT v2,.row [sy (.string (bs k2)),dt 18] 44 false]
end Go.Proofs.YtldllfocpadkeaaGreatDoor
namespace Nice
open Go Go.Eng
def rhStep (n lo hi k:Int) (nx:IO1):IO1:=bif decide (n>lo) then(bif decide (n<hi) then some (k,()) else nx) else nx
def rhE (n:Int):IO1:=rhStep n 4294967296 8589934592 1 (rhStep n 8589934592 12884901888 2 (rhStep n 12884901888 17179869184 3 (rhStep n 17179869184 21474836480 4 (rhStep n 21474836480 25769803776 5 (some (0,()))))))
theorem rhStep_in {n lo hi k:Int} {nx:IO1} (h1:lo<n) (h2:n<hi):rhStep n lo hi k nx=some (k,()):=by
 unfold rhStep;rw[cdT (by omega),cdT h2]
theorem rhStep_out {n lo hi k:Int} {nx:IO1} (h:n≤lo∨hi≤n):rhStep n lo hi k nx=nx:=by
 unfold rhStep;by_cases h1:n>lo
 ·rw[cdT h1,cdF (by omega)]
 ·rw[cdF h1]
theorem homeN_eq {n k:Int} (h0:1≤k) (h5:k≤5) (h1:k*4294967296<n) (h2:n<(k+1)*4294967296):homeN n=k:=by
 unfold homeN;have e1:n.tmod 4294967296=n%4294967296:=Int.tmod_eq_emod_of_nonneg (by omega);have e2:n.tdiv 4294967296=n/4294967296:=Int.tdiv_eq_ediv_of_nonneg (by omega);rw[decide_eq_false (show ¬n<4294967296 by omega),decide_eq_false (show ¬n≥25769803776 by omega),e1,e2,show(n%4294967296==0)=false from by rw[beq_eq_false_iff_ne];omega]
 show n/4294967296=k;omega
theorem homeN_zero {n:Int} (h:n≤4294967296∨25769803776≤n∨n%4294967296=0):homeN n=0:=by
 unfold homeN;by_cases h1:n<4294967296
 ·rw[decide_eq_true h1];rfl
 rw[decide_eq_false h1];by_cases h2:n≥25769803776
 ·rw[decide_eq_true h2];rfl
 rw[decide_eq_false h2];have e1:n.tmod 4294967296=n%4294967296:=Int.tmod_eq_emod_of_nonneg (by omega);rw[e1,show(n%4294967296==0)=true from beq_iff_eq.2 (by omega)];rfl
theorem rhE_n (n:Int):rhE n=some (homeN n,()):=by
 unfold rhE;by_cases h1:4294967296<n∧n<8589934592
 ·rw[rhStep_in h1.1 h1.2,homeN_eq (k:=1) (by omega) (by omega) (by omega) (by omega)]
 rw[rhStep_out (by omega)];by_cases h2:8589934592<n∧n<12884901888
 ·rw[rhStep_in h2.1 h2.2,homeN_eq (k:=2) (by omega) (by omega) (by omega) (by omega)]
 rw[rhStep_out (by omega)];by_cases h3:12884901888<n∧n<17179869184
 ·rw[rhStep_in h3.1 h3.2,homeN_eq (k:=3) (by omega) (by omega) (by omega) (by omega)]
 rw[rhStep_out (by omega)];by_cases h4:17179869184<n∧n<21474836480
 ·rw[rhStep_in h4.1 h4.2,homeN_eq (k:=4) (by omega) (by omega) (by omega) (by omega)]
 rw[rhStep_out (by omega)];by_cases h5:21474836480<n∧n<25769803776
 ·rw[rhStep_in h5.1 h5.2,homeN_eq (k:=5) (by omega) (by omega) (by omega) (by omega)]
 rw[rhStep_out (by omega),homeN_zero (by omega)]
noncomputable abbrev gVe (e:EntD):List Bool:=[decide (((e.2.1.length:Int)-1).toNat<e.2.1.length),decide (0≤(e.2.1.length:Int)-1),decide ((e.2.1.length:Int)-1<(e.2.1.length:Int)),decide (inK .i64 ((e.2.1.length:Int)-1))]
noncomputable def rbE (q:Int) (l:List EntD) (i:Int) (e:EntD) (nx:BO):BO:=
 bif entB (e.1,e.2.1,()) then(bif decide (i>0) then(bif Op.bytesLess e.1 (l.getD (i-1).toNat (EntT).dflt).1||e.1==(l.getD (i-1).toNat (EntT).dflt).1 then gd (gPx l i++(gI l i++(entP (e.1,e.2.1,())::gI l i))) (bO false)
     else bif decide ((e.2.1.getD ((e.2.1.length:Int)-1).toNat (VerT).dflt).1>q) then gd (gVe e++(gI l i++(gI l i++(gPx l i++(gI l i++(entP (e.1,e.2.1,())::gI l i)))))) (bO false) else gd (decide (inK .i64 (i+1))::(gVe e++(gI l i++(gI l i++(gPx l i++(gI l i++(entP (e.1,e.2.1,())::gI l i))))))) nx)
  else bif decide ((e.2.1.getD ((e.2.1.length:Int)-1).toNat (VerT).dflt).1>q) then gd (gVe e++(gI l i++(gI l i++(entP (e.1,e.2.1,())::gI l i)))) (bO false) else gd (decide (inK .i64 (i+1))::(gVe e++(gI l i++(gI l i++(entP (e.1,e.2.1,())::gI l i))))) nx)
 else gd (entP (e.1,e.2.1,())::gI l i) (bO false)
noncomputable def rbStep (q:Int) (l:List EntD) (i:Int) (nx ex:BO):BO:=bif decide (i<(l.length:Int)) then rbE q l i (l.getD i.toNat (EntT).dflt) nx else ex
theorem gJ_ok {α β:Type} {l:List α} {i:Nat} (h1:i<l.length) (y:Option β) (ps:List Bool):gd (gI l (i:Int)++ps) y=gd ps y:=by
 unfold gI;simp only[List.cons_append,List.nil_append];rw[gdT (by omega),gdT (by omega),gdT (by omega)]
theorem gJ_ok0 {α β:Type} {l:List α} {i:Nat} (h1:i<l.length) (y:Option β):gd (gI l (i:Int)) y=y:=by
 have:=gJ_ok h1 y [];rw[List.append_nil] at this;rw[this,xG]
theorem rbE_n {q:Int} {l:List EntD} {i:Nat} {b:Bool} {nx:BO} (hl:l.length≤40) (hi:i<l.length) (hp:entP (entAt l i)=true) (h:nx=bO b):rbE q l (i:Int) (entAt l i) nx=bO (bEnt q l i&&b):=by
 have hk:inK .i64 ((i:Int)+1):=inK_i64.2 ⟨by omega,by omega⟩;have hp':entP ((entAt l i).1,(entAt l i).2.1,())=true:=hp;have he:entB ((entAt l i).1,(entAt l i).2.1,())=entB (entAt l i):=rfl;unfold rbE bEnt;rw[he];cases hb:entB (entAt l i)
 ·rw[xF,gdB hp',gJ_ok0 hi];rfl
 ·obtain⟨n1,n2⟩:=entB_len hb;have e1:(((entAt l i).2.1.length:Int)-1).toNat=(entAt l i).2.1.length-1:=by omega
  have hz:∀(y:BO) ps,gd (gVe (entAt l i)++ps) y=gd ps y:=fun y ps=>by
   unfold gVe;simp only[List.cons_append,List.nil_append];rw[gdT (by omega),gdT (by omega),gdT (by omega),gdT (inK_i64.2 ⟨by omega,by omega⟩)]
  have hv:(entAt l i).2.1.getD (((entAt l i).2.1.length:Int)-1).toNat (VerT).dflt=lastV (entAt l i):=by rw[e1];rfl
  rw[xT,hv,Bool.true_and];by_cases h0:i=0
  ·subst h0;rw[cdF (by omega)];by_cases h1:(lastV (entAt l 0)).1>q
   ·rw[cdT h1,hz,gJ_ok hi,gJ_ok hi,gdB hp',gJ_ok0 hi,decide_eq_false (show ¬(lastV (entAt l 0)).1≤q by omega)];rfl
   ·rw[cdF h1,gdT hk,hz,gJ_ok hi,gJ_ok hi,gdB hp',gJ_ok0 hi,decide_eq_true (show(lastV (entAt l 0)).1≤q by omega),h];rfl
  ·have e2:((i:Int)-1).toNat=i-1:=by omega
   have e3:Nat.beq i 0=false:=by cases i with
    |zero=>exact absurd rfl h0
    |succ n=>rfl
   rw[cdT (by omega),e2,e3,Bool.false_or];show(bif Op.bytesLess (entAt l i).1 (entAt l (i-1)).1||(entAt l i).1==(entAt l (i-1)).1 then _ else _)=_;have ht:=less_tot (entAt l (i-1)).1 (entAt l i).1;cases hb2:Op.bytesLess (entAt l i).1 (entAt l (i-1)).1||(entAt l i).1==(entAt l (i-1)).1
   ·rw[hb2] at ht;rw[xF,ht];by_cases h1:(lastV (entAt l i)).1>q
    ·rw[cdT h1,hz,gJ_ok hi,gJ_ok hi,gPx_ok (by omega) hi (by omega),gJ_ok hi,gdB hp',gJ_ok0 hi,decide_eq_false (show ¬(lastV (entAt l i)).1≤q by omega)];rfl
    ·rw[cdF h1,gdT hk,hz,gJ_ok hi,gJ_ok hi,gPx_ok (by omega) hi (by omega),gJ_ok hi,gdB hp',gJ_ok0 hi,decide_eq_true (show(lastV (entAt l i)).1≤q by omega),h];rfl
   ·rw[hb2] at ht;rw[xT,gPx_ok (by omega) hi (by omega),gJ_ok hi,gdB hp',gJ_ok0 hi,ht];cases decide ((lastV (entAt l i)).1≤q)<;>rfl
noncomputable def rmTail (q:Int) (x:MemoD) (i:Int) (G:List Bool) (nx:BO) (lo:Int):BO:=
 bif decide (x.1<lo) then gd (decide (inK .i64 (homeN x.1-1))::G) (bO false) else bif decide (x.2.1.1<0) then gd (decide (inK .i64 (homeN x.1-1))::G) (bO false) else bif decide (x.2.1.1>13) then gd (decide (inK .i64 (homeN x.1-1))::G) (bO false)
  else bif decide (x.2.1.2.1<0) then gd (decide (inK .i64 (homeN x.1-1))::G) (bO false) else bif decide (x.2.1.2.1>q) then gd (decide (inK .i64 (homeN x.1-1))::G) (bO false) else gd (decide (inK .i64 (i+1))::decide (inK .i64 (homeN x.1-1))::G) nx
theorem rmTail_n {q:Int} {x:MemoD} {i lo:Int} {G:List Bool} {b:Bool} {nx:BO} (hi:inK .i64 (i+1)) (hh:inK .i64 (homeN x.1-1)) (hG:∀y:BO,gd G y=y) (h:nx=bO b):rmTail q x i G nx lo=bO (decide (lo≤x.1)&&(bRes q x&&b)):=by
 unfold rmTail bRes;by_cases h0:x.1<lo
 ·rw[cdT h0,gdT hh,hG,decide_eq_false (show ¬lo≤x.1 by omega)];rfl
 rw[cdF h0,decide_eq_true (show lo≤x.1 by omega)];by_cases h1:x.2.1.1<0
 ·rw[cdT h1,gdT hh,hG,decide_eq_false (show ¬0≤x.2.1.1 by omega)];rfl
 rw[cdF h1,decide_eq_true (show 0≤x.2.1.1 by omega)];by_cases h2:x.2.1.1>13
 ·rw[cdT h2,gdT hh,hG,decide_eq_false (show ¬x.2.1.1≤13 by omega)];rfl
 rw[cdF h2,decide_eq_true (show x.2.1.1≤13 by omega)];by_cases h3:x.2.1.2.1<0
 ·rw[cdT h3,gdT hh,hG,decide_eq_false (show ¬0≤x.2.1.2.1 by omega)];rfl
 rw[cdF h3,decide_eq_true (show 0≤x.2.1.2.1 by omega)];by_cases h4:x.2.1.2.1>q
 ·rw[cdT h4,gdT hh,hG,decide_eq_false (show ¬x.2.1.2.1≤q by omega)];rfl
 rw[cdF h4,decide_eq_true (show x.2.1.2.1≤q by omega),gdT hi,gdT hh,hG,h];rfl
noncomputable def rmE (q:Int) (L:LowD) (m:List MemoD) (i:Int) (x:MemoD) (nx:BO):BO:=
 bif homeN x.1==0 then bO false else bif decide (i>0) then(bif decide (x.1≤(m.getD (i-1).toNat (MemoT).dflt).1) then gd (gPx m i) (bO false) else selB L (homeN x.1-1) (rmTail q x i (gPx m i) nx)) else selB L (homeN x.1-1) (rmTail q x i [] nx)
noncomputable def rmStep (q:Int) (L:LowD) (m:List MemoD) (i:Int) (nx:BO):BO:=bif decide (i<(m.length:Int)) then gd (gI m i) (rmE q L m i (m.getD i.toNat (MemoT).dflt) nx) else bO true
theorem rmE_n {q:Int} {L:LowD} {m:List MemoD} {i:Nat} {b:Bool} {nx:BO} (hl:m.length≤100) (hi:i<m.length) (h:nx=bO b):rmE q L m (i:Int) (memAt m i) nx=bO (bMem q L m i&&b):=by
 have hk:inK .i64 ((i:Int)+1):=inK_i64.2 ⟨by omega,by omega⟩;unfold rmE bMem;have hc:=homeN_cases (memAt m i).1;cases h0:homeN (memAt m i).1==0
 ·have h0':homeN (memAt m i).1≠0:=by simpa using h0
  have hh:inK .i64 (homeN (memAt m i).1-1):=inK_i64.2 ⟨by omega,by omega⟩;rw[xF,selB_n (by omega),selB_n (by omega),show(!false)=true from rfl,Bool.true_and];by_cases hi0:i=0
  ·subst hi0;rw[cdF (by omega),rmTail_n hk hh (fun y=>xG _) h];show bO _=bO _;rw[Bool.and_assoc,show Nat.beq 0 0=true from rfl,Bool.true_or,Bool.true_and]
  ·have e2:((i:Int)-1).toNat=i-1:=by omega
   have e3:Nat.beq i 0=false:=by cases i with
    |zero=>exact absurd rfl hi0
    |succ n=>rfl
   have hG:∀y:BO,gd (gPx m (i:Int)) y=y:=fun y=>by
    have:=gPx_ok (show 0<i by omega) hi (by omega) y [];rw[List.append_nil] at this;rw[this,xG]
   rw[cdT (by omega),e2,e3,Bool.false_or];show(bif decide ((memAt m i).1≤(memAt m (i-1)).1) then _ else _)=_;by_cases h2:(memAt m i).1≤(memAt m (i-1)).1
   ·rw[cdT h2,hG,decide_eq_false (show ¬(memAt m (i-1)).1<(memAt m i).1 by omega),Bool.false_and,Bool.and_false];rfl
   ·rw[cdF h2,rmTail_n hk hh hG h,decide_eq_true (show(memAt m (i-1)).1<(memAt m i).1 by omega),Bool.true_and,Bool.and_assoc]
 ·rw[xT];rfl
def stN (s:StD):StD:=(s.1,(s.2.1.take 42).map lentN,s.2.2.1.take 103,s.2.2.2.1,())
def stP (s:StD):Bool:=s.2.1.all fun e=>decide (e.2.1.length≤140737488355328)
noncomputable def stS:PSpec:=⟨[StT],[StT],fun x=>stP x.1,fun x=>(stN x.1,())⟩
abbrev SO1:=Option (DenL [StT])
noncomputable def stEnd (q:Int) (m:List MemoD) (L:LowD) (o:List EntD):SO1:=gd [decide ((2*(0+(cutL m none (some (min (m.length:Int) 103))).length)+400)*24≤281474976710656),decide (0≤min (m.length:Int) 103),decide (min (m.length:Int) 103≤(m.length:Int))] (some ((q,o,[]++cutL m none (some (min (m.length:Int) 103)),L,()),()))
noncomputable def stStep (q:Int) (l:List EntD) (m:List MemoD) (L:LowD) (o:List EntD) (i:Int) (nx:List EntD→SO1):SO1:=
 bif decide (i<(l.length:Int)) then(bif decide (i<42) then gd (decide (inK .i64 (i+1))::decide ((2*(o.length+[lentN ((l.getD i.toNat (EntT).dflt).1,(l.getD i.toNat (EntT).dflt).2.1,())].length)+400)*40≤281474976710656)::decide ((l.getD i.toNat (EntT).dflt).2.1.length≤140737488355328)::gI l i) (nx (o++[lentN ((l.getD i.toNat (EntT).dflt).1,(l.getD i.toNat (EntT).dflt).2.1,())])) else stEnd q m L o) else stEnd q m L o
theorem stEnd_n {q:Int} {m:List MemoD} {L:LowD} {o:List EntD}:stEnd q m L o=some ((q,o,m.take 103,L,()),()):=by
 unfold stEnd;have hc:cutL m none (some (min (m.length:Int) 103))=m.take 103:=by
  show m.take (min (m.length:Int) 103).toNat=m.take 103;by_cases hl:m.length≤103
  ·rw[Int.min_eq_left (by omega),List.take_of_length_le (by omega),List.take_of_length_le hl]
  ·rw[Int.min_eq_right (by omega)];rfl
 have hl:(m.take 103).length≤103:=by rw[List.length_take];omega
 rw[hc,gdT (by omega),gdT (by omega),gdT (by omega),xG,List.nil_append]
theorem st_l {q:Int} {l:List EntD} {m:List MemoD} {L:LowD} {h:Nat→List EntD→Int→SO1} (he:∀N o i,h (N+1) o i=stStep q l m L o i (fun o'=>h N o' (i+1))) (hv:∀e,e∈l→e.2.1.length≤140737488355328):
  ∀(r i N:Nat) (o:List EntD),min l.length 42=i+r→r<N→o.length≤i→h N o (i:Int)=some ((q,o++((l.take 42).drop i).map lentN,m.take 103,L,()),()):=by
 intro r
 induction r with
 |zero=>
  intro i N o hi hN ho;obtain⟨N,rfl⟩:∃k,N=k+1:=⟨N-1,by omega⟩
  rw[he];unfold stStep;rw[List.drop_eq_nil_of_le (by rw[List.length_take];omega),List.map_nil,List.append_nil];by_cases h1:(i:Int)<(l.length:Int)
  ·rw[cdT h1,cdF (by omega),stEnd_n]
  ·rw[cdF h1,stEnd_n]
 |succ r ih=>
  intro i N o hi hN ho;obtain⟨N,rfl⟩:∃k,N=k+1:=⟨N-1,by omega⟩
  have hlt:i<l.length:=by omega
  have hlt2:i<(l.take 42).length:=by rw[List.length_take];omega
  have hd:(l.take 42).drop i=entAt l i::(l.take 42).drop (i+1):=by
   rw[List.drop_eq_getElem_cons hlt2];congr 1;unfold entAt;rw[List.getElem_take,List.getD_eq_getElem?_getD,List.getElem?_eq_getElem hlt];rfl
  have hm:entAt l i∈l:=by
   show l.getD i _∈l;rw[List.getD_eq_getElem?_getD,List.getElem?_eq_getElem hlt];exact List.getElem_mem hlt
  have:=ih (i+1) N (o++[lentN (entAt l i)]) (by omega) (by omega) (by rw[List.length_append,List.length_singleton];omega);simp only[Int.natCast_add,Int.natCast_one] at this;rw[he];unfold stStep;rw[cdT (by omega),cdT (by omega),gdT (inK_i64.2 ⟨by omega,by omega⟩),gdT (by simp only[List.length_singleton];omega),gdT (show(l.getD (i:Int).toNat (EntT).dflt).2.1.length≤140737488355328 from hv _ hm),gJ_ok0 hlt,hd,List.map_cons]
  refine this.trans ?_;rw[List.append_assoc,List.singleton_append]
end Nice
namespace Go.Proofs.YtldllfocpadkeaaGreatDoor
open Go Go.Eng Nice
set_option maxRecDepth 1000000
noncomputable def orhome (x:DenL [IT]):IO1:=fO Tryz.prog (envS []) (shOf []) Tryz.f51 [IT] [IT] x
theorem erhome (n:Int):orhome (n,())=rhE n:=by kernel_rfl
theorem rhome_c:PC 51 homeS:=(pureO (envS_ok (l:=[]) trivial) gl_ne Tryz.func51 (by kernel_rfl) (by decide)).nice fun⟨n,()⟩ _=>(erhome n).trans (rhE_n n)
abbrev shrb:List (Nat×List (Nat×Sh)):=[(4,[(1,(.obj [.sym,(.dat EntT),(.dat MemoT),.sym,.sym,.sym,.sym,.sym])),(2,(.one .sym)),(3,(.one .sym))]),(14,[(1,(.obj [.sym,(.dat EntT),(.dat MemoT),.sym,.sym,.sym,.sym,.sym])),(2,(.one .sym)),(5,(.one .sym))])]
noncomputable abbrev enRB:Eng.Env:=envS [(50,entS),(51,homeS)]
noncomputable def hrb0 (N:Nat) (q:Int) (l:List EntD) (m:List MemoD) (a b c d e:Int) (i:Int):BO:=rH Tryz.prog enRB (shOf shrb) Tryz.f15 [.bool] N 0 [(1,.pointer (some ⟨12,0,none⟩)),(2,.bool false),(3,sy (.int .i64 i))] [.dat EntT l,.dat MemoT m,rowBM q (a,b,c,d,e,())]
noncomputable def hrb2 (N:Nat) (q:Int) (l:List EntD) (m:List MemoD) (a b c d e:Int) (i:Int):BO:=rH Tryz.prog enRB (shOf shrb) Tryz.f15 [.bool] N 2 [(1,.pointer (some ⟨12,0,none⟩)),(2,.bool false),(5,sy (.int .i64 i))] [.dat EntT l,.dat MemoT m,rowBM q (a,b,c,d,e,())]
noncomputable def orb (x:DenL [StT]):BO:=fO Tryz.prog enRB (shOf shrb) Tryz.f15 [StT] [.bool] x
theorem orb_g (x:DenL [StT]):orb x=fON Tryz.prog enRB (shOf shrb) Tryz.f15 [StT] [.bool] heads0 x:=rfl
theorem erb_g (N:Nat) (q:Int) (l:List EntD) (m:List MemoD) (a b c d e:Int):fON Tryz.prog enRB (shOf shrb) Tryz.f15 [StT] [.bool] N ((q,l,m,(a,b,c,d,e,()),()),())=
 (bif decide (q<0) then bO false else bif decide (q>1099511627776) then bO false else bif decide ((l.length:Int)>40) then bO false else bif decide ((m.length:Int)>100) then bO false else hrb0 N q l m a b c d e 0):=by kernel_rfl
theorem erb_0 (N:Nat) (q:Int) (l:List EntD) (m:List MemoD) (a b c d e:Int) (i:Int):hrb0 (N+1) q l m a b c d e i=rbStep q l i (hrb0 N q l m a b c d e (i+1)) (lowsE (a,b,c,d,e,()) (hrb2 N q l m a b c d e 0)):=by kernel_rfl
theorem erb_2 (N:Nat) (q:Int) (l:List EntD) (m:List MemoD) (a b c d e:Int) (i:Int):hrb2 (N+1) q l m a b c d e i=rmStep q (a,b,c,d,e,()) m i (hrb2 N q l m a b c d e (i+1)):=by kernel_rfl
theorem rb2_l (q:Int) (l:List EntD) (m:List MemoD) (a b c d e:Int) (hm:m.length≤100):∀(r i N:Nat),m.length=i+r→r<N→hrb2 N q l m a b c d e (i:Int)=bO (allFr (bMem q (a,b,c,d,e,()) m) r i):=by
 intro r
 induction r with
 |zero=>
  intro i N hi hN;obtain⟨N,rfl⟩:∃k,N=k+1:=⟨N-1,by omega⟩
  rw[erb_2];unfold rmStep;rw[cdF (by omega)];rfl
 |succ r ih=>
  intro i N hi hN;obtain⟨N,rfl⟩:∃k,N=k+1:=⟨N-1,by omega⟩
  have this:=ih (i+1) N (by omega) (by omega);simp only[Int.natCast_add,Int.natCast_one] at this;rw[erb_2];unfold rmStep;rw[cdT (by omega),gJ_ok0 (by omega)];exact rmE_n hm (by omega) this
theorem rb0_l (q:Int) (l:List EntD) (m:List MemoD) (a b c d e:Int) (hl:l.length≤40) (hm:m.length≤100) (hp:∀x,x∈l→entP x=true):∀(r i N:Nat),l.length=i+r→r+101<N→hrb0 N q l m a b c d e (i:Int)=bO (allFr (bEnt q l) r i&&(bLows (a,b,c,d,e,())&&allFr (bMem q (a,b,c,d,e,()) m) m.length 0)):=by
 intro r
 induction r with
 |zero=>
  intro i N hi hN;obtain⟨N,rfl⟩:∃k,N=k+1:=⟨N-1,by omega⟩
  have this:=rb2_l q l m a b c d e hm m.length 0 N (by omega) (by omega);rw[erb_0];unfold rbStep;rw[cdF (by omega)];exact lowsE_n this
 |succ r ih=>
  intro i N hi hN;obtain⟨N,rfl⟩:∃k,N=k+1:=⟨N-1,by omega⟩
  have hlt:i<l.length:=by omega
  have this:=ih (i+1) N (by omega) (by omega);simp only[Int.natCast_add,Int.natCast_one] at this;have hpi:entP (entAt l i)=true:=hp _ (by
   show l.getD i _∈l;rw[List.getD_eq_getElem?_getD,List.getElem?_eq_getElem hlt];exact List.getElem_mem hlt)
  rw[erb_0];unfold rbStep;rw[cdT (by omega)];refine(rbE_n hl hlt hpi this).trans ?_;show bO (_&&(_&&_))=bO ((_&&_)&&_);rw[Bool.and_assoc]
theorem rb_n (q:Int) (l:List EntD) (m:List MemoD) (a b c d e:Int) (h:l.all entP=true):orb ((q,l,m,(a,b,c,d,e,()),()),())=bO (bmayN (q,l,m,(a,b,c,d,e,()),())):=by
 have hp:=List.all_eq_true.1 h;show orb _=bO (decide (0≤q)&&(decide (q≤1099511627776)&&(decide (l.length≤40)&&(decide (m.length≤100)&&(allFr (bEnt q l) l.length 0&&(bLows (a,b,c,d,e,())&&allFr (bMem q (a,b,c,d,e,()) m) m.length 0))))));rw[orb_g,erb_g];by_cases h1:q<0
 ·rw[cdT h1,decide_eq_false (show ¬0≤q by omega)];rfl
 rw[cdF h1,decide_eq_true (show 0≤q by omega)];by_cases h2:q>1099511627776
 ·rw[cdT h2,decide_eq_false (show ¬q≤1099511627776 by omega)];rfl
 rw[cdF h2,decide_eq_true (show q≤1099511627776 by omega)];by_cases h3:(l.length:Int)>40
 ·rw[cdT h3,decide_eq_false (show ¬l.length≤40 by omega)];rfl
 rw[cdF h3,decide_eq_true (show l.length≤40 by omega)];by_cases h4:(m.length:Int)>100
 ·rw[cdT h4,decide_eq_false (show ¬m.length≤100 by omega)];rfl
 rw[cdF h4,decide_eq_true (show m.length≤100 by omega)];exact rb0_l q l m a b c d e (by omega) (by omega) hp l.length 0 heads0 (by omega) (by unfold heads0;omega)
theorem rbmay_c:PC 15 bmayS:=(pureO (sh:=shOf shrb) (envS_ok (l:=[(50,entS),(51,homeS)]) ⟨rme_c,rhome_c,trivial⟩) gl_ne Tryz.func15 (by kernel_rfl) (by decide)).nice fun⟨⟨q,l,m,⟨a,b,c,d,e,()⟩,()⟩,()⟩ h=>rb_n q l m a b c d e h
noncomputable def ornow (x:DenL [EntT]):Option (DenL [VerT,.bool]):=fO Tryz.prog (envS []) (shOf []) Tryz.f43 [EntT] [VerT,.bool] x
theorem ernow (k:List UInt8) (l:List VerD):ornow ((k,l,()),())=nowE k l:=by kernel_rfl
theorem rnow_c:PC 43 nowS:=(pureO (envS_ok (l:=[]) trivial) gl_ne Tryz.func43 (by kernel_rfl) (by decide)).nice fun⟨⟨k,l,()⟩,()⟩ h=>by
 show ornow _=_;rw[ernow];exact nowE_n (of_decide_eq_true h)
end Go.Proofs.YtldllfocpadkeaaGreatDoor
namespace Go.Proofs.YtldllfocpadkeaaGreatDoor
open Go Go.Eng Nice
set_option maxRecDepth 1000000
abbrev shst:List (Nat×List (Nat×Sh)):=[(3,[(1,(.obj [.sym,(.dat EntT),(.dat MemoT),.sym,.sym,.sym,.sym,.sym])),(2,(.obj [.sym,.any,.any,.sym,.sym,.sym,.sym,.sym])),(3,(.one (.vec EntT 44))),(4,(.one .sym))])]
noncomputable def hst (N:Nat) (q:Int) (l:List EntD) (m:List MemoD) (a b c d e:Int) (o:List EntD) (i:Int):SO1:=rH Tryz.prog (envS [(49,lentS)]) (shOf shst) Tryz.f13 [StT] N 0 [(1,.pointer (some ⟨12,0,none⟩)),(2,.pointer (some ⟨13,0,none⟩)),(3,dt 14),(4,sy (.int .i64 i))] [.dat EntT l,.dat MemoT m,rowBM q (a,b,c,d,e,()),.row [sy (.int .i64 0),Value.slice none 0 0,Value.slice none 0 0,sy (.int .i64 0),sy (.int .i64 0),sy (.int .i64 0),sy (.int .i64 0),sy (.int .i64 0)] 26 false,.vec EntT o 44]
noncomputable def ost (x:DenL [StT]):SO1:=fO Tryz.prog (envS [(49,lentS)]) (shOf shst) Tryz.f13 [StT] [StT] x
theorem ost_g (x:DenL [StT]):ost x=fON Tryz.prog (envS [(49,lentS)]) (shOf shst) Tryz.f13 [StT] [StT] heads0 x:=rfl
theorem est_g (N:Nat) (q:Int) (l:List EntD) (m:List MemoD) (a b c d e:Int):fON Tryz.prog (envS [(49,lentS)]) (shOf shst) Tryz.f13 [StT] [StT] N ((q,l,m,(a,b,c,d,e,()),()),())=hst N q l m a b c d e [] 0:=by kernel_rfl
theorem est_0 (N:Nat) (q:Int) (l:List EntD) (m:List MemoD) (a b c d e:Int) (o:List EntD) (i:Int):hst (N+1) q l m a b c d e o i=stStep q l m (a,b,c,d,e,()) o i (fun o'=>hst N q l m a b c d e o' (i+1)):=by kernel_rfl
theorem st_n {q:Int} {l:List EntD} {m:List MemoD} {a b c d e:Int} (hv:∀x,x∈l→x.2.1.length≤140737488355328):ost ((q,l,m,(a,b,c,d,e,()),()),())=some (stN (q,l,m,(a,b,c,d,e,()),()),()):=by
 rw[ost_g,est_g];exact st_l (h:=fun N o i=>hst N q l m a b c d e o i) (fun N o i=>est_0 N q l m a b c d e o i) hv (min l.length 42) 0 heads0 [] (by omega) (Nat.lt_of_le_of_lt (Nat.min_le_right _ 42) (by unfold heads0;omega)) (Nat.le_refl _)
theorem st_c:PC 13 stS:=(pureO (sh:=shOf shst) (envS_ok (l:=[(49,lentS)]) ⟨lent_c,trivial⟩) gl_ne Tryz.func13 (by kernel_rfl) (by decide)).nice fun⟨⟨q,l,m,⟨a,b,c,d,e,()⟩,()⟩,()⟩ h=>st_n fun x hx=>of_decide_eq_true (List.all_eq_true.1 (show(l.all fun e=>decide (e.2.1.length≤140737488355328))=true from h) x hx)
end Go.Proofs.YtldllfocpadkeaaGreatDoor
namespace Nice
open Go Go.Eng
theorem lentN_bd (e:EntD):(lentN e).1.length≤42∧(lentN e).2.1.length≤14:=by
 unfold lentN;refine⟨lcut0 e.1 42,?_⟩;show((e.2.1.take 14).map cutV).length≤14;rw[List.length_map,List.length_take];omega
theorem stN_ent {s:StD} {e:EntD} (h:e∈(stN s).2.1):e.1.length≤42∧e.2.1.length≤14:=by
 have h:e∈(s.2.1.take 42).map lentN:=h;obtain⟨x, -,rfl⟩:=List.mem_map.1 h;exact lentN_bd x
theorem stN_bmayP (s:StD):bmayP (stN s)=true:=List.all_eq_true.2 fun e he=>by
 obtain⟨h1,h2⟩:=stN_ent he;unfold entP bndS;rw[Bool.and_eq_true,decide_eq_true_eq,decide_eq_true_eq];omega
end Nice
namespace Go.Proofs.YtldllfocpadkeaaGreatDoor
open Go Go.Eng Nice
set_option maxRecDepth 1000000
theorem st_bd {s:StD} (h:∀x,x∈s.2.1→Bd EntT x):stP s=true:=List.all_eq_true.2 fun e he=>by
 have:=h e he;have h2:e.2.1.length≤reach:=this.2.1.1;exact decide_eq_true h2
end Go.Proofs.YtldllfocpadkeaaGreatDoor
namespace Nice
open Go Go.Eng
def kindA (x:Int) (a:AskD):AskD:=(x,a.2.1,a.2.2.1,a.2.2.2.1,a.2.2.2.2.1,a.2.2.2.2.2.1,a.2.2.2.2.2.2.1,a.2.2.2.2.2.2.2.1,a.2.2.2.2.2.2.2.2.1,a.2.2.2.2.2.2.2.2.2.1,())
def ask0 (p f:List UInt8) (k:Int):AskD:=(4,[],0,[],0,[],p,f,k,false,())
noncomputable def lwT (k:Int) (o:List (List UInt8)) (P:ShD) (i:Int) (h1:List (List UInt8)→BO):BO:=
 bif P.2.2.1 then(bif (P.1.length:Int)+(P.2.1.length:Int) !=k then gd [decide (inK .i64 (i+1))] (bO false) else gd [decide ((2*(o.length+P.1.length)+400)*16≤281474976710656),decide (inK .i64 (i+1))] (h1 (o++P.1)))
 else gd [decide ((2*(o.length+P.1.length)+400)*16≤281474976710656),decide (inK .i64 (i+1))] (h1 (o++P.1))
noncomputable def lwU (k:Int) (o:List (List UInt8)) (P:ShD) (m i:Int) (h1:List (List UInt8)→BO):BO:=
 bif P.2.2.1 then(bif decide (i+1<m) then lwT k o P i h1 else gd [decide (inK .i64 (i+1))] (bO false)) else(bif decide (i+1<m) then gd [decide (inK .i64 (i+1))] (bO false) else lwT k o P i h1)
noncomputable def lwPg (ps:List ShD) (i:Int):ShD:=ps.getD i.toNat (ShT).dflt
noncomputable def lw0 (k:Int) (o:List (List UInt8)) (ps:List ShD) (i:Int) (h1:List (List UInt8)→ShD→BO) (ex:BO):BO:=
 bif decide (i<(ps.length:Int)) then gd (decide (inK .i64 (((lwPg ps i).1.length:Int)+((lwPg ps i).2.1.length:Int)))::gI ps i) (lwU k o (lwPg ps i) (ps.length:Int) i (fun o'=>h1 o' (lwPg ps i))) else ex
noncomputable def lw1 (o:List (List UInt8)) (l:List EntD) (i m j:Int) (nx:List (List UInt8)→Int→BO) (ex:Int→BO):BO:=
 bif decide (j<m) then gd (decide (inK .i64 (j+1))::decide ((2*(o.length+[(l.getD j.toNat (EntT).dflt).1].length)+400)*16≤281474976710656)::gI l j) (nx (o++[(l.getD j.toNat (EntT).dflt).1]) (j+1)) else gd [decide (inK .i64 (i+1))] (ex (i+1))
noncomputable def lwEx (o:List (List UInt8)) (n:Int) (k:Int):BO:=bif k==(o.length:Int) then(bif decide (n≥1) then bO true else bO false) else bO false
noncomputable def lwC (e:List UInt8) (p:List UInt8) (o:List (List UInt8)) (k i:Int) (nx:Int→Int→BO):BO:=
 gd [decide ((p.length:Int)≤(e.length:Int))] (bif decide (k≥(o.length:Int)) then bO false else bif !o.getD k.toNat Ty.str.dflt==e then gd (gI o k) (bO false) else gd (decide (inK .i64 (i+1))::decide (inK .i64 (k+1))::gI o k) (nx (k+1) (i+1)))
noncomputable def lwD (c:Bool) (e:List UInt8) (p f:List UInt8) (o:List (List UInt8)) (k i:Int) (nx:Int→Int→BO):BO:=
 bif decide ((e.length:Int)<(p.length:Int)) then gd [decide (inK .i64 (i+1))] (nx k (i+1))
 else bif !e.take (p.length:Int).toNat==p then gd [decide (inK .i64 (i+1)),decide ((p.length:Int)≤(e.length:Int))] (nx k (i+1))
 else bif Op.bytesLess e f||e==f then gd [decide (inK .i64 (i+1)),decide ((p.length:Int)≤(e.length:Int))] (nx k (i+1))
 else bif c then lwC e p o k i nx else gd [decide (inK .i64 (i+1)),decide ((p.length:Int)≤(e.length:Int))] (nx k (i+1))
noncomputable def lw2 (v:Bool) (l:List EntD) (p f:List UInt8) (o:List (List UInt8)) (n k i:Int) (nx:Int→Int→BO):BO:=
 bif decide (i<(l.length:Int)) then(bif (nowN ((l.getD i.toNat (EntT).dflt).1,(l.getD i.toNat (EntT).dflt).2.1,())).2 then gd (gI l i++(decide ((l.getD i.toNat (EntT).dflt).2.1.length≤140737488355328)::gI l i)) (lwD true (l.getD i.toNat (EntT).dflt).1 p f o k i nx)
  else gd (gI l i++(decide ((l.getD i.toNat (EntT).dflt).2.1.length≤140737488355328)::gI l i)) (lwD v (l.getD i.toNat (EntT).dflt).1 p f o k i nx))
 else lwEx o n k
noncomputable def lwS (s:StD) (A:AskD) (h0:List ShD→BO):BO:=
 gd [stP s] (bif bmayN (stN s) then(bif mayN A then gd [walkP 100 (stN s) A,askP A,bmayP (stN s)] (h0 (walkN 100 (stN s) A)) else gd [askP A,bmayP (stN s)] (bO true)) else gd [bmayP (stN s)] (bO true))
end Nice
namespace Go.Proofs.YtldllfocpadkeaaGreatDoor
open Go Go.Eng Nice
set_option maxRecDepth 1000000
abbrev shLW:List (Nat×List (Nat×Sh)):=[(13,[(3,(.one .sym)),(4,(.one .sym)),(5,(.obj [.sym,(.dat EntT),(.dat MemoT),.sym,.sym,.sym,.sym,.sym])),(10,(.one .sym)),(12,(.obj [.sym,.sym,.sym,.sym,.sym,.sym,.sym,.sym,.sym,.sym])),(13,(.one (.vec .str 9))),(14,(.one (.dat ShT))),(15,(.one .sym))]),(21,[(3,(.one .sym)),(4,(.one .sym)),(5,(.obj [.sym,(.dat EntT),(.dat MemoT),.sym,.sym,.sym,.sym,.sym])),(10,(.one .sym)),(12,(.obj [.sym,.sym,.sym,.sym,.sym,.sym,.sym,.sym,.sym,.sym])),(13,(.one (.vec .str 9))),(14,(.one (.dat ShT))),(15,(.one .sym)),(16,(.obj [(.dat .str),(.dat EntT),.sym,.sym])),(87,(.one .sym)),(88,(.one .sym))]),(27,[(4,(.one .sym)),(5,(.obj [.sym,(.dat EntT),(.dat MemoT),.sym,.sym,.sym,.sym,.sym])),(10,(.one .sym)),(12,(.obj [.sym,.sym,.sym,.sym,.sym,.sym,.sym,.sym,.sym,.sym])),(13,(.one (.vec .str 9))),(14,(.one (.dat ShT))),(19,(.one .sym)),(20,(.one .sym))])]
noncomputable abbrev enLW:Eng.Env:=envS [(12,trueS),(13,stS),(14,acutS),(15,bmayS),(17,mayDS),(42,walkS),(43,nowS)]
noncomputable abbrev rowSt (s:StD):AO:=.row [sy (.int .i64 s.1),dt 10,dt 11,sy (.int .i64 s.2.2.2.1.1),sy (.int .i64 s.2.2.2.1.2.1),sy (.int .i64 s.2.2.2.1.2.2.1),sy (.int .i64 s.2.2.2.1.2.2.2.1),sy (.int .i64 s.2.2.2.1.2.2.2.2.1)] 26 false
noncomputable def hlw0 (N:Nat) (k:Int) (v:Bool) (s:StD) (A:AskD) (o:List (List UInt8)) (ps:List ShD) (i:Int):BO:=rH Tryz.prog enLW (shOf shLW) Tryz.f10 [.bool] N 0 [(3,sy (.int .i64 k)),(4,.bool v),(5,.pointer (some ⟨12,0,none⟩)),(10,.bool false),(12,.pointer (some ⟨13,0,none⟩)),(13,dt 14),(14,dt 15),(15,sy (.int .i64 i))] [.dat EntT s.2.1,.dat MemoT s.2.2.1,rowSt s,rowA A,.vec .str o 9,.dat ShT ps]
noncomputable def hlw1 (N:Nat) (k:Int) (v:Bool) (s:StD) (A:AskD) (o:List (List UInt8)) (ps:List ShD) (i:Int) (P:ShD) (m j:Int):BO:=rH Tryz.prog enLW (shOf shLW) Tryz.f10 [.bool] N 1 [(3,sy (.int .i64 k)),(4,.bool v),(5,.pointer (some ⟨12,0,none⟩)),(10,.bool false),(12,.pointer (some ⟨13,0,none⟩)),(13,dt 14),(14,dt 15),(15,sy (.int .i64 i)),(16,.pointer (some ⟨18,0,none⟩)),(87,sy (.int .i64 m)),(88,sy (.int .i64 j))] [.dat EntT s.2.1,.dat MemoT s.2.2.1,rowSt s,rowA A,.vec .str o 9,.dat ShT ps,.dat .str P.1,.dat EntT P.2.1,.row [dt 16,dt 17,.bool P.2.2.1,sy (.string (bs P.2.2.2.1))] 35 false]
noncomputable def hlw2 (N:Nat) (v:Bool) (s:StD) (A:AskD) (o:List (List UInt8)) (ps:List ShD) (k i:Int):BO:=rH Tryz.prog enLW (shOf shLW) Tryz.f10 [.bool] N 2 [(4,.bool v),(5,.pointer (some ⟨12,0,none⟩)),(10,.bool false),(12,.pointer (some ⟨13,0,none⟩)),(13,dt 14),(14,dt 15),(19,sy (.int .i64 k)),(20,sy (.int .i64 i))] [.dat EntT s.2.1,.dat MemoT s.2.2.1,rowSt s,rowA A,.vec .str o 9,.dat ShT ps]
noncomputable def olw (x:DenL [StT,.str,.str,IT,.bool]):BO:=fO Tryz.prog enLW (shOf shLW) Tryz.f10 [StT,.str,.str,IT,.bool] [.bool] x
theorem olw_g (x:DenL [StT,.str,.str,IT,.bool]):olw x=fON Tryz.prog enLW (shOf shLW) Tryz.f10 [StT,.str,.str,IT,.bool] [.bool] heads0 x:=rfl
theorem elw_gT (N:Nat) (q:Int) (l:List EntD) (m:List MemoD) (a b c d e:Int) (p f:List UInt8) (k:Int):
 fON Tryz.prog enLW (shOf shLW) Tryz.f10 [StT,.str,.str,IT,.bool] [.bool] N ((q,l,m,(a,b,c,d,e,()),()),p,f,k,true,())=
 lwS (q,l,m,(a,b,c,d,e,()),()) (kindA 5 (acutN (ask0 p f k))) (fun ps=>hlw0 N k true (stN (q,l,m,(a,b,c,d,e,()),())) (kindA 5 (acutN (ask0 p f k))) [] ps 0):=by kernel_rfl
theorem elw_gF (N:Nat) (q:Int) (l:List EntD) (m:List MemoD) (a b c d e:Int) (p f:List UInt8) (k:Int):
 fON Tryz.prog enLW (shOf shLW) Tryz.f10 [StT,.str,.str,IT,.bool] [.bool] N ((q,l,m,(a,b,c,d,e,()),()),p,f,k,false,())=
 lwS (q,l,m,(a,b,c,d,e,()),()) (kindA 4 (acutN (ask0 p f k))) (fun ps=>hlw0 N k false (stN (q,l,m,(a,b,c,d,e,()),())) (kindA 4 (acutN (ask0 p f k))) [] ps 0):=by kernel_rfl
theorem elw_0 (N:Nat) (k:Int) (v:Bool) (s:StD) (A:AskD) (o:List (List UInt8)) (ps:List ShD) (i:Int):hlw0 (N+1) k v s A o ps i=lw0 k o ps i (fun o' P=>hlw1 N k v s A o' ps i P (P.2.1.length:Int) 0) (hlw2 N v s A o ps 0 0):=by kernel_rfl
theorem elw_1 (N:Nat) (k:Int) (v:Bool) (s:StD) (A:AskD) (o:List (List UInt8)) (ps:List ShD) (i:Int) (P:ShD) (m j:Int):hlw1 (N+1) k v s A o ps i P m j=lw1 o P.2.1 i m j (fun o' j'=>hlw1 N k v s A o' ps i P m j') (fun i'=>hlw0 N k v s A o ps i'):=by kernel_rfl
theorem elw_2T (N:Nat) (s:StD) (A:AskD) (o:List (List UInt8)) (ps:List ShD) (k i:Int):hlw2 (N+1) true s A o ps k i=lw2 true s.2.1 A.2.2.2.2.2.2.1 A.2.2.2.2.2.2.2.1 o (ps.length:Int) k i (fun k' i'=>hlw2 N true s A o ps k' i'):=by kernel_rfl
theorem elw_2F (N:Nat) (s:StD) (A:AskD) (o:List (List UInt8)) (ps:List ShD) (k i:Int):hlw2 (N+1) false s A o ps k i=lw2 false s.2.1 A.2.2.2.2.2.2.1 A.2.2.2.2.2.2.2.1 o (ps.length:Int) k i (fun k' i'=>hlw2 N false s A o ps k' i'):=by kernel_rfl
theorem lw_c:PC 10 (ofO [StT,.str,.str,IT,.bool] [.bool] olw):=pureO (sh:=shOf shLW) (envS_ok (l:=[(12,trueS),(13,stS),(14,acutS),(15,bmayS),(17,mayDS),(42,walkS),(43,nowS)]) ⟨begun19_c,st_c,acut_c,rbmay_c,am_c,walk_c,rnow_c,trivial⟩) gl_ne Tryz.func10 (by kernel_rfl) (by decide)
end Go.Proofs.YtldllfocpadkeaaGreatDoor
namespace Nice
open Go Go.Eng
theorem less_trans:∀{a b c:List UInt8},Op.bytesLess a b=true→Op.bytesLess b c=true→Op.bytesLess a c=true
 |_,_,[],_,h=>by rename_i b _;cases b<;>simp[Op.bytesLess] at h
 |_,[],_::_,h,_=>by rename_i a;cases a<;>simp[Op.bytesLess] at h
 |[],_::_,_::_,_,_=>by simp[Op.bytesLess]
 |x::a,y::b,z::c,h1,h2=>by
  simp only[Op.bytesLess] at h1 h2⊢;simp only[Bool.or_eq_true,Bool.and_eq_true,decide_eq_true_eq,beq_iff_eq] at h1 h2⊢;rcases h1 with h1|⟨rfl,h1⟩
  ·rcases h2 with h2|⟨rfl,h2⟩
   ·exact .inl (UInt8.lt_trans h1 h2)
   ·exact .inl h1
  ·rcases h2 with h2|⟨rfl,h2⟩
   ·exact .inl h2
   ·exact .inr ⟨rfl,less_trans h1 h2⟩
def leK (a b:List UInt8):Bool:=Op.bytesLess a b||a==b
theorem leK_less {a b c:List UInt8} (h1:leK a b=true) (h2:Op.bytesLess b c=true):leK a c=true:=by
 unfold leK at *;rw[Bool.or_eq_true] at h1;rcases h1 with h1|h1
 ·rw[less_trans h1 h2];rfl
 ·rw[beq_iff_eq.1 h1,h2];rfl
abbrev SrtK (l:List EntD):Prop:=l.Pairwise fun a b=>Op.bytesLess a.1 b.1=true
theorem bmay_ent {s:StD} (h:bmayN s=true):s.2.1.length≤40∧∀i,i<s.2.1.length→bEnt s.1 s.2.1 i=true:=by
 unfold bmayN at h;simp only[Bool.and_eq_true,decide_eq_true_eq] at h;exact⟨h.2.2.1,fun i hi=>allFr_iff.1 h.2.2.2.2.1 i (Nat.zero_le _) (by omega)⟩
theorem entAt_eq {l:List EntD} {i:Nat} (h:i<l.length):entAt l i=l[i]:=by
 unfold entAt;rw[List.getD_eq_getElem?_getD,List.getElem?_eq_getElem h];rfl
theorem bmay_key {s:StD} (h:bmayN s=true) {e:EntD} (he:e∈s.2.1):isKey e.1=true∧e.2.1.length≤12:=by
 obtain⟨i,hi,rfl⟩:=List.getElem_of_mem he;have:=(bmay_ent h).2 i hi;unfold bEnt at this;rw[Bool.and_eq_true] at this;rw[entAt_eq hi] at this;exact⟨entB_key this.1,(entB_len this.1).2⟩
theorem bmay_srt {s:StD} (h:bmayN s=true):SrtK s.2.1:=by
 have hb:=(bmay_ent h).2;have step:∀i (hi:i+1<s.2.1.length),Op.bytesLess (s.2.1[i]).1 (s.2.1[i+1]).1=true:=fun i hi=>by
  have:=hb (i+1) hi;unfold bEnt at this;simp only[Bool.and_eq_true,Bool.or_eq_true] at this;have:=this.2.2;rw[show i+1-1=i from rfl,entAt_eq hi,entAt_eq (by omega)] at this;rcases this with h|h
  ·cases h
  ·exact h
 have all:∀d i (hi:i+d+1<s.2.1.length),Op.bytesLess (s.2.1[i]).1 (s.2.1[i+d+1]).1=true:=by
  intro d
  induction d with
  |zero=>intro i hi;exact step i hi
  |succ d ih=>intro i hi;exact less_trans (ih i (by omega)) (step (i+d+1) hi)
 exact List.pairwise_iff_getElem.2 fun i j hi hj hij=>by
  have:=all (j-i-1) i (by omega);have e:i+(j-i-1)+1=j:=by omega
  simp only[e] at this;exact this
theorem sel_next {s:StD} {p f x:List UInt8} {b:Bool} (hx:Op.bytesLess f x=true):selL s p x b=(selL s p f b).filter fun e=> !leK e.1 x:=by
 unfold selL;rw[List.filter_filter];refine List.filter_congr fun e _=> ?_
 unfold selP;show(hasPre e.1 p&&(!leK e.1 x&&fitB b e))=(!leK e.1 x&&(hasPre e.1 p&&(!leK e.1 f&&fitB b e)));cases h:leK e.1 x
 ·cases h2:leK e.1 f
  ·cases hasPre e.1 p<;>rfl
  ·rw[leK_less h2 hx] at h;cases h
 ·cases hasPre e.1 p<;>rfl
theorem leK_irr {a:List UInt8}:leK a a=true:=by unfold leK;rw[beq_self_eq_true,Bool.or_true]
theorem srt_drop {l:List EntD} (h:SrtK l) {m:Nat} (hm:m<l.length):(l.filter fun e=> !leK e.1 (l[m]).1)=l.drop (m+1):=by
 have e1:(l.filter fun e=> !leK e.1 (l[m]).1)=((l.take (m+1)).filter fun e=> !leK e.1 (l[m]).1)++((l.drop (m+1)).filter fun e=> !leK e.1 (l[m]).1):=by
  rw[←List.filter_append,List.take_append_drop]
 have hp:=List.pairwise_iff_getElem.1 h;have e2:((l.take (m+1)).filter fun e=> !leK e.1 (l[m]).1)=[]:=List.filter_eq_nil_iff.2 fun e he=>by
  obtain⟨i,hi,rfl⟩:=List.getElem_of_mem he;rw[List.length_take] at hi;rw[List.getElem_take];have:leK (l[i]).1 (l[m]).1=true:=by
   by_cases c:i=m
   ·subst c;exact leK_irr
   ·unfold leK;rw[hp i m (by omega) hm (by omega)];rfl
  rw[this];decide
 have e3:((l.drop (m+1)).filter fun e=> !leK e.1 (l[m]).1)=l.drop (m+1):=List.filter_eq_self.2 fun e he=>by
  obtain⟨i,hi,rfl⟩:=List.getElem_of_mem he;rw[List.length_drop] at hi;rw[List.getElem_drop];have h1:=hp m (m+1+i) hm (by omega) (by omega);rw[less_tot] at h1;exact h1
 rw[e1,e2,e3];rfl
theorem sel_drop {s:StD} {p f:List UInt8} {b:Bool} (hb:bmayN s=true) {m:Nat} (hm:m<(selL s p f b).length):selL s p ((selL s p f b)[m]).1 b=(selL s p f b).drop (m+1):=by
 have hs:SrtK (selL s p f b):=(bmay_srt hb).filter _;have hin:(selL s p f b)[m]∈selL s p f b:=List.getElem_mem hm;have h2:=(List.mem_filter.1 hin).2;unfold selP at h2;simp only[Bool.and_eq_true,Bool.not_eq_true'] at h2;rw[sel_next (show Op.bytesLess f ((selL s p f b)[m]).1=true by rw[less_tot];rw[h2.2.1];rfl),srt_drop hs hm]
def keysQ (P:ShD):List (List UInt8):=P.1++P.2.1.map fun e=>e.1
def keysW:List ShD→List (List UInt8)
 |[]=>[]
 |P::r=>keysQ P++keysW r
def pgOK (k:Int):List ShD→Prop
 |[]=>True
 |P::r=>P.2.2.1= !r.isEmpty∧(P.2.2.1=true→(P.1.length:Int)+(P.2.1.length:Int)=k)∧pgOK k r
abbrev bOf (a:AskD):Bool:=a.1==4
abbrev selA (s:StD) (a:AskD):List EntD:=selL s a.2.2.2.2.2.2.1 a.2.2.2.2.2.2.2.1 (bOf a)
abbrev mA (a:AskD):Nat:=(mostN a.2.2.2.2.2.2.2.2.1).toNat
theorem leaf_what {s:StD} {a:AskD} (hb:bmayN s=true) (ha:mayN a=true) (hk:isL a.1=true):
  keysQ (leafN s a)=((selA s a).take (mA a)).map (fun e=>e.1)∧(leafN s a).1.length+(leafN s a).2.1.length=((selA s a).take (mA a)).length∧(leafN s a).2.2.1=decide (mostN a.2.2.2.2.2.2.2.2.1<((selA s a).length:Int))∧
  ((leafN s a).2.2.1=true→∃h:mA a-1<(selA s a).length,(leafN s a).2.2.2.1=((selA s a)[mA a-1]).1):=by
 have m1:=most_pos a.2.2.2.2.2.2.2.2.1;unfold leafN leafB;rw[hb,ha,xT,xT];unfold isL at hk;rw[Bool.or_eq_true] at hk;by_cases h4:a.1=4
 ·have e4:(a.1==4)=true:=beq_iff_eq.2 h4;rw[e4,xT];unfold selA bOf;rw[e4];refine⟨?_,?_,rfl,fun hm=> ?_⟩
  ·show(namesL _ _ _ _ _)++[]=_;rw[List.append_nil];rfl
  ·show(namesL _ _ _ _ _).length+0=_;unfold namesL;rw[List.length_map];rfl
  ·have hm:pageM s a.2.2.2.2.2.2.1 a.2.2.2.2.2.2.2.1 a.2.2.2.2.2.2.2.2.1 true=true:=hm;have hlt:mostN a.2.2.2.2.2.2.2.2.1<((selL s a.2.2.2.2.2.2.1 a.2.2.2.2.2.2.2.1 true).length:Int):=of_decide_eq_true hm;have hl:mA a-1<(selL s a.2.2.2.2.2.2.1 a.2.2.2.2.2.2.2.1 true).length:=by unfold mA;omega
   refine⟨hl,?_⟩;show(bif pageM s a.2.2.2.2.2.2.1 a.2.2.2.2.2.2.2.1 a.2.2.2.2.2.2.2.2.1 true then lastN (namesL s a.2.2.2.2.2.2.1 a.2.2.2.2.2.2.2.1 a.2.2.2.2.2.2.2.2.1 true) else [])=_;rw[hm,xT];unfold lastN namesL pageL;rw[List.length_map,List.length_take,List.getD_eq_getElem?_getD,List.getElem?_map,List.getElem?_take,if_pos (by unfold mA at hl;omega),show min (mostN a.2.2.2.2.2.2.2.2.1).toNat (selL s a.2.2.2.2.2.2.1 a.2.2.2.2.2.2.2.1 true).length-1=mA a-1 by unfold mA at *;omega,List.getElem?_eq_getElem hl];rfl
 ·have h5:a.1=5:=by
   rcases hk with h|h
   ·exact absurd (beq_iff_eq.1 h) h4
   ·exact beq_iff_eq.1 h
  have e4:(a.1==4)=false:=beq_eq_false_iff_ne.2 h4;have e5:(a.1==5)=true:=beq_iff_eq.2 h5;rw[e4,xF,e5,xT];unfold selA bOf;rw[e4];refine⟨rfl,?_,rfl,fun hm=> ?_⟩
  ·show 0+(pageL _ _ _ _ _).length=_;rw[Nat.zero_add];rfl
  ·have hm:pageM s a.2.2.2.2.2.2.1 a.2.2.2.2.2.2.2.1 a.2.2.2.2.2.2.2.2.1 false=true:=hm;have hlt:mostN a.2.2.2.2.2.2.2.2.1<((selL s a.2.2.2.2.2.2.1 a.2.2.2.2.2.2.2.1 false).length:Int):=of_decide_eq_true hm;have hl:mA a-1<(selL s a.2.2.2.2.2.2.1 a.2.2.2.2.2.2.2.1 false).length:=by unfold mA;omega
   refine⟨hl,?_⟩;show(bif pageM s a.2.2.2.2.2.2.1 a.2.2.2.2.2.2.2.1 a.2.2.2.2.2.2.2.2.1 false then(entAt (pageL s a.2.2.2.2.2.2.1 a.2.2.2.2.2.2.2.1 a.2.2.2.2.2.2.2.2.1 false) _).1 else [])=_;rw[hm,xT];unfold entAt pageL;rw[List.length_take,List.getD_eq_getElem?_getD,List.getElem?_take,if_pos (by unfold mA at hl;omega),show min (mostN a.2.2.2.2.2.2.2.2.1).toNat (selL s a.2.2.2.2.2.2.1 a.2.2.2.2.2.2.2.1 false).length-1=mA a-1 by unfold mA at *;omega,List.getElem?_eq_getElem hl];rfl
theorem next_may {a:AskD} {x:List UInt8} (hk:isL a.1=true) (h:mayN a=true) (hx:isKey x=true):mayN (nextA a x)=true:=by
 unfold mayN at h⊢;rw[hk,xT] at h;rw[show isL (nextA a x).1=true from hk,xT];unfold mayL at h⊢;simp only[Bool.and_eq_true] at h⊢;obtain⟨h1,h2,h3,h4,h5,h6,h7,h8,h9⟩:=h;refine⟨h1,h2,h3,h4,h5,h6,?_,h8,h9⟩;show keyB x=true;unfold keyB;rw[hx,Bool.or_true]
theorem walk_what {s:StD} (hb:bmayN s=true) (hp:bmayP s=true):∀(r:Nat) (a:AskD),mayN a=true→isL a.1=true→askP a=true→(selA s a).length<r→
  walkP r s a=true∧keysW (walkN r s a)=(selA s a).map (fun e=>e.1)∧pgOK (mostN a.2.2.2.2.2.2.2.2.1) (walkN r s a)∧1≤(walkN r s a).length∧(walkN r s a).length≤r:=by
 intro r
 induction r with
 |zero=>intro a _ _ _ h;omega
 |succ r ih=>
  intro a ha hk hq hl;obtain⟨w1,w2,w3,w4⟩:=leaf_what hb ha hk;have hlp:leafP s a=true:=by unfold leafP;rw[hp,hq];rfl
  have m1:=most_pos a.2.2.2.2.2.2.2.2.1;unfold walkP walkN;rw[hlp];cases hm:(leafN s a).2.2.1
  ·rw[xF];rw[hm] at w3;have hge:=of_decide_eq_false w3.symm;refine⟨rfl,?_,⟨by rw[hm];rfl,(fun h=>by rw[hm] at h;cases h),trivial⟩,Nat.le_refl _,by show 1≤r+1;omega⟩;show keysQ (leafN s a)++[]=_;rw[List.append_nil,w1,List.take_of_length_le (by unfold mA;omega)]
  ·rw[xT];rw[hm] at w3;have hlt:=of_decide_eq_true w3.symm;obtain⟨h1,h2⟩:=w4 hm;have hmem:(selA s a)[mA a-1]∈s.2.1:=(List.mem_filter.1 (List.getElem_mem h1)).1;have hkey:=(bmay_key hb hmem).1;have hsel:selA s (nextA a (leafN s a).2.2.2.1)=(selA s a).drop (mA a):=by
    rw[h2];have:=sel_drop (p:=a.2.2.2.2.2.2.1) (f:=a.2.2.2.2.2.2.2.1) (b:=bOf a) hb h1;rw[show mA a-1+1=mA a by unfold mA;omega] at this;exact this
   obtain⟨i1,i2,i3,i4,i5⟩:=ih (nextA a (leafN s a).2.2.2.1) (by rw[h2];exact next_may hk ha hkey) hk (next_askP hq (by rw[h2];have:=isKey_bnd hkey;omega)) (by rw[hsel,List.length_drop];unfold mA;omega);refine⟨by rw[i1];rfl,?_,⟨?_,fun _=> ?_,i3⟩,by show 1≤_+1;omega,by show _+1≤r+1;omega⟩
   ·show keysQ (leafN s a)++keysW _=_;rw[w1,i2,hsel,←List.map_append,List.take_append_drop]
   ·rw[hm]
    revert i4
    cases walkN r s (nextA a (leafN s a).2.2.2.1)
    ·intro h;exact absurd h (by decide)
    ·intro _;rfl
   ·have:=w2;rw[List.length_take] at this;unfold mA at this;omega
end Nice
