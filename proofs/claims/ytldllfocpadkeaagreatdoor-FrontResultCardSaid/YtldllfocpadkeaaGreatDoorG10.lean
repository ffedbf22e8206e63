/-
  Part of the proof: ShR ShX ShY BkR GetN BkS LawLA LwW LwP. No condition.
-/
import Derived.Test.YtldllfocpadkeaaGreatDoorG9
import Derived.Test.YtldllfocpadkeaaGreatDoorG7
import Derived.Test.YtldllfocpadkeaaGreatDoorG8
namespace Nice
open Go Go.Eng
noncomputable def stepR2a (l:List EntD) (t:List UInt8) (i:Int) (nx:List UInt8→List UInt8→List VerD→BS) (ex:BS):BS:=
 bif decide (i<(l.length:Int)) then gd ([decide (inK .i64 (((l.getD i.toNat (EntT).dflt).2.1.length:Int)-1)),decide (t.length+(kenL++(l.getD i.toNat (EntT).dflt).1++nameE).length≤1099511627776),decide ((kenL++(l.getD i.toNat (EntT).dflt).1).length+7≤1099511627776),decide (11+(l.getD i.toNat (EntT).dflt).1.length≤1099511627776)]++gI l i) (nx (t++(kenL++(l.getD i.toNat (EntT).dflt).1++nameE)) (l.getD i.toNat (EntT).dflt).1 (l.getD i.toNat (EntT).dflt).2.1) else ex
noncomputable def stepR2b (l:List VerD) (t:List UInt8) (i j:Int) (nx:List UInt8→BS) (ex:List UInt8→BS):BS:=
 bif decide (j≥0) then gd [bndS (l.getD j.toNat (VerT).dflt).2.2.1,decide (j.toNat<l.length),decide (0≤j),decide (j<(l.length:Int))] (bif (l.getD j.toNat (VerT).dflt).2.1 then
     gd (gV t j (digits (l.getD j.toNat (VerT).dflt).1) goneL++(digitsS.pre ((l.getD j.toNat (VerT).dflt).1,())::(gI l j++gI l j))) (nx (t++verY (digits (l.getD j.toNat (VerT).dflt).1) goneL))
  else gd (gV t j (digits (l.getD j.toNat (VerT).dflt).1) (tagN (l.getD j.toNat (VerT).dflt).2.2.1)++(digitsS.pre ((l.getD j.toNat (VerT).dflt).1,())::(gI l j++gI l j))) (nx (t++verY (digits (l.getD j.toNat (VerT).dflt).1) (tagN (l.getD j.toNat (VerT).dflt).2.2.1))))
 else gd [decide (inK .i64 (i+1)),decide (t.length+6≤1099511627776)] (ex (t++keyE))
theorem gI_ok {α β:Type} {l:List α} {i:Nat} (h:i<l.length) (q:List Bool) (y:Option β):gd (gI l (i:Int)++q) y=gd q y:=by
 unfold gI;simp only[List.cons_append,List.nil_append];rw[show(i:Int).toNat=i from rfl,gdT h,gdT (by omega),gdT (by omega)]
theorem gI_ok0 {α β:Type} {l:List α} {i:Nat} (h:i<l.length) (y:Option β):gd (gI l (i:Int)) y=y:=by
 have:=gI_ok h [] y;rw[List.append_nil,xG] at this;exact this
end Nice
namespace Go.Proofs.YtldllfocpadkeaaGreatDoor
open Go Go.Eng Nice Go.RowKit
set_option maxRecDepth 1000000
abbrev shrp:List (Nat×List (Nat×Sh)):=[(5,[(1,(.obj [(.dat .str),(.dat EntT),.sym,.sym])),(2,(.one .sym)),(3,(.one .sym)),(4,(.one .sym))]),(9,[(1,(.obj [(.dat .str),(.dat EntT),.sym,.sym])),(2,(.one .sym)),(3,(.one .sym)),(5,(.one .sym))]),(14,[(1,(.obj [(.dat .str),(.dat EntT),.sym,.sym])),(2,(.one .sym)),(3,(.one .sym)),(5,(.one .sym)),(6,(.obj [.sym,(.dat VerT)])),(7,(.one .sym))])]
noncomputable abbrev enrp:Eng.Env:=envS [(110,smayS),(61,digitsS),(62,tagS)]
noncomputable def hrp0 (N:Nat) (n:List (List UInt8)) (l:List EntD) (b:Bool) (x t:List UInt8) (i:Int):BS:=rH Tryz.prog enrp (shOf shrp) Tryz.f64 [.str] N 0 [(1,.pointer (some ⟨12,0,none⟩)),(2,sy (.string (bs []))),(3,sy (.string (bs t))),(4,sy (.int .i64 i))] [.dat .str n,.dat EntT l,.row [dt 10,dt 11,.bool b,sy (.string (bs x))] 39 false]
noncomputable def hrp1 (N:Nat) (n:List (List UInt8)) (l:List EntD) (b:Bool) (x t:List UInt8) (i:Int):BS:=rH Tryz.prog enrp (shOf shrp) Tryz.f64 [.str] N 1 [(1,.pointer (some ⟨12,0,none⟩)),(2,sy (.string (bs []))),(3,sy (.string (bs t))),(5,sy (.int .i64 i))] [.dat .str n,.dat EntT l,.row [dt 10,dt 11,.bool b,sy (.string (bs x))] 39 false]
noncomputable def hrp2 (N:Nat) (n:List (List UInt8)) (l:List EntD) (b:Bool) (x t:List UInt8) (i:Int) (k:List UInt8) (v:List VerD) (j:Int):BS:=rH Tryz.prog enrp (shOf shrp) Tryz.f64 [.str] N 2 [(1,.pointer (some ⟨12,0,none⟩)),(2,sy (.string (bs []))),(3,sy (.string (bs t))),(5,sy (.int .i64 i)),(6,.pointer (some ⟨14,0,none⟩)),(7,sy (.int .i64 j))] [.dat .str n,.dat EntT l,.row [dt 10,dt 11,.bool b,sy (.string (bs x))] 39 false,.dat VerT v,.row [sy (.string (bs k)),dt 13] 44 false]
noncomputable def orp (x:DenL [ShT]):BS:=fO Tryz.prog enrp (shOf shrp) Tryz.f64 [ShT] [.str] x
theorem orp_g (x:DenL [ShT]):orp x=fON Tryz.prog enrp (shOf shrp) Tryz.f64 [ShT] [.str] heads0 x:=rfl
theorem erpT_g (N:Nat) (n:List (List UInt8)) (l:List EntD) (x:List UInt8):fON Tryz.prog enrp (shOf shrp) Tryz.f64 [ShT] [.str] N ((n,l,true,x,()),())=begSP (n,l,true,x,()) (fun t=>hrp0 N n l true x t 0):=by kernel_rfl
theorem erpF_g (N:Nat) (n:List (List UInt8)) (l:List EntD) (x:List UInt8):fON Tryz.prog enrp (shOf shrp) Tryz.f64 [ShT] [.str] N ((n,l,false,x,()),())=begSP (n,l,false,x,()) (fun t=>hrp0 N n l false x t 0):=by kernel_rfl
theorem erp0 (N:Nat) (n:List (List UInt8)) (l:List EntD) (b:Bool) (x t:List UInt8) (i:Int):hrp0 (N+1) n l b x t i=stepP0 n t (n.length:Int) i (fun t'=>hrp0 N n l b x t' (i+1)) (hrp1 N n l b x t 0):=by kernel_rfl
theorem erp1 (N:Nat) (n:List (List UInt8)) (l:List EntD) (b:Bool) (x t:List UInt8) (i:Int):hrp1 (N+1) n l b x t i=stepR2a l t i (fun t' k v=>hrp2 N n l b x t' i k v ((v.length:Int)-1)) (exP b x t):=by kernel_rfl
theorem erp2 (N:Nat) (n:List (List UInt8)) (l:List EntD) (b:Bool) (x t:List UInt8) (i:Int) (k:List UInt8) (v:List VerD) (j:Int):hrp2 (N+1) n l b x t i k v j=stepR2b v t i j (fun t'=>hrp2 N n l b x t' i k v (j-1)) (fun t'=>hrp1 N n l b x t' (i+1)):=by kernel_rfl
theorem rp2_l (n:List (List UInt8)) (l:List EntD) (b:Bool) (x:List UInt8) (i:Nat) (hi:i≤20) (k:List UInt8) (v:List VerD) (hl:v.length≤12) (hv:∀u,u∈v→verBW u=true):∀(j N:Nat) (t:List UInt8),j≤v.length→j<N→t.length+100*j≤549755813888→hrp2 N n l b x t (i:Int) k v ((j:Int)-1)=hrp1 (N-j-1) n l b x (t++versX (v.take j)++keyE) ((i:Int)+1):=by
 intro j
 induction j with
 |zero=>
  intro N t _ hN ht;obtain⟨N,rfl⟩:∃m,N=m+1:=⟨N-1,by omega⟩
  rw[erp2];unfold stepR2b;rw[cdF (by omega),gdT (inK_i64.2 ⟨by omega,by omega⟩),gdT (by omega),xG,List.take_zero,show N+1-0-1=N by omega];show hrp1 N n l b x (t++keyE) _=hrp1 N n l b x (t++[]++keyE) _;rw[List.append_nil]
 |succ j ih=>
  intro N t hj hN ht;obtain⟨N,rfl⟩:∃m,N=m+1:=⟨N-1,by omega⟩
  have hlt:j<v.length:=by omega
  have hm:v.getD j (VerT).dflt∈v:=by
   rw[List.getD_eq_getElem?_getD,List.getElem?_eq_getElem hlt];exact List.getElem_mem hlt
  have hb:=hv _ hm;have htk:v.take (j+1)=v.take j++[v.getD j (VerT).dflt]:=by
   rw[List.take_succ_eq_append_getElem hlt,List.getD_eq_getElem?_getD,List.getElem?_eq_getElem hlt];rfl
  have hvl:=verX_len hb;have this:=ih N (t++verX (v.getD j (VerT).dflt)) (by omega) (by omega) (by rw[List.length_append];omega);have hb':=hb;unfold verBW at hb';rw[Bool.and_eq_true,Bool.and_eq_true,Bool.and_eq_true,decide_eq_true_eq,decide_eq_true_eq,decide_eq_true_eq] at hb';obtain⟨b1,b2,b3,_⟩:=hb';have hf:=fmt_len (n:=(v.getD j (VerT).dflt).1) (by omega) b2
  have hdg:=digits_fmt (n:=(v.getD j (VerT).dflt).1) (by omega) b2;have hmk:=mkV_len (v.getD j (VerT).dflt);have hbd:bndS (v.getD j (VerT).dflt).2.2.1=true:=by unfold bndS;exact decide_eq_true (by omega)
  have hpre:digitsS.pre ((v.getD j (VerT).dflt).1,())=true:=by
   show(decide (-9223372036854775808≤(v.getD j (VerT).dflt).1)&&decide ((v.getD j (VerT).dflt).1≤9223372036854775807))=true;rw[Bool.and_eq_true,decide_eq_true_eq,decide_eq_true_eq];omega
  rw[erp2];unfold stepR2b;rw[cdT (by omega),show(((j+1:Nat):Int)-1)=(j:Int) by omega,show(j:Int).toNat=j from rfl,gdB hbd,gdT hlt,gdT (by omega),gdT (by omega),xG,htk,versX_snoc,←List.append_assoc t,show N+1-(j+1)-1=N-j-1 by omega,←this,hdg];unfold verX mkV at hmk⊢;cases hg:(v.getD j (VerT).dflt).2.1
  ·rw[hg] at hmk;rw[xF,gV_ok (by omega) (by omega) (by omega) hf (by exact hmk),gdB hpre,gI_ok hlt,gI_ok0 hlt];rfl
  ·rw[xT,gV_ok (by omega) (by omega) (by omega) hf (by decide),gdB hpre,gI_ok hlt,gI_ok0 hlt];rfl
theorem rp1_l (n:List (List UInt8)) (l:List EntD) (b:Bool) (x:List UInt8) (hx:x.length≤40) (hl:l.length≤20) (hp:∀e,e∈l→entB e=true):∀(r i N:Nat) (t:List UInt8),l.length=i+r→15*r<N→t.length+2000*r≤274877906944→hrp1 N n l b x t (i:Int)=some (t++(l.drop i).flatMap entX++nextX b x++endL,()):=by
 intro r
 induction r with
 |zero=>
  intro i N t hi hN ht;obtain⟨N,rfl⟩:∃m,N=m+1:=⟨N-1,by omega⟩
  rw[erp1];unfold stepR2a;rw[cdF (by omega),List.drop_eq_nil_of_le (by omega),exP_n b hx (by omega)];simp
 |succ r ih=>
  intro i N t hi hN ht;obtain⟨N,rfl⟩:∃m,N=m+1:=⟨N-1,by omega⟩
  have hlt:i<l.length:=by omega
  have hd:l.drop i=l.getD i (EntT).dflt::l.drop (i+1):=by
   rw[List.drop_eq_getElem_cons hlt,List.getD_eq_getElem?_getD,List.getElem?_eq_getElem hlt];rfl
  have hh:entB (l.getD i (EntT).dflt)=true:=hp _ (by
   rw[List.getD_eq_getElem?_getD,List.getElem?_eq_getElem hlt];exact List.getElem_mem hlt)
  have hel:=entX_len hh;obtain⟨q1,q2,q3,q4⟩:=entB_iff.1 hh;have q2:=isKey_bnd q2;have hvm:=riseV_mem _ _ q1;have e1:(kenL++(l.getD i (EntT).dflt).1).length=11+(l.getD i (EntT).dflt).1.length:=by rw[List.length_append];rfl
  have e2:(kenL++(l.getD i (EntT).dflt).1++nameE).length=18+(l.getD i (EntT).dflt).1.length:=by rw[List.length_append,e1,show nameE.length=7 from rfl];omega
  have h2:=rp2_l n l b x i (by omega) (l.getD i (EntT).dflt).1 (l.getD i (EntT).dflt).2.1 q4 hvm (l.getD i (EntT).dflt).2.1.length N (t++(kenL++(l.getD i (EntT).dflt).1++nameE)) (Nat.le_refl _) (by omega) (by rw[List.length_append,e2];omega);rw[List.take_length,show t++(kenL++(l.getD i (EntT).dflt).1++nameE)++versX (l.getD i (EntT).dflt).2.1++keyE=t++entX (l.getD i (EntT).dflt) by unfold entX;simp only[List.append_assoc]] at h2
  have this:=ih (i+1) (N-(l.getD i (EntT).dflt).2.1.length-1) (t++entX (l.getD i (EntT).dflt)) (by omega) (by omega) (by rw[List.length_append];omega);simp only[Int.natCast_add,Int.natCast_one] at this;rw[erp1];unfold stepR2a;simp only[List.cons_append,List.nil_append];rw[cdT (by omega),show(i:Int).toNat=i from rfl,gdT (inK_i64.2 ⟨by omega,by omega⟩),gdT (by omega),gdT (by omega),gdT (by omega)]
  unfold gI;rw[show(i:Int).toNat=i from rfl,gdT hlt,gdT (by omega),gdT (by omega),xG];refine Eq.trans h2 (Eq.trans this ?_);rw[hd,List.flatMap_cons,List.append_assoc t]
theorem rp0_l (n:List (List UInt8)) (l:List EntD) (b:Bool) (x:List UInt8) (hx:x.length≤40) (hl:l.length≤20) (hp:∀e,e∈l→entB e=true) (hn:n.length≤20) (hk:∀k,k∈n→isKey k=true):∀(r i N:Nat) (t:List UInt8),n.length=i+r→r+15*l.length+2<N→t.length+100*r≤137438953472→hrp0 N n l b x t (i:Int)=some (t++(n.drop i).flatMap nameX++l.flatMap entX++nextX b x++endL,()):=by
 intro r
 induction r with
 |zero=>
  intro i N t hi hN ht;obtain⟨N,rfl⟩:∃m,N=m+1:=⟨N-1,by omega⟩
  have:=rp1_l n l b x hx hl hp l.length 0 N t (by omega) (by omega) (by omega);rw[erp0];unfold stepP0;rw[cdF (by omega),List.drop_eq_nil_of_le (by omega)];refine Eq.trans this ?_;simp
 |succ r ih=>
  intro i N t hi hN ht;obtain⟨N,rfl⟩:∃m,N=m+1:=⟨N-1,by omega⟩
  have hlt:i<n.length:=by omega
  have hd:n.drop i=n.getD i []::n.drop (i+1):=by
   rw[List.drop_eq_getElem_cons hlt,List.getD_eq_getElem?_getD,List.getElem?_eq_getElem hlt];rfl
  have hh:=isKey_bnd (hk (n.getD i []) (by
   rw[List.getD_eq_getElem?_getD,List.getElem?_eq_getElem hlt];exact List.getElem_mem hlt))
  have e1:(nameX (n.getD i [])).length=13+(n.getD i []).length:=by
   unfold nameX;rw[List.length_append,List.length_append,show nameL.length=6 from rfl,show nameE.length=7 from rfl];omega
  have this:=ih (i+1) N (t++nameX (n.getD i [])) (by omega) (by omega) (by rw[List.length_append];omega);simp only[Int.natCast_add,Int.natCast_one] at this;rw[erp0];unfold stepP0;rw[cdT (by omega),show(i:Int).toNat=i from rfl,show n.getD i Ty.str.dflt=n.getD i [] from rfl,gN_ok (by omega) (by omega) (by omega) hh,gI_ok0 hlt]
  refine Eq.trans this ?_;rw[hd,List.flatMap_cons,List.append_assoc t]
theorem rp_n {n:List (List UInt8)} {l:List EntD} {b:Bool} {x:List UInt8} (h:smayP (n,l,b,x,())=true):begSP (n,l,b,x,()) (fun t=>hrp0 heads0 n l b x t 0)=some (sputN (n,l,b,x,()),()):=by
 unfold begSP sputN;rw[gdB h,gdB h,xG,xG];cases hm:smayN (n,l,b,x,())
 ·rfl
 ·obtain⟨h1,h2,h3,h4,h5⟩:=smayN_iff hm;have h3:n.length≤20:=h3;have h4:l.length≤20:=h4;have:=rp0_l n l b x h5 h4 h2 h3 h1 n.length 0 heads0 begL (by omega) (by unfold heads0;omega) (by rw[show begL.length=6 from rfl];omega);rw[List.drop_zero] at this;exact this
theorem rsput_c:PC 64 sputS:=(pureO (sh:=shOf shrp) (envS_ok (l:=[(110,smayS),(61,digitsS),(62,tagS)]) ⟨rsmay_c,digits_c,tag_c,trivial⟩) gl_ne Tryz.func64 (by kernel_rfl) (by decide)).nice fun⟨⟨n,l,b,x,()⟩,()⟩ h=>by
 show orp _=some (sputN (n,l,b,x,()),());rw[orp_g];cases b
 ·rw[erpF_g];exact rp_n h
 ·rw[erpT_g];exact rp_n h
end Go.Proofs.YtldllfocpadkeaaGreatDoor
namespace Nice
open Go Go.Eng
def eqV (x y:VerD):Bool:=x.1==y.1&&x.2.1==y.2.1
def eqVs:List VerD→List VerD→Bool
 |[],[]=>true
 |x::a,y::b=>eqV x y&&eqVs a b
 |_,_=>false
end Nice
namespace Go.Proofs.YtldllfocpadkeaaGreatDoor
open Go Go.Eng Nice Go.RowKit
set_option maxRecDepth 1000000
abbrev shq:List (Nat×List (Nat×Sh)):=[(4,[(2,(.obj [(.dat .str),(.dat EntT),.sym,.sym])),(3,(.obj [(.dat .str),(.dat EntT),.sym,.sym])),(4,(.one .sym)),(5,(.one .sym))]),(9,[(2,(.obj [(.dat .str),(.dat EntT),.sym,.sym])),(3,(.obj [(.dat .str),(.dat EntT),.sym,.sym])),(4,(.one .sym)),(6,(.one .sym))]),(15,[(2,(.obj [(.dat .str),(.dat EntT),.sym,.sym])),(3,(.obj [(.dat .str),(.dat EntT),.sym,.sym])),(4,(.one .sym)),(6,(.one .sym)),(7,(.obj [.sym,(.dat VerT)])),(8,(.obj [.sym,(.dat VerT)])),(9,(.one .sym))])]
noncomputable def hq2 (N:Nat) (n:List (List UInt8)) (l:List EntD) (b:Bool) (x x2:List UInt8) (n2:List (List UInt8)) (l2:List EntD) (i:Int) (k:List UInt8) (v:List VerD) (k2:List UInt8) (v2:List VerD) (j:Int):BO:=rH Tryz.prog (envS []) (shOf shq) Tryz.f18 [.bool] N 2 [(2,.pointer (some ⟨12,0,none⟩)),(3,.pointer (some ⟨15,0,none⟩)),(4,.bool false),(6,sy (.int .i64 i)),(7,.pointer (some ⟨17,0,none⟩)),(8,.pointer (some ⟨19,0,none⟩)),(9,sy (.int .i64 j))] [.dat .str n,.dat EntT l,.row [dt 10,dt 11,.bool b,sy (.string (bs x))] 35 false,.dat .str n2,.dat EntT l2,.row [dt 13,dt 14,.bool b,sy (.string (bs x2))] 39 false,.dat VerT v,.row [sy (.string (bs k)),dt 16] 44 false,.dat VerT v2,.row [sy (.string (bs k2)),dt 18] 44 false]
end Go.Proofs.YtldllfocpadkeaaGreatDoor
namespace Nice
open Go Go.Eng
def rhStep (n lo hi k:Int) (nx:IO1):IO1:=bif decide (n>lo) then(bif decide (n<hi) then some (k,()) else nx) else nx
def rhE (n:Int):IO1:=rhStep n 4294967296 8589934592 1 (rhStep n 8589934592 12884901888 2 (rhStep n 12884901888 17179869184 3 (rhStep n 17179869184 21474836480 4 (rhStep n 21474836480 25769803776 5 (some (0,()))))))
theorem rhStep_in {n lo hi k:Int} {nx:IO1} (h1:lo<n) (h2:n<hi):rhStep n lo hi k nx=some (k,()):=by
 unfold rhStep;rw[cdT (by omega),cdT h2]
theorem rhStep_out {n lo hi k:Int} {nx:IO1} (h:n≤lo∨hi≤n):rhStep n lo hi k nx=nx:=by
 unfold rhStep;by_cases h1:n>lo
 ·rw[cdT h1,cdF (by omega)]
 ·rw[cdF h1]
theorem homeN_eq {n k:Int} (h0:1≤k) (h5:k≤5) (h1:k*4294967296<n) (h2:n<(k+1)*4294967296):homeN n=k:=by
 unfold homeN;have e1:n.tmod 4294967296=n%4294967296:=Int.tmod_eq_emod_of_nonneg (by omega);have e2:n.tdiv 4294967296=n/4294967296:=Int.tdiv_eq_ediv_of_nonneg (by omega);rw[decide_eq_false (show ¬n<4294967296 by omega),decide_eq_false (show ¬n≥25769803776 by omega),e1,e2,show(n%4294967296==0)=false from by rw[beq_eq_false_iff_ne];omega]
 show n/4294967296=k;omega
theorem homeN_zero {n:Int} (h:n≤4294967296∨25769803776≤n∨n%4294967296=0):homeN n=0:=by
 unfold homeN;by_cases h1:n<4294967296
 ·rw[decide_eq_true h1];rfl
 rw[decide_eq_false h1];by_cases h2:n≥25769803776
 ·rw[decide_eq_true h2];rfl
 rw[decide_eq_false h2];have e1:n.tmod 4294967296=n%4294967296:=Int.tmod_eq_emod_of_nonneg (by omega);rw[e1,show(n%4294967296==0)=true from beq_iff_eq.2 (by omega)];rfl
theorem rhE_n (n:Int):rhE n=some (homeN n,()):=by
 unfold rhE;by_cases h1:4294967296<n∧n<8589934592
 ·rw[rhStep_in h1.1 h1.2,homeN_eq (k:=1) (by omega) (by omega) (by omega) (by omega)]
 rw[rhStep_out (by omega)];by_cases h2:8589934592<n∧n<12884901888
 ·rw[rhStep_in h2.1 h2.2,homeN_eq (k:=2) (by omega) (by omega) (by omega) (by omega)]
 rw[rhStep_out (by omega)];by_cases h3:12884901888<n∧n<17179869184
 ·rw[rhStep_in h3.1 h3.2,homeN_eq (k:=3) (by omega) (by omega) (by omega) (by omega)]
 rw[rhStep_out (by omega)];by_cases h4:17179869184<n∧n<21474836480
 ·rw[rhStep_in h4.1 h4.2,homeN_eq (k:=4) (by omega) (by omega) (by omega) (by omega)]
 rw[rhStep_out (by omega)];by_cases h5:21474836480<n∧n<25769803776
 ·rw[rhStep_in h5.1 h5.2,homeN_eq (k:=5) (by omega) (by omega) (by omega) (by omega)]
 rw[rhStep_out (by omega),homeN_zero (by omega)]
noncomputable abbrev gVe (e:EntD):List Bool:=[decide (((e.2.1.length:Int)-1).toNat<e.2.1.length),decide (0≤(e.2.1.length:Int)-1),decide ((e.2.1.length:Int)-1<(e.2.1.length:Int)),decide (inK .i64 ((e.2.1.length:Int)-1))]
noncomputable def rbE (q:Int) (l:List EntD) (i:Int) (e:EntD) (nx:BO):BO:=
 bif entB (e.1,e.2.1,()) then(bif decide (i>0) then(bif Op.bytesLess e.1 (l.getD (i-1).toNat (EntT).dflt).1||e.1==(l.getD (i-1).toNat (EntT).dflt).1 then gd (gPx l i++(gI l i++(entP (e.1,e.2.1,())::gI l i))) (bO false)
     else bif decide ((e.2.1.getD ((e.2.1.length:Int)-1).toNat (VerT).dflt).1>q) then gd (gVe e++(gI l i++(gI l i++(gPx l i++(gI l i++(entP (e.1,e.2.1,())::gI l i)))))) (bO false) else gd (decide (inK .i64 (i+1))::(gVe e++(gI l i++(gI l i++(gPx l i++(gI l i++(entP (e.1,e.2.1,())::gI l i))))))) nx)
  else bif decide ((e.2.1.getD ((e.2.1.length:Int)-1).toNat (VerT).dflt).1>q) then gd (gVe e++(gI l i++(gI l i++(entP (e.1,e.2.1,())::gI l i)))) (bO false) else gd (decide (inK .i64 (i+1))::(gVe e++(gI l i++(gI l i++(entP (e.1,e.2.1,())::gI l i))))) nx)
 else gd (entP (e.1,e.2.1,())::gI l i) (bO false)
noncomputable def rbStep (q:Int) (l:List EntD) (i:Int) (nx ex:BO):BO:=bif decide (i<(l.length:Int)) then rbE q l i (l.getD i.toNat (EntT).dflt) nx else ex
theorem gJ_ok {α β:Type} {l:List α} {i:Nat} (h1:i<l.length) (y:Option β) (ps:List Bool):gd (gI l (i:Int)++ps) y=gd ps y:=by
 unfold gI;simp only[List.cons_append,List.nil_append];rw[gdT (by omega),gdT (by omega),gdT (by omega)]
theorem gJ_ok0 {α β:Type} {l:List α} {i:Nat} (h1:i<l.length) (y:Option β):gd (gI l (i:Int)) y=y:=by
 have:=gJ_ok h1 y [];rw[List.append_nil] at this;rw[this,xG]
theorem rbE_n {q:Int} {l:List EntD} {i:Nat} {b:Bool} {nx:BO} (hl:l.length≤40) (hi:i<l.length) (hp:entP (entAt l i)=true) (h:nx=bO b):rbE q l (i:Int) (entAt l i) nx=bO (bEnt q l i&&b):=by
 have hk:inK .i64 ((i:Int)+1):=inK_i64.2 ⟨by omega,by omega⟩;have hp':entP ((entAt l i).1,(entAt l i).2.1,())=true:=hp;have he:entB ((entAt l i).1,(entAt l i).2.1,())=entB (entAt l i):=rfl;unfold rbE bEnt;rw[he];cases hb:entB (entAt l i)
 ·rw[xF,gdB hp',gJ_ok0 hi];rfl
 ·obtain⟨n1,n2⟩:=entB_len hb;have e1:(((entAt l i).2.1.length:Int)-1).toNat=(entAt l i).2.1.length-1:=by omega
  have hz:∀(y:BO) ps,gd (gVe (entAt l i)++ps) y=gd ps y:=fun y ps=>by
   unfold gVe;simp only[List.cons_append,List.nil_append];rw[gdT (by omega),gdT (by omega),gdT (by omega),gdT (inK_i64.2 ⟨by omega,by omega⟩)]
  have hv:(entAt l i).2.1.getD (((entAt l i).2.1.length:Int)-1).toNat (VerT).dflt=lastV (entAt l i):=by rw[e1];rfl
  rw[xT,hv,Bool.true_and];by_cases h0:i=0
  ·subst h0;rw[cdF (by omega)];by_cases h1:(lastV (entAt l 0)).1>q
   ·rw[cdT h1,hz,gJ_ok hi,gJ_ok hi,gdB hp',gJ_ok0 hi,decide_eq_false (show ¬(lastV (entAt l 0)).1≤q by omega)];rfl
   ·rw[cdF h1,gdT hk,hz,gJ_ok hi,gJ_ok hi,gdB hp',gJ_ok0 hi,decide_eq_true (show(lastV (entAt l 0)).1≤q by omega),h];rfl
  ·have e2:((i:Int)-1).toNat=i-1:=by omega
   have e3:Nat.beq i 0=false:=by cases i with
    |zero=>exact absurd rfl h0
    |succ n=>rfl
   rw[cdT (by omega),e2,e3,Bool.false_or];show(bif Op.bytesLess (entAt l i).1 (entAt l (i-1)).1||(entAt l i).1==(entAt l (i-1)).1 then _ else _)=_;have ht:=less_tot (entAt l (i-1)).1 (entAt l i).1;cases hb2:Op.bytesLess (entAt l i).1 (entAt l (i-1)).1||(entAt l i).1==(entAt l (i-1)).1
   ·rw[hb2] at ht;rw[xF,ht];by_cases h1:(lastV (entAt l i)).1>q
    ·rw[cdT h1,hz,gJ_ok hi,gJ_ok hi,gPx_ok (by omega) hi (by omega),gJ_ok hi,gdB hp',gJ_ok0 hi,decide_eq_false (show ¬(lastV (entAt l i)).1≤q by omega)];rfl
    ·rw[cdF h1,gdT hk,hz,gJ_ok hi,gJ_ok hi,gPx_ok (by omega) hi (by omega),gJ_ok hi,gdB hp',gJ_ok0 hi,decide_eq_true (show(lastV (entAt l i)).1≤q by omega),h];rfl
   ·rw[hb2] at ht;rw[xT,gPx_ok (by omega) hi (by omega),gJ_ok hi,gdB hp',gJ_ok0 hi,ht];cases decide ((lastV (entAt l i)).1≤q)<;>rfl
noncomputable def rmTail (q:Int) (x:MemoD) (i:Int) (G:List Bool) (nx:BO) (lo:Int):BO:=
 bif decide (x.1<lo) then gd (decide (inK .i64 (homeN x.1-1))::G) (bO false) else bif decide (x.2.1.1<0) then gd (decide (inK .i64 (homeN x.1-1))::G) (bO false) else bif decide (x.2.1.1>13) then gd (decide (inK .i64 (homeN x.1-1))::G) (bO false)
  else bif decide (x.2.1.2.1<0) then gd (decide (inK .i64 (homeN x.1-1))::G) (bO false) else bif decide (x.2.1.2.1>q) then gd (decide (inK .i64 (homeN x.1-1))::G) (bO false) else gd (decide (inK .i64 (i+1))::decide (inK .i64 (homeN x.1-1))::G) nx
theorem rmTail_n {q:Int} {x:MemoD} {i lo:Int} {G:List Bool} {b:Bool} {nx:BO} (hi:inK .i64 (i+1)) (hh:inK .i64 (homeN x.1-1)) (hG:∀y:BO,gd G y=y) (h:nx=bO b):rmTail q x i G nx lo=bO (decide (lo≤x.1)&&(bRes q x&&b)):=by
 unfold rmTail bRes;by_cases h0:x.1<lo
 ·rw[cdT h0,gdT hh,hG,decide_eq_false (show ¬lo≤x.1 by omega)];rfl
 rw[cdF h0,decide_eq_true (show lo≤x.1 by omega)];by_cases h1:x.2.1.1<0
 ·rw[cdT h1,gdT hh,hG,decide_eq_false (show ¬0≤x.2.1.1 by omega)];rfl
 rw[cdF h1,decide_eq_true (show 0≤x.2.1.1 by omega)];by_cases h2:x.2.1.1>13
 ·rw[cdT h2,gdT hh,hG,decide_eq_false (show ¬x.2.1.1≤13 by omega)];rfl
 rw[cdF h2,decide_eq_true (show x.2.1.1≤13 by omega)];by_cases h3:x.2.1.2.1<0
 ·rw[cdT h3,gdT hh,hG,decide_eq_false (show ¬0≤x.2.1.2.1 by omega)];rfl
 rw[cdF h3,decide_eq_true (show 0≤x.2.1.2.1 by omega)];by_cases h4:x.2.1.2.1>q
 ·rw[cdT h4,gdT hh,hG,decide_eq_false (show ¬x.2.1.2.1≤q by omega)];rfl
 rw[cdF h4,decide_eq_true (show x.2.1.2.1≤q by omega),gdT hi,gdT hh,hG,h];rfl
noncomputable def rmE (q:Int) (L:LowD) (m:List MemoD) (i:Int) (x:MemoD) (nx:BO):BO:=
 bif homeN x.1==0 then bO false else bif decide (i>0) then(bif decide (x.1≤(m.getD (i-1).toNat (MemoT).dflt).1) then gd (gPx m i) (bO false) else selB L (homeN x.1-1) (rmTail q x i (gPx m i) nx)) else selB L (homeN x.1-1) (rmTail q x i [] nx)
noncomputable def rmStep (q:Int) (L:LowD) (m:List MemoD) (i:Int) (nx:BO):BO:=bif decide (i<(m.length:Int)) then gd (gI m i) (rmE q L m i (m.getD i.toNat (MemoT).dflt) nx) else bO true
theorem rmE_n {q:Int} {L:LowD} {m:List MemoD} {i:Nat} {b:Bool} {nx:BO} (hl:m.length≤100) (hi:i<m.length) (h:nx=bO b):rmE q L m (i:Int) (memAt m i) nx=bO (bMem q L m i&&b):=by
 have hk:inK .i64 ((i:Int)+1):=inK_i64.2 ⟨by omega,by omega⟩;unfold rmE bMem;have hc:=homeN_cases (memAt m i).1;cases h0:homeN (memAt m i).1==0
 ·have h0':homeN (memAt m i).1≠0:=by simpa using h0
  have hh:inK .i64 (homeN (memAt m i).1-1):=inK_i64.2 ⟨by omega,by omega⟩;rw[xF,selB_n (by omega),selB_n (by omega),show(!false)=true from rfl,Bool.true_and];by_cases hi0:i=0
  ·subst hi0;rw[cdF (by omega),rmTail_n hk hh (fun y=>xG _) h];show bO _=bO _;rw[Bool.and_assoc,show Nat.beq 0 0=true from rfl,Bool.true_or,Bool.true_and]
  ·have e2:((i:Int)-1).toNat=i-1:=by omega
   have e3:Nat.beq i 0=false:=by cases i with
    |zero=>exact absurd rfl hi0
    |succ n=>rfl
   have hG:∀y:BO,gd (gPx m (i:Int)) y=y:=fun y=>by
    have:=gPx_ok (show 0<i by omega) hi (by omega) y [];rw[List.append_nil] at this;rw[this,xG]
   rw[cdT (by omega),e2,e3,Bool.false_or];show(bif decide ((memAt m i).1≤(memAt m (i-1)).1) then _ else _)=_;by_cases h2:(memAt m i).1≤(memAt m (i-1)).1
   ·rw[cdT h2,hG,decide_eq_false (show ¬(memAt m (i-1)).1<(memAt m i).1 by omega),Bool.false_and,Bool.and_false];rfl
   ·rw[cdF h2,rmTail_n hk hh hG h,decide_eq_true (show(memAt m (i-1)).1<(memAt m i).1 by omega),Bool.true_and,Bool.and_assoc]
 ·rw[xT];rfl
noncomputable def smK (b is:Bool) (p f:List UInt8) (k:Int) (o:List EntD) (i:Int) (e:EntD) (nx:List EntD→PO):PO:=
 bif decide ((e.1.length:Int)<(p.length:Int)) then gd [decide (inK .i64 (i+1))] (nx o) else bif !List.take (p.length:Int).toNat e.1==p then gd [decide (inK .i64 (i+1)),decide ((p.length:Int)≤(e.1.length:Int))] (nx o)
  else bif Op.bytesLess e.1 f||e.1==f then gd [decide (inK .i64 (i+1)),decide ((p.length:Int)≤(e.1.length:Int))] (nx o)
  else bif b&& !is then gd [decide (inK .i64 (i+1)),decide ((p.length:Int)≤(e.1.length:Int))] (nx o)
  else gd [decide ((p.length:Int)≤(e.1.length:Int))] (bif (o.length:Int)==k then some (o,true,()) else gd [decide (inK .i64 (i+1)),decide ((2*(o.length+[(e.1,e.2.1,())].length)+400)*40≤281474976710656)] (nx (o++[(e.1,e.2.1,())])))
noncomputable def smStep (b:Bool) (p f:List UInt8) (k:Int) (l o:List EntD) (i:Int) (nx:List EntD→PO):PO:=
 bif decide (i<(l.length:Int)) then gd (gI l i) (bif (nowN ((l.getD i.toNat (EntT).dflt).1,(l.getD i.toNat (EntT).dflt).2.1,())).2 then gd [decide ((l.getD i.toNat (EntT).dflt).2.1.length≤140737488355328)] (smK b true p f k o i (l.getD i.toNat (EntT).dflt) nx) else gd [decide ((l.getD i.toNat (EntT).dflt).2.1.length≤140737488355328)] (smK b false p f k o i (l.getD i.toNat (EntT).dflt) nx)) else some (o,false,())
theorem sm_l {b:Bool} {p f:List UInt8} {k:Int} {l:List EntD} {h:Nat→List EntD→Int→PO} (he:∀N o i,h (N+1) o i=smStep b p f k l o i (fun o'=>h N o' (i+1))) (hk:0≤k) (hl:l.length≤40) (hv:∀e,e∈l→1≤e.2.1.length∧e.2.1.length≤12):
  ∀(r i N:Nat) (o:List EntD),l.length=i+r→r<N→o.length≤i→(o.length:Int)≤k→h N o (i:Int)=some ((o++(l.drop i).filter (selP p f b)).take k.toNat,decide (k<((o++(l.drop i).filter (selP p f b)).length:Int)),()):=by
 intro r
 induction r with
 |zero=>
  intro i N o hi hN ho hok;obtain⟨N,rfl⟩:∃k,N=k+1:=⟨N-1,by omega⟩
  rw[he];unfold smStep;rw[cdF (by omega),List.drop_eq_nil_of_le (by omega),List.filter_nil,List.append_nil,List.take_of_length_le (by omega),decide_eq_false (show ¬k<(o.length:Int) by omega)]
 |succ r ih=>
  intro i N o hi hN ho hok;obtain⟨N,rfl⟩:∃k,N=k+1:=⟨N-1,by omega⟩
  have hlt:i<l.length:=by omega
  have hk1:inK .i64 ((i:Int)+1):=inK_i64.2 ⟨by omega,by omega⟩;have hd:l.drop i=entAt l i::l.drop (i+1):=by
   rw[List.drop_eq_getElem_cons hlt];congr 1;unfold entAt;rw[List.getD_eq_getElem?_getD,List.getElem?_eq_getElem hlt];rfl
  obtain⟨v1,v2⟩:=hv (entAt l i) (by
   show l.getD i _∈l;rw[List.getD_eq_getElem?_getD,List.getElem?_eq_getElem hlt];exact List.getElem_mem hlt)
  have hno:∀o':List EntD,o'.length≤i+1→(o'.length:Int)≤k→h N o' ((i:Int)+1)=some ((o'++(l.drop (i+1)).filter (selP p f b)).take k.toNat,decide (k<((o'++(l.drop (i+1)).filter (selP p f b)).length:Int)),()):=fun o' h' h''=>by
   have:=ih (i+1) N o' (by omega) (by omega) h' h'';simpa only[Int.natCast_add,Int.natCast_one] using this
  have skip:selP p f b (entAt l i)=false→h N o ((i:Int)+1)=some ((o++(l.drop i).filter (selP p f b)).take k.toNat,decide (k<((o++(l.drop i).filter (selP p f b)).length:Int)),()):=fun hs=>by
   rw[hd,List.filter_cons_of_neg (by rw[hs];exact Bool.false_ne_true)];exact hno o (by omega) hok
  have take:selP p f b (entAt l i)=true→(o.length:Int)<k→h N (o++[entAt l i]) ((i:Int)+1)=some ((o++(l.drop i).filter (selP p f b)).take k.toNat,decide (k<((o++(l.drop i).filter (selP p f b)).length:Int)),()):=fun hs hlk=>by
   have:=hno (o++[entAt l i]) (by rw[List.length_append,List.length_singleton];omega) (by rw[List.length_append,List.length_singleton];omega);rw[hd,List.filter_cons_of_pos hs];simpa only[List.append_assoc,List.singleton_append] using this
  have full:selP p f b (entAt l i)=true→(o.length:Int)=k→some (o,true,())=(some ((o++(l.drop i).filter (selP p f b)).take k.toNat,decide (k<((o++(l.drop i).filter (selP p f b)).length:Int)),()):PO):=fun hs hlk=>by
   rw[hd,List.filter_cons_of_pos hs,show k.toNat=o.length by omega,List.take_left,decide_eq_true (by rw[List.length_append,List.length_cons];omega)]
  have core:∀is:Bool,(nowN (entAt l i)).2=is→smK b is p f k o (i:Int) (entAt l i) (fun o'=>h N o' ((i:Int)+1))=some ((o++(l.drop i).filter (selP p f b)).take k.toNat,decide (k<((o++(l.drop i).filter (selP p f b)).length:Int)),()):=fun is his=>by
   unfold smK;by_cases c1:((entAt l i).1.length:Int)<(p.length:Int)
   ·rw[cdT c1,gdT hk1,xG];exact skip (by unfold selP hasPre;rw[decide_eq_false (show ¬p.length≤(entAt l i).1.length by omega)];rfl)
   rw[cdF c1,show(p.length:Int).toNat=p.length from rfl];have hp:hasPre (entAt l i).1 p=(List.take p.length (entAt l i).1==p):=by
    unfold hasPre;rw[decide_eq_true (show p.length≤(entAt l i).1.length by omega),Bool.true_and]
   cases c2:List.take p.length (entAt l i).1==p
   ·rw[show(!false)=true from rfl,xT,gdT hk1,gdT (by omega),xG];exact skip (by unfold selP;rw[hp,c2];rfl)
   rw[show(!true)=false from rfl,xF];cases c3:Op.bytesLess (entAt l i).1 f||(entAt l i).1==f
   ·rw[xF];cases c4:b&& !is
    ·have hs:selP p f b (entAt l i)=true:=by
      unfold selP fitB;rw[hp,c2,c3,his];cases b
      ·rfl
      ·cases is
       ·cases c4
       ·rfl
     rw[xF,gdT (by omega),xG];by_cases c5:(o.length:Int)=k
     ·rw[show((o.length:Int)==k)=true from beq_iff_eq.2 c5,xT];exact full hs c5
     ·rw[show((o.length:Int)==k)=false from beq_eq_false_iff_ne.2 c5,xF,gdT hk1,gdT (by simp only[List.length_singleton];omega),xG];exact take hs (by omega)
    ·rw[xT,gdT hk1,gdT (by omega),xG];exact skip (by
      unfold selP fitB;rw[hp,c2,c3,his];cases b
      ·cases c4
      ·cases is
       ·rfl
       ·cases c4)
   ·rw[xT,gdT hk1,gdT (by omega),xG];exact skip (by unfold selP;rw[hp,c2,c3];rfl)
  rw[he];unfold smStep;rw[cdT (by omega),gJ_ok0 hlt];show(bif (nowN (entAt l i)).2 then gd [decide ((entAt l i).2.1.length≤140737488355328)] (smK b true p f k o (i:Int) (entAt l i) (fun o'=>h N o' ((i:Int)+1))) else gd [decide ((entAt l i).2.1.length≤140737488355328)] (smK b false p f k o (i:Int) (entAt l i) (fun o'=>h N o' ((i:Int)+1))))=_
  cases hnw:(nowN (entAt l i)).2
  ·rw[xF,gdT (by omega),xG];exact core false hnw
  ·rw[xT,gdT (by omega),xG];exact core true hnw
noncomputable def someS (b:Bool):PSpec:=⟨[StT,.str,.str,IT,.bool],[.slice EntT,.bool],fun x=>pageP x.1&&x.2.2.2.2.1==b,fun x=>(pageL x.1 x.2.1 x.2.2.1 x.2.2.2.1 x.2.2.2.2.1,pageM x.1 x.2.1 x.2.2.1 x.2.2.2.1 x.2.2.2.2.1,())⟩
theorem most_eq (k:Int):max 1 (min k 20)=mostN k:=by unfold mostN;omega
noncomputable def rleafS:PSpec:=⟨[StT,AskT],[ShT],fun x=>pageP x.1,fun x=>(leafB x.1 x.2.1,())⟩
noncomputable def rleafE (s:StD) (a:AskD):HO1:=bif a.1==4 then nmE s (namesL s a.2.2.2.2.2.2.1 a.2.2.2.2.2.2.2.1 a.2.2.2.2.2.2.2.2.1 true) (pageM s a.2.2.2.2.2.2.1 a.2.2.2.2.2.2.2.1 a.2.2.2.2.2.2.2.2.1 true)
 else bif a.1==5 then enE s (pageL s a.2.2.2.2.2.2.1 a.2.2.2.2.2.2.2.1 a.2.2.2.2.2.2.2.2.1 false) (pageM s a.2.2.2.2.2.2.1 a.2.2.2.2.2.2.2.1 a.2.2.2.2.2.2.2.2.1 false) else some (zSh,())
theorem rleafE_n {s:StD} {a:AskD} (hp:pageP s=true):rleafE s a=some (leafB s a,()):=by
 unfold rleafE leafB;cases a.1==4
 ·rw[xF,xF];cases a.1==5
  ·rw[xF,xF]
  ·rw[xT,xT];refine enE_n hp (Nat.le_trans page_len (by omega)) fun hg=> ?_
   have:=page_more hg;have:=most_pos a.2.2.2.2.2.2.2.2.1;omega
 ·rw[xT,xT];refine nmE_n hp ?_ fun hg=> ?_
  ·unfold namesL;rw[List.length_map];exact Nat.le_trans page_len (by omega)
  ·have:=page_more hg;have:=most_pos a.2.2.2.2.2.2.2.2.1;unfold namesL;rw[List.length_map];omega
def stN (s:StD):StD:=(s.1,(s.2.1.take 42).map lentN,s.2.2.1.take 103,s.2.2.2.1,())
def stP (s:StD):Bool:=s.2.1.all fun e=>decide (e.2.1.length≤140737488355328)
noncomputable def stS:PSpec:=⟨[StT],[StT],fun x=>stP x.1,fun x=>(stN x.1,())⟩
abbrev SO1:=Option (DenL [StT])
noncomputable def stEnd (q:Int) (m:List MemoD) (L:LowD) (o:List EntD):SO1:=gd [decide ((2*(0+(cutL m none (some (min (m.length:Int) 103))).length)+400)*24≤281474976710656),decide (0≤min (m.length:Int) 103),decide (min (m.length:Int) 103≤(m.length:Int))] (some ((q,o,[]++cutL m none (some (min (m.length:Int) 103)),L,()),()))
noncomputable def stStep (q:Int) (l:List EntD) (m:List MemoD) (L:LowD) (o:List EntD) (i:Int) (nx:List EntD→SO1):SO1:=
 bif decide (i<(l.length:Int)) then(bif decide (i<42) then gd (decide (inK .i64 (i+1))::decide ((2*(o.length+[lentN ((l.getD i.toNat (EntT).dflt).1,(l.getD i.toNat (EntT).dflt).2.1,())].length)+400)*40≤281474976710656)::decide ((l.getD i.toNat (EntT).dflt).2.1.length≤140737488355328)::gI l i) (nx (o++[lentN ((l.getD i.toNat (EntT).dflt).1,(l.getD i.toNat (EntT).dflt).2.1,())])) else stEnd q m L o) else stEnd q m L o
theorem stEnd_n {q:Int} {m:List MemoD} {L:LowD} {o:List EntD}:stEnd q m L o=some ((q,o,m.take 103,L,()),()):=by
 unfold stEnd;have hc:cutL m none (some (min (m.length:Int) 103))=m.take 103:=by
  show m.take (min (m.length:Int) 103).toNat=m.take 103;by_cases hl:m.length≤103
  ·rw[Int.min_eq_left (by omega),List.take_of_length_le (by omega),List.take_of_length_le hl]
  ·rw[Int.min_eq_right (by omega)];rfl
 have hl:(m.take 103).length≤103:=by rw[List.length_take];omega
 rw[hc,gdT (by omega),gdT (by omega),gdT (by omega),xG,List.nil_append]
theorem st_l {q:Int} {l:List EntD} {m:List MemoD} {L:LowD} {h:Nat→List EntD→Int→SO1} (he:∀N o i,h (N+1) o i=stStep q l m L o i (fun o'=>h N o' (i+1))) (hv:∀e,e∈l→e.2.1.length≤140737488355328):
  ∀(r i N:Nat) (o:List EntD),min l.length 42=i+r→r<N→o.length≤i→h N o (i:Int)=some ((q,o++((l.take 42).drop i).map lentN,m.take 103,L,()),()):=by
 intro r
 induction r with
 |zero=>
  intro i N o hi hN ho;obtain⟨N,rfl⟩:∃k,N=k+1:=⟨N-1,by omega⟩
  rw[he];unfold stStep;rw[List.drop_eq_nil_of_le (by rw[List.length_take];omega),List.map_nil,List.append_nil];by_cases h1:(i:Int)<(l.length:Int)
  ·rw[cdT h1,cdF (by omega),stEnd_n]
  ·rw[cdF h1,stEnd_n]
 |succ r ih=>
  intro i N o hi hN ho;obtain⟨N,rfl⟩:∃k,N=k+1:=⟨N-1,by omega⟩
  have hlt:i<l.length:=by omega
  have hlt2:i<(l.take 42).length:=by rw[List.length_take];omega
  have hd:(l.take 42).drop i=entAt l i::(l.take 42).drop (i+1):=by
   rw[List.drop_eq_getElem_cons hlt2];congr 1;unfold entAt;rw[List.getElem_take,List.getD_eq_getElem?_getD,List.getElem?_eq_getElem hlt];rfl
  have hm:entAt l i∈l:=by
   show l.getD i _∈l;rw[List.getD_eq_getElem?_getD,List.getElem?_eq_getElem hlt];exact List.getElem_mem hlt
  have:=ih (i+1) N (o++[lentN (entAt l i)]) (by omega) (by omega) (by rw[List.length_append,List.length_singleton];omega);simp only[Int.natCast_add,Int.natCast_one] at this;rw[he];unfold stStep;rw[cdT (by omega),cdT (by omega),gdT (inK_i64.2 ⟨by omega,by omega⟩),gdT (by simp only[List.length_singleton];omega),gdT (show(l.getD (i:Int).toNat (EntT).dflt).2.1.length≤140737488355328 from hv _ hm),gJ_ok0 hlt,hd,List.map_cons]
  refine this.trans ?_;rw[List.append_assoc,List.singleton_append]
end Nice
namespace Go.Proofs.YtldllfocpadkeaaGreatDoor
open Go Go.Eng Nice
set_option maxRecDepth 1000000
noncomputable def orhome (x:DenL [IT]):IO1:=fO Tryz.prog (envS []) (shOf []) Tryz.f51 [IT] [IT] x
theorem erhome (n:Int):orhome (n,())=rhE n:=by kernel_rfl
theorem rhome_c:PC 51 homeS:=(pureO (envS_ok (l:=[]) trivial) gl_ne Tryz.func51 (by kernel_rfl) (by decide)).nice fun⟨n,()⟩ _=>(erhome n).trans (rhE_n n)
abbrev shrb:List (Nat×List (Nat×Sh)):=[(4,[(1,(.obj [.sym,(.dat EntT),(.dat MemoT),.sym,.sym,.sym,.sym,.sym])),(2,(.one .sym)),(3,(.one .sym))]),(14,[(1,(.obj [.sym,(.dat EntT),(.dat MemoT),.sym,.sym,.sym,.sym,.sym])),(2,(.one .sym)),(5,(.one .sym))])]
noncomputable abbrev enRB:Eng.Env:=envS [(50,entS),(51,homeS)]
noncomputable def hrb0 (N:Nat) (q:Int) (l:List EntD) (m:List MemoD) (a b c d e:Int) (i:Int):BO:=rH Tryz.prog enRB (shOf shrb) Tryz.f15 [.bool] N 0 [(1,.pointer (some ⟨12,0,none⟩)),(2,.bool false),(3,sy (.int .i64 i))] [.dat EntT l,.dat MemoT m,rowBM q (a,b,c,d,e,())]
noncomputable def hrb2 (N:Nat) (q:Int) (l:List EntD) (m:List MemoD) (a b c d e:Int) (i:Int):BO:=rH Tryz.prog enRB (shOf shrb) Tryz.f15 [.bool] N 2 [(1,.pointer (some ⟨12,0,none⟩)),(2,.bool false),(5,sy (.int .i64 i))] [.dat EntT l,.dat MemoT m,rowBM q (a,b,c,d,e,())]
noncomputable def orb (x:DenL [StT]):BO:=fO Tryz.prog enRB (shOf shrb) Tryz.f15 [StT] [.bool] x
theorem orb_g (x:DenL [StT]):orb x=fON Tryz.prog enRB (shOf shrb) Tryz.f15 [StT] [.bool] heads0 x:=rfl
theorem erb_g (N:Nat) (q:Int) (l:List EntD) (m:List MemoD) (a b c d e:Int):fON Tryz.prog enRB (shOf shrb) Tryz.f15 [StT] [.bool] N ((q,l,m,(a,b,c,d,e,()),()),())=
 (bif decide (q<0) then bO false else bif decide (q>1099511627776) then bO false else bif decide ((l.length:Int)>40) then bO false else bif decide ((m.length:Int)>100) then bO false else hrb0 N q l m a b c d e 0):=by kernel_rfl
theorem erb_0 (N:Nat) (q:Int) (l:List EntD) (m:List MemoD) (a b c d e:Int) (i:Int):hrb0 (N+1) q l m a b c d e i=rbStep q l i (hrb0 N q l m a b c d e (i+1)) (lowsE (a,b,c,d,e,()) (hrb2 N q l m a b c d e 0)):=by kernel_rfl
theorem erb_2 (N:Nat) (q:Int) (l:List EntD) (m:List MemoD) (a b c d e:Int) (i:Int):hrb2 (N+1) q l m a b c d e i=rmStep q (a,b,c,d,e,()) m i (hrb2 N q l m a b c d e (i+1)):=by kernel_rfl
theorem rb2_l (q:Int) (l:List EntD) (m:List MemoD) (a b c d e:Int) (hm:m.length≤100):∀(r i N:Nat),m.length=i+r→r<N→hrb2 N q l m a b c d e (i:Int)=bO (allFr (bMem q (a,b,c,d,e,()) m) r i):=by
 intro r
 induction r with
 |zero=>
  intro i N hi hN;obtain⟨N,rfl⟩:∃k,N=k+1:=⟨N-1,by omega⟩
  rw[erb_2];unfold rmStep;rw[cdF (by omega)];rfl
 |succ r ih=>
  intro i N hi hN;obtain⟨N,rfl⟩:∃k,N=k+1:=⟨N-1,by omega⟩
  have this:=ih (i+1) N (by omega) (by omega);simp only[Int.natCast_add,Int.natCast_one] at this;rw[erb_2];unfold rmStep;rw[cdT (by omega),gJ_ok0 (by omega)];exact rmE_n hm (by omega) this
theorem rb0_l (q:Int) (l:List EntD) (m:List MemoD) (a b c d e:Int) (hl:l.length≤40) (hm:m.length≤100) (hp:∀x,x∈l→entP x=true):∀(r i N:Nat),l.length=i+r→r+101<N→hrb0 N q l m a b c d e (i:Int)=bO (allFr (bEnt q l) r i&&(bLows (a,b,c,d,e,())&&allFr (bMem q (a,b,c,d,e,()) m) m.length 0)):=by
 intro r
 induction r with
 |zero=>
  intro i N hi hN;obtain⟨N,rfl⟩:∃k,N=k+1:=⟨N-1,by omega⟩
  have this:=rb2_l q l m a b c d e hm m.length 0 N (by omega) (by omega);rw[erb_0];unfold rbStep;rw[cdF (by omega)];exact lowsE_n this
 |succ r ih=>
  intro i N hi hN;obtain⟨N,rfl⟩:∃k,N=k+1:=⟨N-1,by omega⟩
  have hlt:i<l.length:=by omega
  have this:=ih (i+1) N (by omega) (by omega);simp only[Int.natCast_add,Int.natCast_one] at this;have hpi:entP (entAt l i)=true:=hp _ (by
   show l.getD i _∈l;rw[List.getD_eq_getElem?_getD,List.getElem?_eq_getElem hlt];exact List.getElem_mem hlt)
  rw[erb_0];unfold rbStep;rw[cdT (by omega)];refine(rbE_n hl hlt hpi this).trans ?_;show bO (_&&(_&&_))=bO ((_&&_)&&_);rw[Bool.and_assoc]
theorem rb_n (q:Int) (l:List EntD) (m:List MemoD) (a b c d e:Int) (h:l.all entP=true):orb ((q,l,m,(a,b,c,d,e,()),()),())=bO (bmayN (q,l,m,(a,b,c,d,e,()),())):=by
 have hp:=List.all_eq_true.1 h;show orb _=bO (decide (0≤q)&&(decide (q≤1099511627776)&&(decide (l.length≤40)&&(decide (m.length≤100)&&(allFr (bEnt q l) l.length 0&&(bLows (a,b,c,d,e,())&&allFr (bMem q (a,b,c,d,e,()) m) m.length 0))))));rw[orb_g,erb_g];by_cases h1:q<0
 ·rw[cdT h1,decide_eq_false (show ¬0≤q by omega)];rfl
 rw[cdF h1,decide_eq_true (show 0≤q by omega)];by_cases h2:q>1099511627776
 ·rw[cdT h2,decide_eq_false (show ¬q≤1099511627776 by omega)];rfl
 rw[cdF h2,decide_eq_true (show q≤1099511627776 by omega)];by_cases h3:(l.length:Int)>40
 ·rw[cdT h3,decide_eq_false (show ¬l.length≤40 by omega)];rfl
 rw[cdF h3,decide_eq_true (show l.length≤40 by omega)];by_cases h4:(m.length:Int)>100
 ·rw[cdT h4,decide_eq_false (show ¬m.length≤100 by omega)];rfl
 rw[cdF h4,decide_eq_true (show m.length≤100 by omega)];exact rb0_l q l m a b c d e (by omega) (by omega) hp l.length 0 heads0 (by omega) (by unfold heads0;omega)
theorem rbmay_c:PC 15 bmayS:=(pureO (sh:=shOf shrb) (envS_ok (l:=[(50,entS),(51,homeS)]) ⟨rme_c,rhome_c,trivial⟩) gl_ne Tryz.func15 (by kernel_rfl) (by decide)).nice fun⟨⟨q,l,m,⟨a,b,c,d,e,()⟩,()⟩,()⟩ h=>rb_n q l m a b c d e h
noncomputable def ornow (x:DenL [EntT]):Option (DenL [VerT,.bool]):=fO Tryz.prog (envS []) (shOf []) Tryz.f43 [EntT] [VerT,.bool] x
theorem ernow (k:List UInt8) (l:List VerD):ornow ((k,l,()),())=nowE k l:=by kernel_rfl
theorem rnow_c:PC 43 nowS:=(pureO (envS_ok (l:=[]) trivial) gl_ne Tryz.func43 (by kernel_rfl) (by decide)).nice fun⟨⟨k,l,()⟩,()⟩ h=>by
 show ornow _=_;rw[ernow];exact nowE_n (of_decide_eq_true h)
abbrev shsm:List (Nat×List (Nat×Sh)):=[(4,[(1,(.one .sym)),(2,(.one .sym)),(3,(.one .sym)),(4,(.one .sym)),(5,(.obj [.sym,(.dat EntT),(.dat MemoT),.sym,.sym,.sym,.sym,.sym])),(10,(.one .any)),(11,(.one .sym)),(12,(.one (.vec EntT 44))),(13,(.one .sym))])]
noncomputable abbrev enSM:Eng.Env:=envS [(43,nowS)]
noncomputable def hsm (b0:Bool) (N:Nat) (p f:List UInt8) (k:Int) (q:Int) (l:List EntD) (m:List MemoD) (a b c d e:Int) (o:List EntD) (i:Int):PO:=rH Tryz.prog enSM (shOf shsm) Tryz.f98 [.slice EntT,.bool] N 0 [(1,sy (.string (bs p))),(2,sy (.string (bs f))),(3,sy (.int .i64 k)),(4,.bool b0),(5,.pointer (some ⟨12,0,none⟩)),(10,Value.slice none 0 0),(11,.bool false),(12,dt 13),(13,sy (.int .i64 i))] [.dat EntT l,.dat MemoT m,rowBM q (a,b,c,d,e,()),.vec EntT o 44]
noncomputable def osm (x:DenL [StT,.str,.str,IT,.bool]):PO:=fO Tryz.prog enSM (shOf shsm) Tryz.f98 [StT,.str,.str,IT,.bool] [.slice EntT,.bool] x
theorem osm_g (x:DenL [StT,.str,.str,IT,.bool]):osm x=fON Tryz.prog enSM (shOf shsm) Tryz.f98 [StT,.str,.str,IT,.bool] [.slice EntT,.bool] heads0 x:=rfl
theorem esmT_g (N:Nat) (q:Int) (l:List EntD) (m:List MemoD) (a b c d e:Int) (p f:List UInt8) (k:Int):fON Tryz.prog enSM (shOf shsm) Tryz.f98 [StT,.str,.str,IT,.bool] [.slice EntT,.bool] N ((q,l,m,(a,b,c,d,e,()),()),p,f,k,true,())=hsm true N p f (max 1 (min k 20)) q l m a b c d e [] 0:=by kernel_rfl
theorem esmF_g (N:Nat) (q:Int) (l:List EntD) (m:List MemoD) (a b c d e:Int) (p f:List UInt8) (k:Int):fON Tryz.prog enSM (shOf shsm) Tryz.f98 [StT,.str,.str,IT,.bool] [.slice EntT,.bool] N ((q,l,m,(a,b,c,d,e,()),()),p,f,k,false,())=hsm false N p f (max 1 (min k 20)) q l m a b c d e [] 0:=by kernel_rfl
theorem esmT_0 (N:Nat) (p f:List UInt8) (k:Int) (q:Int) (l:List EntD) (m:List MemoD) (a b c d e:Int) (o:List EntD) (i:Int):hsm true (N+1) p f k q l m a b c d e o i=smStep true p f k l o i (fun o'=>hsm true N p f k q l m a b c d e o' (i+1)):=by kernel_rfl
theorem esmF_0 (N:Nat) (p f:List UInt8) (k:Int) (q:Int) (l:List EntD) (m:List MemoD) (a b c d e:Int) (o:List EntD) (i:Int):hsm false (N+1) p f k q l m a b c d e o i=smStep false p f k l o i (fun o'=>hsm false N p f k q l m a b c d e o' (i+1)):=by kernel_rfl
theorem sm_n (b0:Bool) {s:StD} (h:pageP s=true) (p f:List UInt8) (k:Int):osm (s,p,f,k,b0,())=some (pageL s p f k b0,pageM s p f k b0,()):=by
 obtain⟨q,l,m,⟨a,b,c,d,e,⟨⟩⟩,⟨⟩⟩:=s;obtain⟨h1,h2⟩:=pageP_h h;have h0:=most_nn k;cases b0
 ·rw[osm_g,esmF_g,most_eq];exact sm_l (b:=false) (p:=p) (f:=f) (k:=mostN k) (l:=l) (h:=fun N o i=>hsm false N p f (mostN k) q l m a b c d e o i) (fun N o i=>esmF_0 N p f (mostN k) q l m a b c d e o i) h0 h1 h2 l.length 0 heads0 [] (by omega) (Nat.lt_of_le_of_lt h1 (by unfold heads0;omega)) (Nat.le_refl _) (by simpa using h0)
 ·rw[osm_g,esmT_g,most_eq];exact sm_l (b:=true) (p:=p) (f:=f) (k:=mostN k) (l:=l) (h:=fun N o i=>hsm true N p f (mostN k) q l m a b c d e o i) (fun N o i=>esmT_0 N p f (mostN k) q l m a b c d e o i) h0 h1 h2 l.length 0 heads0 [] (by omega) (Nat.lt_of_le_of_lt h1 (by unfold heads0;omega)) (Nat.le_refl _) (by simpa using h0)
theorem some_c (b0:Bool):PC 98 (someS b0):=(pureO (sh:=shOf shsm) (envS_ok (l:=[(43,nowS)]) ⟨rnow_c,trivial⟩) gl_ne Tryz.func98 (by kernel_rfl) (by decide)).nice fun⟨s,p,f,k,b,()⟩ h=>sm_n b (by
 have h:(pageP s&&b==b0)=true:=h;rw[Bool.and_eq_true] at h;exact h.1) p f k
end Go.Proofs.YtldllfocpadkeaaGreatDoor
set_option maxRecDepth 1000000
namespace Nice
open Go Go.Eng
def verZ:VerD:=(0,false,[],())
abbrev vAt (l:List VerD) (i:Int):VerD:=l.getD i.toNat (VerT).dflt
abbrev eAt (l:List EntD) (i:Int):EntD:=l.getD i.toNat (EntT).dflt
def atNV (e:EntD) (n:Int):VerD×Bool:=bif decide (idxV e.2.1 n<0) then(verZ,false) else(vAt e.2.1 (idxV e.2.1 n),true)
def entOK (e:EntD):Bool:=decide (e.2.1.length≤1000000)
def stOKG (s:StD):Bool:=decide (s.2.1.length≤1000000)&&s.2.1.all entOK
def getE (v:VerD) (is:Bool):VerD×Int:=bif is then(bif v.2.1 then(verZ,10) else(v,0)) else(verZ,6)
def getKN (e:EntD) (n:Int):VerD×Int:=bif n==0 then getE (nowN e).1 (decide ((e.2.1.length:Int)>0)) else getE (atNV e n).1 (atNV e n).2
def getGN (s:StD) (key:List UInt8) (n:Int):VerD×Int:=bif decide (idxK s.2.1 key<0) then(verZ,6) else getKN (eAt s.2.1 (idxK s.2.1 key)) n
noncomputable def placeS:PSpec:=⟨[EntT,IT],[IT],fun x=>entOK x.1,fun x=>(idxV x.1.2.1 x.2.1,())⟩
noncomputable def tatS:PSpec:=⟨[EntT,IT],[VerT,.bool],fun x=>entOK x.1,fun x=>((atNV x.1 x.2.1).1,(atNV x.1 x.2.1).2,())⟩
noncomputable def bgetS:PSpec:=⟨[StT,.str,IT],[VerT,IT],fun x=>stOKG x.1,fun x=>((getGN x.1 x.2.1 x.2.2.1).1,(getGN x.1 x.2.1 x.2.2.1).2,())⟩
abbrev VO:=Option (DenL [VerT,IT])
noncomputable def gtO (v:VerD):VO:=bif v.2.1 then some (verZ,10,()) else some (v,0,())
noncomputable abbrev gX {α:Type} (l:List α) (i:Int):List Bool:=[decide (i.toNat<l.length),decide (0≤i),decide (i<(l.length:Int))]
noncomputable def gtL (l:List EntD) (i:Int) (e:EntD):VO:=gd (decide (e.2.1.length≤140737488355328)::gX l i) (bif decide ((e.2.1.length:Int)>0) then gd (gX l i) (gtO (nowN e).1) else gd (gX l i) (some (verZ,6,())))
noncomputable def gtA (l:List EntD) (i:Int) (e:EntD) (n:Int) (x:VerD×Bool):VO:=
 bif x.2 then gd (entOK (e.1,e.2.1,())::gX l i) (bif n==0 then(bif (nowN e).2 then gtL l i e else gtL l i e) else gtO x.1) else gd (entOK (e.1,e.2.1,())::gX l i) (bif n==0 then(bif (nowN e).2 then gtL l i e else gtL l i e) else some (verZ,6,()))
noncomputable def gtT (l:List EntD) (key:List UInt8) (n:Int):VO:=gd [decide (l.length≤1000000)] (bif decide (idxK l key<0) then some (verZ,6,()) else gtA l (idxK l key) (eAt l (idxK l key)) n (atNV (eAt l (idxK l key)) n))
theorem idxF1_le {α:Type} (p:α→Bool):∀(l:List α) (i:Nat),(idxF1 p l i= -1∧∀x,x∈l→p x=false)∨∃k:Nat,idxF1 p l i=((i+k:Nat):Int)∧k<l.length
 |[],i=>.inl ⟨rfl,fun x h=>by cases h⟩
 |y::r,i=>by
  unfold idxF1;cases h:p y
  ·rw[if_neg (by decide)];rcases idxF1_le p r (i+1) with⟨h1,h2⟩|⟨k,h1,h2⟩
   ·refine .inl ⟨h1,fun x hx=> ?_⟩;rcases List.mem_cons.1 hx with rfl|hx
    ·exact h
    ·exact h2 x hx
   ·exact .inr ⟨k+1,by rw[h1,show i+1+k=i+(k+1) by omega],by rw[List.length_cons];omega⟩
  ·rw[if_pos rfl];exact .inr ⟨0,by rw[Nat.add_zero],by rw[List.length_cons];omega⟩
theorem gX_ok {α β:Type} {l:List α} {i:Nat} (h:i<l.length) (ps:List Bool) (y:Option β):gd (ps++gX l (i:Int)) y=gd ps y:=by
 induction ps generalizing y with
 |nil=>
  show gd [decide ((i:Int).toNat<l.length),decide (0≤(i:Int)),decide ((i:Int)<(l.length:Int))] y=gd [] y;rw[gdT (by omega),gdT (by omega),gdT (by omega)]
 |cons q qs ih=>
  rw[List.cons_append];exact ih (bif q then y else none)
theorem gX_ok0 {α β:Type} {l:List α} {i:Nat} (h:i<l.length) (y:Option β):gd (gX l (i:Int)) y=y:=(gX_ok h [] y).trans (xG y)
theorem gX_ok1 {α β:Type} {l:List α} {i:Nat} (h:i<l.length) {b:Bool} (hb:b=true) (y:Option β):gd (b::gX l (i:Int)) y=y:=(gX_ok h [b] y).trans ((gdB hb).trans (xG y))
end Nice
namespace Go.Proofs.YtldllfocpadkeaaGreatDoor
open Go Go.Eng Nice
noncomputable def oplace (x:DenL [EntT,IT]):Option (DenL [IT]):=fO Tryz.prog (envS [(203,idxVS)]) (shOf []) Tryz.f146 [EntT,IT] [IT] x
theorem eplace (key:List UInt8) (vs:List VerD) (n:Int):oplace ((key,vs,()),n,())=gd [decide (vs.length≤1000000)] (some (idxV vs n,())):=by kernel_rfl
theorem place_c:PC 146 placeS:=(pureO (envS_ok (l:=[(203,idxVS)]) ⟨idxV_c,trivial⟩) gl_ne Tryz.func146 (by kernel_rfl) (by decide)).nice fun⟨⟨key,vs,()⟩,n,()⟩ h=>by
 refine(eplace key vs n).trans ?_;have h:vs.length≤1000000:=of_decide_eq_true h;rw[gdT h,xG]
noncomputable def otat (x:DenL [EntT,IT]):Option (DenL [VerT,.bool]):=fO Tryz.prog (envS [(146,placeS)]) (shOf []) Tryz.f102 [EntT,IT] [VerT,.bool] x
theorem etat (key:List UInt8) (vs:List VerD) (n:Int):otat ((key,vs,()),n,())=gd [entOK (key,vs,())] (bif decide (idxV vs n<0) then some (verZ,false,()) else gd (gX vs (idxV vs n)) (some (vAt vs (idxV vs n),true,()))):=by kernel_rfl
theorem tat_c:PC 102 tatS:=(pureO (envS_ok (l:=[(146,placeS)]) ⟨place_c,trivial⟩) gl_ne Tryz.func102 (by kernel_rfl) (by decide)).nice fun⟨⟨key,vs,()⟩,n,()⟩ h=>by
 refine(etat key vs n).trans ?_;have h:entOK (key,vs,())=true:=h;show _=some ((atNV (key,vs,()) n).1,(atNV (key,vs,()) n).2,());unfold atNV;rw[gdB h,xG];rcases idxF1_le (fun y:VerD=>y.1==n) vs 0 with⟨e, -⟩|⟨k,e,hk⟩
 ·have e:idxV vs n= -1:=e;rw[show((key,vs,()):EntD).2.1=vs from rfl,e];rfl
 ·have e:idxV vs n=((0+k:Nat):Int):=e;rw[Nat.zero_add] at e;rw[show((key,vs,()):EntD).2.1=vs from rfl,e,cdF (by omega),cdF (by omega),gX_ok0 hk]
noncomputable def obget (x:DenL [StT,.str,IT]):VO:=fO Tryz.prog (envS [(100,idxKS),(102,tatS),(96,nowS)]) (shOf []) Tryz.f59 [StT,.str,IT] [VerT,IT] x
theorem ebget (q:Int) (l:List EntD) (m:List MemoD) (a b c d e:Int) (key:List UInt8) (n:Int):obget ((q,l,m,(a,b,c,d,e,()),()),key,n,())=gtT l key n:=by kernel_rfl
theorem gtE {v:VerD} {is:Bool}:(bif is then gtO v else some (verZ,6,()):VO)=some ((getE v is).1,(getE v is).2,()):=by
 unfold gtO getE;cases is
 ·rfl
 ·cases v.2.1<;>rfl
theorem gtL_n {l:List EntD} {i:Nat} {e:EntD} (hi:i<l.length) (he:e.2.1.length≤1000000):gtL l (i:Int) e=some ((getE (nowN e).1 (decide ((e.2.1.length:Int)>0))).1,(getE (nowN e).1 (decide ((e.2.1.length:Int)>0))).2,()):=by
 unfold gtL;rw[gX_ok1 hi (decide_eq_true (by omega)),gX_ok0 hi,gX_ok0 hi];exact gtE
theorem gtA_n {l:List EntD} {i:Nat} {e:EntD} {n:Int} (hi:i<l.length) (he:e.2.1.length≤1000000):gtA l (i:Int) e n (atNV e n)=some ((getKN e n).1,(getKN e n).2,()):=by
 have ho:entOK (e.1,e.2.1,())=true:=decide_eq_true he;unfold gtA getKN;rw[gX_ok1 hi ho,gX_ok1 hi ho,gtL_n hi he];cases n==0
 ·rw[xF,xF,xF];exact gtE
 ·rw[xT,xT,xT];cases(nowN e).2<;>cases(atNV e n).2<;>rfl
theorem bget_n {s:StD} {key:List UInt8} {n:Int} (h:stOKG s=true):gtT s.2.1 key n=some ((getGN s key n).1,(getGN s key n).2,()):=by
 unfold stOKG at h;rw[Bool.and_eq_true,decide_eq_true_eq] at h;unfold gtT getGN;rw[gdT h.1,xG];rcases idxF1_le (fun y:EntD=>y.1==key) s.2.1 0 with⟨e, -⟩|⟨k,e,hk⟩
 ·have e:idxK s.2.1 key= -1:=e;rw[e];rfl
 ·have e:idxK s.2.1 key=((0+k:Nat):Int):=e;rw[Nat.zero_add] at e;have hm:eAt s.2.1 (k:Int)∈s.2.1:=by
   show s.2.1.getD k _∈s.2.1;rw[List.getD_eq_getElem?_getD,List.getElem?_eq_getElem hk];exact List.getElem_mem hk
  rw[e,cdF (by omega),cdF (by omega)];exact gtA_n hk (of_decide_eq_true (List.all_eq_true.1 h.2 _ hm))
theorem bget_c:PC 59 bgetS:=(pureO (envS_ok (l:=[(100,idxKS),(102,tatS),(96,nowS)]) ⟨idxK_c,tat_c,now_c,trivial⟩) gl_ne Tryz.func59 (by kernel_rfl) (by decide)).nice fun⟨⟨q,l,m,⟨a,b,c,d,e,()⟩,()⟩,key,n,()⟩ h=>
 (ebget q l m a b c d e key n).trans (bget_n (s:=(q,l,m,(a,b,c,d,e,()),())) h)
end Go.Proofs.YtldllfocpadkeaaGreatDoor
namespace Go.Proofs.YtldllfocpadkeaaGreatDoor
open Go Go.Eng Nice
set_option maxRecDepth 1000000
abbrev shrnm:List (Nat×List (Nat×Sh)):=[(4,[(8,(.one .any)),(9,(.one .sym)),(10,(.one (.dat EntT))),(11,(.one .sym)),(12,(.one (.vec .str 9))),(13,(.one .sym))])]
noncomputable abbrev enRN:Eng.Env:=envS [(98,someS true)]
noncomputable def hrnm (N:Nat) (g:Bool) (o:List (List UInt8)) (l:List EntD) (i:Int):KO:=rH Tryz.prog enRN (shOf shrnm) Tryz.f55 [.slice .str,.bool] N 0 [(8,Value.slice none 0 0),(9,.bool false),(10,dt 10),(11,.bool g),(12,dt 11),(13,sy (.int .i64 i))] [.dat EntT l,.vec .str o 9]
noncomputable def ornm (x:DenL [StT,.str,.str,IT]):KO:=fO Tryz.prog enRN (shOf shrnm) Tryz.f55 [StT,.str,.str,IT] [.slice .str,.bool] x
theorem ornm_g (x:DenL [StT,.str,.str,IT]):ornm x=fON Tryz.prog enRN (shOf shrnm) Tryz.f55 [StT,.str,.str,IT] [.slice .str,.bool] heads0 x:=rfl
noncomputable def rnmB (N:Nat) (s:StD) (p f:List UInt8) (k:Int):KO:=bif pageM s p f k true then gd [pageP s&&true==true] (hrnm N true [] (pageL s p f k true) 0) else gd [pageP s&&true==true] (hrnm N false [] (pageL s p f k true) 0)
theorem ernm_g (N:Nat) (q:Int) (l:List EntD) (m:List MemoD) (a b c d e:Int) (p f:List UInt8) (k:Int):fON Tryz.prog enRN (shOf shrnm) Tryz.f55 [StT,.str,.str,IT] [.slice .str,.bool] N ((q,l,m,(a,b,c,d,e,()),()),p,f,k,())=rnmB N (q,l,m,(a,b,c,d,e,()),()) p f k:=by kernel_rfl
theorem ernmT_0 (N:Nat) (o:List (List UInt8)) (l:List EntD) (i:Int):hrnm (N+1) true o l i=nmStep true l o (l.length:Int) i (fun o'=>hrnm N true o' l (i+1)):=by kernel_rfl
theorem ernmF_0 (N:Nat) (o:List (List UInt8)) (l:List EntD) (i:Int):hrnm (N+1) false o l i=nmStep false l o (l.length:Int) i (fun o'=>hrnm N false o' l (i+1)):=by kernel_rfl
theorem rnm_n {s:StD} (h:pageP s=true) (p f:List UInt8) (k:Int):ornm (s,p,f,k,())=some (namesL s p f k true,pageM s p f k true,()):=by
 obtain⟨q,l,m,⟨a,b,c,d,e,⟨⟩⟩,⟨⟩⟩:=s;rw[ornm_g,ernm_g];unfold rnmB;have hl:=page_len (s:=(q,l,m,(a,b,c,d,e,()),())) (p:=p) (f:=f) (k:=k) (b:=true);have hh:(pageL (q,l,m,(a,b,c,d,e,()),()) p f k true).length<heads0:=Nat.lt_of_le_of_lt hl (by unfold heads0;omega);have hp:(pageP (q,l,m,(a,b,c,d,e,()),())&&true==true)=true:=by rw[h];rfl
 cases pageM (q,l,m,(a,b,c,d,e,()),()) p f k true
 ·rw[xF,gdB hp,xG];exact nm_l (h:=fun N o i=>hrnm N false o (pageL (q,l,m,(a,b,c,d,e,()),()) p f k true) i) (fun N o i=>ernmF_0 N o _ i) (by omega) _ 0 heads0 [] (Nat.zero_add _).symm hh (Nat.le_refl _)
 ·rw[xT,gdB hp,xG];exact nm_l (h:=fun N o i=>hrnm N true o (pageL (q,l,m,(a,b,c,d,e,()),()) p f k true) i) (fun N o i=>ernmT_0 N o _ i) (by omega) _ 0 heads0 [] (Nat.zero_add _).symm hh (Nat.le_refl _)
theorem rnames_c:PC 55 namesS:=(pureO (sh:=shOf shrnm) (envS_ok (l:=[(98,someS true)]) ⟨some_c true,trivial⟩) gl_ne Tryz.func55 (by kernel_rfl) (by decide)).nice fun⟨s,p,f,k,()⟩ h=>rnm_n h p f k
noncomputable def orvs (x:DenL [StT,.str,.str,IT]):PO:=fO Tryz.prog (envS [(98,someS false)]) (shOf []) Tryz.f56 [StT,.str,.str,IT] [.slice EntT,.bool] x
noncomputable def rvsB (s:StD) (p f:List UInt8) (k:Int):PO:=bif pageM s p f k false then gd [pageP s&&false==false] (some (pageL s p f k false,true,())) else gd [pageP s&&false==false] (some (pageL s p f k false,false,()))
theorem ervs (q:Int) (l:List EntD) (m:List MemoD) (a b c d e:Int) (p f:List UInt8) (k:Int):orvs ((q,l,m,(a,b,c,d,e,()),()),p,f,k,())=rvsB (q,l,m,(a,b,c,d,e,()),()) p f k:=by kernel_rfl
theorem rvers_c:PC 56 versS:=(pureO (envS_ok (l:=[(98,someS false)]) ⟨some_c false,trivial⟩) gl_ne Tryz.func56 (by kernel_rfl) (by decide)).nice fun⟨⟨q,l,m,⟨a,b,c,d,e,()⟩,()⟩,p,f,k,()⟩ h=>by
 have h:pageP (q,l,m,(a,b,c,d,e,()),())=true:=h;have hp:(pageP (q,l,m,(a,b,c,d,e,()),())&&false==false)=true:=by rw[h];rfl
 show orvs _=some (pageL (q,l,m,(a,b,c,d,e,()),()) p f k false,pageM (q,l,m,(a,b,c,d,e,()),()) p f k false,());rw[ervs];unfold rvsB;cases pageM (q,l,m,(a,b,c,d,e,()),()) p f k false
 ·rw[xF,gdB hp,xG]
 ·rw[xT,gdB hp,xG]
noncomputable def orleaf (x:DenL [StT,AskT]):HO1:=fO Tryz.prog (envS [(55,namesS),(56,versS)]) (shOf []) Tryz.f19 [StT,AskT] [ShT] x
theorem erleaf (q:Int) (l:List EntD) (m:List MemoD) (a b c d e:Int) (kd:Int) (key:List UInt8) (v:Int) (bo:List UInt8) (co:Int) (t p f:List UInt8) (mx:Int) (ba:Bool):orleaf ((q,l,m,(a,b,c,d,e,()),()),(kd,key,v,bo,co,t,p,f,mx,ba,()),())=rleafE (q,l,m,(a,b,c,d,e,()),()) (kd,key,v,bo,co,t,p,f,mx,ba,()):=by kernel_rfl
theorem rleaf_c:PC 19 rleafS:=(pureO (envS_ok (l:=[(55,namesS),(56,versS)]) ⟨rnames_c,rvers_c,trivial⟩) gl_ne Tryz.func19 (by kernel_rfl) (by decide)).nice fun⟨⟨q,l,m,⟨a,b,c,d,e,()⟩,()⟩,⟨kd,key,v,bo,co,t,p,f,mx,ba,()⟩,()⟩ h=>(erleaf q l m a b c d e kd key v bo co t p f mx ba).trans (rleafE_n h)
abbrev shst:List (Nat×List (Nat×Sh)):=[(3,[(1,(.obj [.sym,(.dat EntT),(.dat MemoT),.sym,.sym,.sym,.sym,.sym])),(2,(.obj [.sym,.any,.any,.sym,.sym,.sym,.sym,.sym])),(3,(.one (.vec EntT 44))),(4,(.one .sym))])]
noncomputable def hst (N:Nat) (q:Int) (l:List EntD) (m:List MemoD) (a b c d e:Int) (o:List EntD) (i:Int):SO1:=rH Tryz.prog (envS [(49,lentS)]) (shOf shst) Tryz.f13 [StT] N 0 [(1,.pointer (some ⟨12,0,none⟩)),(2,.pointer (some ⟨13,0,none⟩)),(3,dt 14),(4,sy (.int .i64 i))] [.dat EntT l,.dat MemoT m,rowBM q (a,b,c,d,e,()),.row [sy (.int .i64 0),Value.slice none 0 0,Value.slice none 0 0,sy (.int .i64 0),sy (.int .i64 0),sy (.int .i64 0),sy (.int .i64 0),sy (.int .i64 0)] 26 false,.vec EntT o 44]
noncomputable def ost (x:DenL [StT]):SO1:=fO Tryz.prog (envS [(49,lentS)]) (shOf shst) Tryz.f13 [StT] [StT] x
theorem ost_g (x:DenL [StT]):ost x=fON Tryz.prog (envS [(49,lentS)]) (shOf shst) Tryz.f13 [StT] [StT] heads0 x:=rfl
theorem est_g (N:Nat) (q:Int) (l:List EntD) (m:List MemoD) (a b c d e:Int):fON Tryz.prog (envS [(49,lentS)]) (shOf shst) Tryz.f13 [StT] [StT] N ((q,l,m,(a,b,c,d,e,()),()),())=hst N q l m a b c d e [] 0:=by kernel_rfl
theorem est_0 (N:Nat) (q:Int) (l:List EntD) (m:List MemoD) (a b c d e:Int) (o:List EntD) (i:Int):hst (N+1) q l m a b c d e o i=stStep q l m (a,b,c,d,e,()) o i (fun o'=>hst N q l m a b c d e o' (i+1)):=by kernel_rfl
theorem st_n {q:Int} {l:List EntD} {m:List MemoD} {a b c d e:Int} (hv:∀x,x∈l→x.2.1.length≤140737488355328):ost ((q,l,m,(a,b,c,d,e,()),()),())=some (stN (q,l,m,(a,b,c,d,e,()),()),()):=by
 rw[ost_g,est_g];exact st_l (h:=fun N o i=>hst N q l m a b c d e o i) (fun N o i=>est_0 N q l m a b c d e o i) hv (min l.length 42) 0 heads0 [] (by omega) (Nat.lt_of_le_of_lt (Nat.min_le_right _ 42) (by unfold heads0;omega)) (Nat.le_refl _)
theorem st_c:PC 13 stS:=(pureO (sh:=shOf shst) (envS_ok (l:=[(49,lentS)]) ⟨lent_c,trivial⟩) gl_ne Tryz.func13 (by kernel_rfl) (by decide)).nice fun⟨⟨q,l,m,⟨a,b,c,d,e,()⟩,()⟩,()⟩ h=>st_n fun x hx=>of_decide_eq_true (List.all_eq_true.1 (show(l.all fun e=>decide (e.2.1.length≤140737488355328))=true from h) x hx)
end Go.Proofs.YtldllfocpadkeaaGreatDoor
namespace Nice
open Go Go.Eng
theorem lentN_bd (e:EntD):(lentN e).1.length≤42∧(lentN e).2.1.length≤14:=by
 unfold lentN;refine⟨lcut0 e.1 42,?_⟩;show((e.2.1.take 14).map cutV).length≤14;rw[List.length_map,List.length_take];omega
theorem stN_ent {s:StD} {e:EntD} (h:e∈(stN s).2.1):e.1.length≤42∧e.2.1.length≤14:=by
 have h:e∈(s.2.1.take 42).map lentN:=h;obtain⟨x, -,rfl⟩:=List.mem_map.1 h;exact lentN_bd x
theorem stN_bmayP (s:StD):bmayP (stN s)=true:=List.all_eq_true.2 fun e he=>by
 obtain⟨h1,h2⟩:=stN_ent he;unfold entP bndS;rw[Bool.and_eq_true,decide_eq_true_eq,decide_eq_true_eq];omega
theorem leafB_ent {s:StD} {a:AskD}:(∀e,e∈(leafB (stN s) a).2.1→e.2.1.length≤14)∧(leafB (stN s) a).1.length≤20∧(leafB (stN s) a).2.1.length≤20:=by
 unfold leafB;cases a.1==4
 ·cases a.1==5
  ·exact⟨(fun x h=>by cases h),(by show 0≤20;omega),(by show 0≤20;omega)⟩
  ·exact⟨(fun e h=>(stN_ent (List.mem_filter.1 (List.mem_of_mem_take h)).1).2),(by show 0≤20;omega),page_len⟩
 ·refine⟨(fun x h=>by cases h),?_,(by show 0≤20;omega)⟩;show((pageL (stN s) a.2.2.2.2.2.2.1 a.2.2.2.2.2.2.2.1 a.2.2.2.2.2.2.2.2.1 true).map (·.1)).length≤20;rw[List.length_map];exact page_len
end Nice
namespace Go.Proofs.YtldllfocpadkeaaGreatDoor
open Go Go.Eng Nice
set_option maxRecDepth 1000000
theorem st_bd {s:StD} (h:∀x,x∈s.2.1→Bd EntT x):stP s=true:=List.all_eq_true.2 fun e he=>by
 have:=h e he;have h2:e.2.1.length≤reach:=this.2.1.1;exact decide_eq_true h2
end Go.Proofs.YtldllfocpadkeaaGreatDoor
namespace Nice
open Go Go.Eng
theorem less_trans:∀{a b c:List UInt8},Op.bytesLess a b=true→Op.bytesLess b c=true→Op.bytesLess a c=true
 |_,_,[],_,h=>by rename_i b _;cases b<;>simp[Op.bytesLess] at h
 |_,[],_::_,h,_=>by rename_i a;cases a<;>simp[Op.bytesLess] at h
 |[],_::_,_::_,_,_=>by simp[Op.bytesLess]
 |x::a,y::b,z::c,h1,h2=>by
  simp only[Op.bytesLess] at h1 h2⊢;simp only[Bool.or_eq_true,Bool.and_eq_true,decide_eq_true_eq,beq_iff_eq] at h1 h2⊢;rcases h1 with h1|⟨rfl,h1⟩
  ·rcases h2 with h2|⟨rfl,h2⟩
   ·exact .inl (UInt8.lt_trans h1 h2)
   ·exact .inl h1
  ·rcases h2 with h2|⟨rfl,h2⟩
   ·exact .inl h2
   ·exact .inr ⟨rfl,less_trans h1 h2⟩
abbrev SrtK (l:List EntD):Prop:=l.Pairwise fun a b=>Op.bytesLess a.1 b.1=true
theorem bmay_ent {s:StD} (h:bmayN s=true):s.2.1.length≤40∧∀i,i<s.2.1.length→bEnt s.1 s.2.1 i=true:=by
 unfold bmayN at h;simp only[Bool.and_eq_true,decide_eq_true_eq] at h;exact⟨h.2.2.1,fun i hi=>allFr_iff.1 h.2.2.2.2.1 i (Nat.zero_le _) (by omega)⟩
theorem entAt_eq {l:List EntD} {i:Nat} (h:i<l.length):entAt l i=l[i]:=by
 unfold entAt;rw[List.getD_eq_getElem?_getD,List.getElem?_eq_getElem h];rfl
theorem bmay_srt {s:StD} (h:bmayN s=true):SrtK s.2.1:=by
 have hb:=(bmay_ent h).2;have step:∀i (hi:i+1<s.2.1.length),Op.bytesLess (s.2.1[i]).1 (s.2.1[i+1]).1=true:=fun i hi=>by
  have:=hb (i+1) hi;unfold bEnt at this;simp only[Bool.and_eq_true,Bool.or_eq_true] at this;have:=this.2.2;rw[show i+1-1=i from rfl,entAt_eq hi,entAt_eq (by omega)] at this;rcases this with h|h
  ·cases h
  ·exact h
 have all:∀d i (hi:i+d+1<s.2.1.length),Op.bytesLess (s.2.1[i]).1 (s.2.1[i+d+1]).1=true:=by
  intro d
  induction d with
  |zero=>intro i hi;exact step i hi
  |succ d ih=>intro i hi;exact less_trans (ih i (by omega)) (step (i+d+1) hi)
 exact List.pairwise_iff_getElem.2 fun i j hi hj hij=>by
  have:=all (j-i-1) i (by omega);have e:i+(j-i-1)+1=j:=by omega
  simp only[e] at this;exact this
end Nice
