/-
  Part of the proof: LawLW. No condition.
-/
import Derived.Test.YtldllfocpadkeaaGreatDoorG8
namespace Nice
open Go Go.Eng
def fuelW:List ShD→Nat
 |[]=>0
 |P::r=>P.2.1.length+2+fuelW r
theorem fuelW_le:∀(l:List ShD),fuelW l≤(keysW l).length+2*l.length
 |[]=>Nat.le_refl _
 |P::r=>by
  have:=fuelW_le r;show P.2.1.length+2+fuelW r≤(keysQ P++keysW r).length+2*(r.length+1);unfold keysQ;rw[List.length_append,List.length_append,List.length_map];omega
theorem lw1_l {l:List EntD} {i:Int} {h1:Nat→List (List UInt8)→Int→BO} {h0:Nat→List (List UInt8)→Int→BO} (he:∀N o j,h1 (N+1) o j=lw1 o l i (l.length:Int) j (fun o' j'=>h1 N o' j') (fun i'=>h0 N o i')) (hl:l.length≤1000) (hi:inK .i64 (i+1)):
  ∀(r j M:Nat) (o:List (List UInt8)),l.length=j+r→o.length+r≤1000000→h1 (M+r+1) o (j:Int)=h0 M (o++(l.drop j).map (fun e=>e.1)) (i+1):=by
 intro r
 induction r with
 |zero=>
  intro j M o hj _;rw[he];unfold lw1;rw[cdF (by omega),gdT hi,xG,List.drop_eq_nil_of_le (by omega)];show h0 M o (i+1)=h0 M (o++[]) (i+1);rw[List.append_nil]
 |succ r ih=>
  intro j M o hj ho;have hlt:j<l.length:=by omega
  have e1:(o++[(l.getD j (EntT).dflt).1]).length=o.length+1:=by rw[List.length_append,List.length_singleton]
  have:=ih (j+1) M (o++[(l.getD j (EntT).dflt).1]) (by omega) (by omega);simp only[Int.natCast_add,Int.natCast_one] at this;rw[show M+(r+1)+1=(M+r+1)+1 by omega,he];unfold lw1;rw[cdT (by omega),gdT (inK_i64.2 ⟨by omega,by omega⟩),gdT (by rw[List.length_singleton];omega),gJ_ok0 hlt];refine this.trans ?_
  rw[List.drop_eq_getElem_cons hlt,List.append_assoc,List.getD_eq_getElem?_getD,List.getElem?_eq_getElem hlt];rfl
theorem lw0_l {k:Int} {ps:List ShD} {h0:Nat→List (List UInt8)→Int→BO} {h1:Nat→List (List UInt8)→Int→ShD→Int→BO} {h2:Nat→List (List UInt8)→BO}
  (he0:∀N o i,h0 (N+1) o i=lw0 k o ps i (fun o' P=>h1 N o' i P 0) (h2 N o)) (he1:∀N o i P j,h1 (N+1) o i P j=lw1 o P.2.1 i (P.2.1.length:Int) j (fun o' j'=>h1 N o' i P j') (fun i'=>h0 N o i')) (hn:ps.length≤1000):
  ∀(rest:List ShD) (i M:Nat) (o:List (List UInt8)),ps.drop i=rest→pgOK k rest→o.length+(keysW rest).length≤500→i≤ps.length→h0 (M+fuelW rest+1) o (i:Int)=h2 M (o++keysW rest):=by
 intro rest
 induction rest with
 |nil=>
  intro i M o hd _ _ hi;have:ps.length≤i:=List.drop_eq_nil_iff.1 hd;rw[he0];unfold lw0;rw[cdF (by omega)];show h2 M o=h2 M (o++[]);rw[List.append_nil]
 |cons P rest ih=>
  intro i M o hd hp ho hi;obtain⟨p1,p2,p3⟩:=hp;have hlen:ps.length=i+(rest.length+1):=by
   have:=congrArg List.length hd;rw[List.length_drop] at this;show ps.length=i+(rest.length+1);have e:(P::rest).length=rest.length+1:=rfl;omega
  have hlt:i<ps.length:=by omega
  have hP:lwPg ps i=P:=by
   unfold lwPg;show ps.getD i _=P;rw[List.getD_eq_getElem?_getD,List.getElem?_eq_getElem hlt];have:=List.drop_eq_getElem_cons hlt;rw[hd] at this;exact(List.cons.inj this).1.symm
  have hd':ps.drop (i+1)=rest:=by
   have:=List.drop_eq_getElem_cons hlt;rw[hd] at this;exact(List.cons.inj this).2.symm
  have hkl:(keysW (P::rest)).length=P.1.length+P.2.1.length+(keysW rest).length:=by
   show(keysQ P++keysW rest).length=_;unfold keysQ;rw[List.length_append,List.length_append,List.length_map]
  have hio:inK .i64 ((i:Int)+1):=inK_i64.2 ⟨by omega,by omega⟩;have fin:h1 (M+fuelW rest+1+P.2.1.length+1) (o++P.1) (i:Int) P ((0:Nat):Int)=h2 M (o++keysW (P::rest)):=by
   have e1:(o++P.1).length=o.length+P.1.length:=List.length_append;rw[lw1_l (l:=P.2.1) (i:=(i:Int)) (h1:=fun N o j=>h1 N o i P j) (h0:=h0) (fun N o j=>he1 N o i P j) (by omega) hio P.2.1.length 0 (M+fuelW rest+1) (o++P.1) (by omega) (by omega)];have e2:(o++P.1++(P.2.1.drop 0).map (fun e=>e.1))=o++keysQ P:=by unfold keysQ;rw[List.append_assoc];rfl
   have e3:(o++keysQ P).length=o.length+(P.1.length+P.2.1.length):=by unfold keysQ;rw[List.length_append,List.length_append,List.length_map]
   rw[e2];have:=ih (i+1) M (o++keysQ P) hd' p3 (by omega) (by omega);simp only[Int.natCast_add,Int.natCast_one] at this;rw[this,List.append_assoc];rfl
  rw[show M+fuelW (P::rest)+1=(M+fuelW rest+1+P.2.1.length+1)+1 by show M+(P.2.1.length+2+fuelW rest)+1=_;omega,he0];unfold lw0;rw[hP,cdT (by omega),gdT (inK_i64.2 ⟨by omega,by omega⟩),gJ_ok0 hlt];have hT:lwT k o P (i:Int) (fun o'=>h1 (M+fuelW rest+1+P.2.1.length+1) o' (i:Int) P 0)=h2 M (o++keysW (P::rest)):=by
   unfold lwT;cases hm:P.2.2.1
   ·rw[xF,gdT (by omega),gdT hio,xG];exact fin
   ·rw[xT,show((P.1.length:Int)+(P.2.1.length:Int) !=k)=false from by rw[bne_eq_false_iff_eq];exact p2 hm,xF,gdT (by omega),gdT hio,xG];exact fin
  unfold lwU;rw[p1];cases hr:rest.isEmpty
  ·have:rest.length≠0:=fun h=>by rw[List.length_eq_zero_iff.1 h] at hr;cases hr
   rw[show(!false)=true from rfl,xT,cdT (by omega)];exact hT
  ·have:rest.length=0:=by rw[List.isEmpty_iff.1 hr];rfl
   rw[show(!true)=false from rfl,xF,cdF (by omega)];exact hT
theorem lwD_yes {c:Bool} {e p f:List UInt8} {o:List (List UInt8)} {k i:Int} {nx:Int→Int→BO} (h1:hasPre e p=true) (h2:leK e f=false) (h3:c=true):lwD c e p f o k i nx=lwC e p o k i nx:=by
 unfold hasPre at h1;rw[Bool.and_eq_true,decide_eq_true_eq] at h1;unfold leK at h2;unfold lwD;rw[cdF (by omega),show(p.length:Int).toNat=p.length from rfl,h1.2,show(!true)=false from rfl,xF,h2,xF,h3,xT]
theorem lwD_no {c:Bool} {e p f:List UInt8} {o:List (List UInt8)} {k i:Int} {nx:Int→Int→BO} (h:(hasPre e p&&(!leK e f&&c))=false) (hi:inK .i64 (i+1)):lwD c e p f o k i nx=nx k (i+1):=by
 unfold hasPre at h;unfold lwD;by_cases hl:(e.length:Int)<(p.length:Int)
 ·rw[cdT hl,gdT hi,xG]
 ·rw[cdF hl,show(p.length:Int).toNat=p.length from rfl];rw[decide_eq_true (show p.length≤e.length by omega),Bool.true_and] at h
  revert h
  cases e.take p.length==p
  ·intro _;rw[show(!false)=true from rfl,xT,gdT hi,gdT (by omega),xG]
  ·rw[show(!true)=false from rfl,xF,Bool.true_and];unfold leK;cases Op.bytesLess e f||e==f
   ·rw[xF];cases c
    ·intro _;rw[xF,gdT hi,gdT (by omega),xG]
    ·intro h;cases h
   ·intro _;rw[xT,gdT hi,gdT (by omega),xG]
theorem lw2_l {v:Bool} {l:List EntD} {p f:List UInt8} {o:List (List UInt8)} {n:Int} {h:Nat→Int→Int→BO} (he:∀N k i,h (N+1) k i=lw2 v l p f o n k i (fun k' i'=>h N k' i')) (hl:l.length≤1000) (ho:o.length≤1000) (hv:∀e,e∈l→e.2.1.length≤12) (hn:1≤n):
  ∀(r i k N:Nat),l.length=i+r→r<N→o.drop k=((l.drop i).filter (selP p f (!v))).map (fun e=>e.1)→k≤o.length→h N (k:Int) (i:Int)=bO true:=by
 intro r
 induction r with
 |zero=>
  intro i k N hi hN hd hk;obtain⟨N,rfl⟩:∃k,N=k+1:=⟨N-1,by omega⟩
  rw[List.drop_eq_nil_of_le (show l.length≤i by omega)] at hd;have:o.length≤k:=List.drop_eq_nil_iff.1 hd;rw[he];unfold lw2;rw[cdF (by omega)];unfold lwEx;rw[show((k:Int)==(o.length:Int))=true from beq_iff_eq.2 (by omega),xT,cdT hn]
 |succ r ih=>
  intro i k N hi hN hd hk;obtain⟨N,rfl⟩:∃k,N=k+1:=⟨N-1,by omega⟩
  have hlt:i<l.length:=by omega
  have hio:inK .i64 ((i:Int)+1):=inK_i64.2 ⟨by omega,by omega⟩;have hg:l.getD i (EntT).dflt=l[i]:=by rw[List.getD_eq_getElem?_getD,List.getElem?_eq_getElem hlt];rfl
  have hve:=hv l[i] (List.getElem_mem hlt);rw[List.drop_eq_getElem_cons hlt] at hd;have next:∀k':Nat,o.drop k'=((l.drop (i+1)).filter (selP p f (!v))).map (fun e=>e.1)→k'≤o.length→h N (k':Int) ((i:Int)+1)=bO true:=fun k' hd' hk'=>by
   have:=ih (i+1) k' N (by omega) (by omega) hd' hk';simp only[Int.natCast_add,Int.natCast_one] at this;exact this
  have key:∀c:Bool,fitB (!v) l[i]=c→lwD c (l[i]).1 p f o (k:Int) (i:Int) (fun k' i'=>h N k' i')=bO true:=fun c hc=>by
   cases hs:selP p f (!v) l[i]
   ·rw[List.filter_cons_of_neg (by rw[hs];decide)] at hd;have hs':(hasPre (l[i]).1 p&&(!leK (l[i]).1 f&&c))=false:=by rw[←hc];exact hs
    rw[lwD_no hs' hio];exact next k hd hk
   ·rw[List.filter_cons_of_pos hs] at hd;have hs':(hasPre (l[i]).1 p&&(!leK (l[i]).1 f&&c))=true:=by rw[←hc];exact hs
    simp only[Bool.and_eq_true,Bool.not_eq_true'] at hs';rw[lwD_yes hs'.1 hs'.2.1 hs'.2.2];have hklt:k<o.length:=by
     rcases Nat.lt_or_ge k o.length with h|h
     ·exact h
     ·rw[List.drop_eq_nil_of_le h] at hd;cases hd
    rw[List.drop_eq_getElem_cons hklt,List.map_cons] at hd;obtain⟨d1,d2⟩:=List.cons.inj hd;have hpl:p.length≤(l[i]).1.length:=by
     have:=hs'.1;unfold hasPre at this;rw[Bool.and_eq_true,decide_eq_true_eq] at this;exact this.1
    unfold lwC;have ho1:o.getD (k:Int).toNat Ty.str.dflt=(l[i]).1:=by
     show o.getD k _=_;rw[List.getD_eq_getElem?_getD,List.getElem?_eq_getElem hklt];exact d1
    rw[gdT (by omega),xG,cdF (by omega),ho1,beq_self_eq_true,show(!true)=false from rfl,xF,gdT hio,gdT (inK_i64.2 ⟨by omega,by omega⟩),gJ_ok0 hklt];have:=next (k+1) d2 hklt
    simp only[Int.natCast_add,Int.natCast_one] at this;exact this
  rw[he];unfold lw2;rw[cdT (by omega),show(i:Int).toNat=i from rfl,hg];have hnow:(nowN ((l[i]).1,(l[i]).2.1,())).2=(nowN l[i]).2:=rfl;rw[hnow];cases hw:(nowN l[i]).2
  ·rw[xF];show gd (gI l (i:Int)++_) _=_;rw[gJ_ok hlt,gdT (by omega),gJ_ok0 hlt];exact key v (by unfold fitB;rw[hw,Bool.not_not,Bool.or_false])
  ·rw[xT];show gd (gI l (i:Int)++_) _=_;rw[gJ_ok hlt,gdT (by omega),gJ_ok0 hlt];exact key true (by unfold fitB;rw[hw,Bool.or_true])
theorem lwS_n {s:StD} {A:AskD} {h0:List ShD→BO} (hs:stP s=true) (hA:askP A=true) (hk:isL A.1=true) (hh:bmayN (stN s)=true→mayN A=true→keysW (walkN 100 (stN s) A)=(selA (stN s) A).map (fun e=>e.1)→pgOK A.2.2.2.2.2.2.2.2.1 (walkN 100 (stN s) A)→1≤(walkN 100 (stN s) A).length→(walkN 100 (stN s) A).length≤100→h0 (walkN 100 (stN s) A)=bO true):lwS s A h0=bO true:=by
 have hb:=stN_bmayP s;unfold lwS;rw[gdB hs,xG];cases hm:bmayN (stN s)
 ·rw[xF,gdB hb,xG]
 rw[xT];cases ha:mayN A
 ·rw[xF,gdB hA,gdB hb,xG]
 have hl:(selA (stN s) A).length<100:=by
  have h1:(selA (stN s) A).length≤(stN s).2.1.length:=List.length_filter_le _ _;have h2:=(bmay_ent hm).1;omega
 obtain⟨w1,w2,w3,w4,w5⟩:=walk_what hm hb 100 A ha hk hA hl;rw[xT,gdB w1,gdB hA,gdB hb,xG];rw[mayL_max hk ha] at w3;exact hh hm ha w2 w3 w4 w5
end Nice
namespace Go.Proofs.YtldllfocpadkeaaGreatDoor
open Go Go.Eng Nice
set_option maxRecDepth 1000000
theorem lw_main {v:Bool} {s:StD} {A:AskD} {k:Int} (he2:∀N o ps k i,hlw2 (N+1) v s A o ps k i=lw2 v s.2.1 A.2.2.2.2.2.2.1 A.2.2.2.2.2.2.2.1 o (ps.length:Int) k i (fun k' i'=>hlw2 N v s A o ps k' i')) (hv:bOf A= !v) (hb:bmayN s=true) {ps:List ShD} (h1:keysW ps=(selA s A).map (fun e=>e.1)) (h2:pgOK k ps) (h3:1≤ps.length) (h4:ps.length≤100):hlw0 heads0 k v s A [] ps 0=bO true:=by
 have hl:=(bmay_ent hb).1;have hs:(selA s A).length≤s.2.1.length:=List.length_filter_le _ _;have hkl:(keysW ps).length=(selA s A).length:=by rw[h1,List.length_map]
 have hf:=fuelW_le ps;obtain⟨M,hM,hM2⟩:∃M,heads0=M+fuelW ps+1∧100<M:=⟨heads0-fuelW ps-1,by unfold heads0;omega,by unfold heads0;omega⟩
 rw[hM];have:=lw0_l (k:=k) (ps:=ps) (h0:=fun N o i=>hlw0 N k v s A o ps i) (h1:=fun N o i P j=>hlw1 N k v s A o ps i P (P.2.1.length:Int) j) (h2:=fun N o=>hlw2 N v s A o ps 0 0) (fun N o i=>elw_0 N k v s A o ps i) (fun N o i P j=>elw_1 N k v s A o ps i P _ j) (by omega) ps 0 M [] rfl h2 (by show 0+_≤500;omega) (Nat.zero_le _)
 refine this.trans ?_;show hlw2 M v s A (keysW ps) ps 0 0=bO true;refine lw2_l (v:=v) (l:=s.2.1) (o:=keysW ps) (n:=(ps.length:Int)) (h:=fun N k i=>hlw2 N v s A (keysW ps) ps k i) (fun N k i=>he2 N _ ps k i) (by omega) (by omega) (fun e he=>(bmay_key hb he).2) (by omega) s.2.1.length 0 0 M (by omega) (by omega) ?_ (Nat.zero_le _)
 rw[←hv];exact h1
theorem lw_n {s:StD} {p f:List UInt8} {k:Int} {v:Bool} (h1:stP s=true) (h2:i64P k=true):olw (s,p,f,k,v,())=some (true,()):=by
 obtain⟨q,l,m,⟨a0,b0,c0,d0,e0,⟨⟩⟩,⟨⟩⟩:=s;have hq:askP (acutN (ask0 p f k))=true:=acut_askP _ (show i64P 0=true by decide) h2;rw[olw_g];cases v
 ·rw[elw_gF];exact lwS_n h1 hq rfl fun g1 g2 g3 g4 g5 g6=>lw_main (v:=false) (fun N o ps k i=>elw_2F N _ _ o ps k i) rfl g1 g3 g4 g5 g6
 ·rw[elw_gT];exact lwS_n h1 hq rfl fun g1 g2 g3 g4 g5 g6=>lw_main (v:=true) (fun N o ps k i=>elw_2T N _ _ o ps k i) rfl g1 g3 g4 g5 g6
theorem lawLW_run {w:World} (hgl:GlW glC w) {args:Array Value} {x:DenL [StT,.str,.str,IT,.bool]} (hx:RdAll (fzW w) [StT,.str,.str,IT,.bool] x args.toList) (hb:BdL [StT,.str,.str,IT,.bool] x):Calls Tryz.prog 10 args w fun e w'=>e=.returned (.bool true)∧Same w w':=
 law_calls lw_c (fun x hb=>by
  obtain⟨s1,p,f,k,v,⟨⟩⟩:=x;have:=lw_n (s:=s1) (p:=p) (f:=f) (k:=k) (v:=v) (st_bd hb.1.2.1.2) (i64_bd hb.2.2.2.1);exact⟨by show(olw (s1,p,f,k,v,())).isSome=true;rw[this];rfl,by show(olw (s1,p,f,k,v,())).getD _=_;rw[this];rfl⟩) hgl hx hb
end Go.Proofs.YtldllfocpadkeaaGreatDoor
