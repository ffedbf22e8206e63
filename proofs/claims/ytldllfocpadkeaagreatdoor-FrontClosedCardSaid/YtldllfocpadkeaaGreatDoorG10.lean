/-
  Part of the proof: LawPg LawFC. No condition.
-/
import Derived.Test.YtldllfocpadkeaaGreatDoorG9
import Derived.Test.YtldllfocpadkeaaGreatDoorRow
import Derived.Test.YtldllfocpadkeaaGreatDoorBegE
import Derived.Test.YtldllfocpadkeaaGreatDoorG8
namespace Nice
open Go Go.Eng
theorem lcut0 (s:List UInt8) (n:Nat):(cut s (n:Int)).length≤n:=by unfold cut;rw[List.length_take];omega
end Nice
namespace Go.Proofs.YtldllfocpadkeaaGreatDoor
open Go Go.Eng Nice
set_option maxRecDepth 1000000
theorem begun19_c:PC 12 trueS:=pure_true begun19_run
end Go.Proofs.YtldllfocpadkeaaGreatDoor
namespace Nice
open Go Go.Eng
def lineG:List UInt8:=[71,69,84,32,47,111,47,107,32,72,84,84,80,47,49,46,49,13,10,13,10]
def txtG:Nat→List UInt8
 |0=>[]
 |k+1=>txtG k++lineG
abbrev ansT (n:Int):AnsD:=(n,[],[],())
end Nice
namespace Go.Proofs.YtldllfocpadkeaaGreatDoor
open Go Go.Eng Nice
set_option maxRecDepth 1000000
noncomputable def fcStep0 (n:Int) (more:List UInt8) (x:FrontD) (t:List UInt8) (i:Int) (nx0:List UInt8→Int→BO) (nx1:FrontD→List UInt8→Int→BO):BO:=
 bif decide (i<n) then gd [decide (inK .i64 (i+1)),decide (t.length+21≤1099511627776)] (nx0 (t++lineG) (i+1))
 else gd [ffeedP (ffeedF x (t++[63])) (cut more 50++t),decide ((cut more 50).length+t.length≤1099511627776),ffeedP x (t++[63]),decide (t.length+1≤1099511627776)] (nx1 (ffeedF (ffeedF x (t++[63])) (cut more 50++t)) [] 0)
noncomputable def fcStep1 (n:Int) (x:FrontD) (o:List UInt8) (i:Int) (nx:FrontD→List UInt8→Int→BO):BO:=
 bif decide (i<n) then(bif (doneF x (ansT 404)).2 then gd [decide (inK .i64 (i+1)),decide (o.length+(aputN (ansT 404) false).length≤1099511627776),aputP (ansT 404),doneP x (ansT 404)] (nx (doneF x (ansT 404)).1 (o++aputN (ansT 404) false) (i+1)) else gd [doneP x (ansT 404)] (bO false)) else bO false
noncomputable def fcEnd (n:Int) (y:FrontD) (u o:List UInt8) (i:Int):BO:=
 bif decide (i<n) then bO false else(bif u==o++aputN (ansT 400) false then(bif (doneF y (ansT 200)).2 then gd [doneP y (ansT 200),decide (o.length+(aputN (ansT 400) false).length≤1099511627776),aputP (ansT 400)] (bO false) else gd [doneP y (ansT 200),decide (o.length+(aputN (ansT 400) false).length≤1099511627776),aputP (ansT 400)] (bO true))
  else gd [decide (o.length+(aputN (ansT 400) false).length≤1099511627776),aputP (ansT 400)] (bO false))
abbrev shF:Sh:=.nest 0 shScan (shFront 3)
abbrev shFC:List (Nat×List (Nat×Sh)):=[(8,[(0,.one .sym),(1,.one .sym),(6,shF),(7,.one .sym),(8,.one .sym)]),(15,[(0,.one .sym),(6,shF),(9,.one .sym),(10,.one .sym)])]
noncomputable abbrev enFC:Eng.Env:=envO [(12,trueS),(28,cutS),(40,aputS)] [(30,newS),(31,ffeedS),(34,asksS),(35,closedS),(38,doneS),(39,foutS)]
noncomputable def hfc0 (N:Nat) (n:Int) (more:List UInt8) (x:FrontD) (t:List UInt8) (i:Int):BO:=rH Tryz.prog enFC (shOf shFC) Tryz.f8 [.bool] N 0 [(0,sy (.int .i64 n)),(1,sy (.string (bs more))),(6,.pointer (some ⟨15,0,none⟩)),(7,sy (.string (bs t))),(8,sy (.int .i64 i))] (objsF x.1 x.2.1 x.2.2.1 x.2.2.2.1 x.2.2.2.2.1 x.2.2.2.2.2.1)
noncomputable def hfc1 (N:Nat) (n:Int) (x:FrontD) (o:List UInt8) (i:Int):BO:=rH Tryz.prog enFC (shOf shFC) Tryz.f8 [.bool] N 1 [(0,sy (.int .i64 n)),(6,.pointer (some ⟨15,0,none⟩)),(9,sy (.string (bs o))),(10,sy (.int .i64 i))] (objsF x.1 x.2.1 x.2.2.1 x.2.2.2.1 x.2.2.2.2.1 x.2.2.2.2.2.1)
noncomputable def ofc (x:DenL [IT,.str]):BO:=fO Tryz.prog enFC (shOf shFC) Tryz.f8 [IT,.str] [.bool] x
theorem ofc_g (x:DenL [IT,.str]):ofc x=fON Tryz.prog enFC (shOf shFC) Tryz.f8 [IT,.str] [.bool] heads0 x:=rfl
theorem efc_g (N:Nat) (n:Int) (more:List UInt8):fON Tryz.prog enFC (shOf shFC) Tryz.f8 [IT,.str] [.bool] N (n,more,())=gd [decide (inK .i64 (n.tmod 5+5))] (hfc0 N ((n.tmod 5+5).tmod 5) more frontZ [] 0):=by kernel_rfl
theorem efc_0 (N:Nat) (n:Int) (more:List UInt8) (x:FrontD) (t:List UInt8) (i:Int):hfc0 (N+1) n more x t i=fcStep0 n more x t i (fun t i=>hfc0 N n more x t i) (fun y o i=>hfc1 N n y o i):=by kernel_rfl
theorem efc_1 (N:Nat) (n:Int) (s:ScanD) (w:List ReqD) (a:AskD) (u o:List UInt8) (i:Int):hfc1 (N+1) n (s,w,a,true,u,false,()) o i=fcStep1 n (s,w,a,true,u,false,()) o i (fun y o i=>hfc1 N n y o i):=by kernel_rfl
theorem efc_2 (N:Nat) (n:Int) (s:ScanD) (w:List ReqD) (a:AskD) (u o:List UInt8) (i:Int):hfc1 (N+1) n (s,w,a,false,u,true,()) o i=fcEnd n (s,w,a,false,[],true,()) u o i:=by kernel_rfl
abbrev rqG:ReqD:=([71,69,84],[47,111,47,107],[],[],[],())
theorem ofG:ofN rqG=((1,[107],0,[],0,[],[],[],0,false,()),0):=by kernel_rfl
theorem mayGF (n:Int) (h:amayB (ansT n)=true):amayB (ansT n)=true∧aputP (ansT n)=true:=⟨h,aputP0 n []⟩
theorem scanG0:scanR ((txtG 0++[63]).length+1) (txtG 0++[63])=(List.replicate 0 rqG,400,false):=by kernel_rfl
theorem scanG1:scanR ((txtG 1++[63]).length+1) (txtG 1++[63])=(List.replicate 1 rqG,400,false):=by kernel_rfl
theorem scanG2:scanR ((txtG 2++[63]).length+1) (txtG 2++[63])=(List.replicate 2 rqG,400,false):=by kernel_rfl
theorem scanG3:scanR ((txtG 3++[63]).length+1) (txtG 3++[63])=(List.replicate 3 rqG,400,false):=by kernel_rfl
theorem scanG4:scanR ((txtG 4++[63]).length+1) (txtG 4++[63])=(List.replicate 4 rqG,400,false):=by kernel_rfl
theorem scanG {k:Nat} (h:k≤4):scanR ((txtG k++[63]).length+1) (txtG k++[63])=(List.replicate k rqG,400,false):=by
 match k,h with
 |0,_=>exact scanG0
 |1,_=>exact scanG1
 |2,_=>exact scanG2
 |3,_=>exact scanG3
 |4,_=>exact scanG4
theorem txtG_len (k:Nat):(txtG k).length=21*k:=by
 induction k with
 |zero=>rfl
 |succ k ih=>
  show(txtG k++lineG).length=_;have:lineG.length=21:=rfl;rw[List.length_append,ih];omega
theorem fc1_l {n:Nat} (hn:n≤4) {s:ScanD} (hs:s.2.1=400) (r:Nat):∀(i N:Nat) (o:List UInt8),n=i+r→o.length≤30000*i→r<N→hfc1 N (n:Int) (goN s false (List.replicate r rqG) askZ o) o (i:Int)=bO true:=by
 induction r with
 |zero=>
  intro i N o hi ho hN;obtain⟨N,rfl⟩:∃k,N=k+1:=⟨N-1,by omega⟩
  have hl:(aputN (ansT 400) false).length≤30000:=aput_len false;rw[show List.replicate 0 rqG=[] from rfl,goN_nil1 (by rw[hs];decide),hs,efc_2];unfold fcEnd;obtain⟨d1,d2⟩:=done_idle (x:=(s,[],askZ,false,[],true,())) (n:=ansT 200) rfl;rw[cdF (by omega),beq_self_eq_true,xT,d2];show(bif false then _ else _)=_
  rw[xF,gdB d1,gdT (by omega),gdB (aputP0 400 []),xG]
 |succ r ih=>
  intro i N o hi ho hN;obtain⟨N,rfl⟩:∃k,N=k+1:=⟨N-1,by omega⟩
  have hl:(aputN (ansT 404) false).length≤30000:=aput_len false;obtain⟨m1,m2⟩:=mayGF 404 (by kernel_rfl);have h0:(ofN rqG).2=0:=by rw[ofG]
  obtain⟨d1,d2⟩:=done_ok (s:=s) (r:=rqG) (w:=List.replicate r rqG) (o:=o) (n:=ansT 404) h0 m1 m2 (fun x hx=>by rw[(List.mem_replicate.1 hx).2];kernel_rfl) (by rw[List.length_replicate];omega) (by rw[List.length_replicate];omega);have e:goN s false (List.replicate (r+1) rqG) askZ o=(s,List.replicate r rqG,(ofN rqG).1,true,o,false,()):=by
   rw[show List.replicate (r+1) rqG=rqG::List.replicate r rqG from rfl,goN_good h0]
  rw[←show List.replicate (r+1) rqG=rqG::List.replicate r rqG from rfl] at d1 d2;have hb:(ofN rqG).1.2.2.2.2.2.2.2.2.2.1=false:=by rw[ofG]
  rw[hb] at d2;rw[e] at d1 d2⊢;rw[efc_1];unfold fcStep1;rw[cdT (by omega),d2];show(bif true then _ else _)=_;rw[xT,gdT (inK_i64.2 ⟨by omega,by omega⟩),gdT (by omega),gdB m2,gdB d1,xG];have:=ih (i+1) N (o++aputN (ansT 404) false) (by omega) (by rw[List.length_append];omega) (by omega);simp only[Int.natCast_add,Int.natCast_one] at this
  exact this
theorem fc0_l {n:Nat} (hn:n≤4) (more:List UInt8) (r:Nat):∀(i N:Nat),n=i+r→r+10<N→hfc0 N (n:Int) more frontZ (txtG i) (i:Int)=bO true:=by
 induction r with
 |zero=>
  intro i N hi hN;obtain⟨N,rfl⟩:∃k,N=k+1:=⟨N-1,by omega⟩
  have hin:i=n:=by omega
  subst hin;have lt:=txtG_len i;have lc:(cut more 50).length≤50:=lcut0 more 50;have l1:(txtG i++[63]).length=21*i+1:=by rw[List.length_append,lt];rfl
  have l2:((txtG i++[63])++(cut more 50++txtG i)).length≤1000:=by rw[List.length_append,l1,List.length_append,lt];omega
  have f1:=feed_inv (t:=[]) (b:=txtG i++[63]) FInv0 (by rw[List.nil_append];omega);rw[List.nil_append] at f1;have f2:=feed_inv (b:=cut more 50++txtG i) f1.2 (by omega);have hsc:=scan_outs (txtG i++[63]);rw[scanG hn] at hsc;have hm:mX ((txtG i++[63])++(cut more 50++txtG i))=mX (txtG i++[63]):=by
   show mrun (initX []) _=_;rw[mrun_app];exact mrun_bad _ _ (by rw[hsc.1];exact(by decide:(400:Int)≠0))
  obtain⟨s,g1,g2, -⟩:=f2.2;rw[hm] at g1 g2;rw[efc_0];unfold fcStep0;rw[cdF (by omega),gdB f2.1,gdT (by omega),gdB f1.1,gdT (by omega),xG,g1];have hou:outX (mX (txtG i++[63]))=List.replicate i rqG:=hsc.2.1;have hst:s.2.1=400:=g2.trans hsc.1;rw[hou];exact fc1_l hn hst i 0 N [] (by omega) (Nat.le_refl 0) (by omega)
 |succ r ih=>
  intro i N hi hN;obtain⟨N,rfl⟩:∃k,N=k+1:=⟨N-1,by omega⟩
  have lt:=txtG_len i;rw[efc_0];unfold fcStep0;rw[cdT (by omega),gdT (inK_i64.2 ⟨by omega,by omega⟩),gdT (by omega),xG];have:=ih (i+1) N (by omega) (by omega);simp only[Int.natCast_add,Int.natCast_one] at this;exact this
theorem n5 (n:Int):∃k:Nat,(n.tmod 5+5).tmod 5=(k:Int)∧k≤4∧ -4≤n.tmod 5∧n.tmod 5≤4:=by
 have h1:=Int.tmod_lt_of_pos n (show(0:Int)<5 by decide);have h2:=Int.lt_tmod_of_pos n (show(0:Int)<5 by decide);have h3:=Int.tmod_nonneg (a:=n.tmod 5+5) 5 (by omega);have h4:=Int.tmod_lt_of_pos (n.tmod 5+5) (show(0:Int)<5 by decide);exact⟨((n.tmod 5+5).tmod 5).toNat,by omega,by omega,by omega,by omega⟩
theorem fc_n (n:Int) (more:List UInt8):ofc (n,more,())=some (true,()):=by
 obtain⟨k,h1,h2,h3,h4⟩:=n5 n;rw[ofc_g,efc_g,gdT (inK_i64.2 ⟨by omega,by omega⟩),xG,h1];exact fc0_l h2 more k 0 heads0 (by omega) (Nat.lt_of_le_of_lt (Nat.add_le_add_right h2 10) (by unfold heads0;omega))
theorem fc_c:PC 8 (ofO [IT,.str] [.bool] ofc):=pureO (sh:=shOf shFC) (envO_ok (l:=[(12,trueS),(28,cutS),(40,aputS)]) (o:=[(30,newS),(31,ffeedS),(34,asksS),(35,closedS),(38,doneS),(39,foutS)]) ⟨begun19_c,cut_c,aput_c,trivial⟩ ⟨new_c,ffeed_c,asks_c,closed_c,done_c,fout_c,trivial⟩) gl_ne Tryz.func8 (by kernel_rfl) (by decide)
theorem lawFC_run {w:World} (hgl:GlW glC w) {args:Array Value} {x:DenL [IT,.str]} (hx:RdAll (fzW w) [IT,.str] x args.toList) (hb:BdL [IT,.str] x):Calls Tryz.prog 8 args w fun e w'=>e=.returned (.bool true)∧Same w w':=
 law_calls fc_c (fun x hb=>by
  obtain⟨n,more,⟨⟩⟩:=x;have:=fc_n n more;exact⟨by show(ofc (n,more,())).isSome=true;rw[this];rfl,by show(ofc (n,more,())).getD _=_;rw[this];rfl⟩) hgl hx hb
end Go.Proofs.YtldllfocpadkeaaGreatDoor
