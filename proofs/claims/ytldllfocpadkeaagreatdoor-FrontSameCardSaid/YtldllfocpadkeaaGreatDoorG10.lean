/-
  Part of the proof: LawPg LawFS. No condition.
-/
import Derived.Test.YtldllfocpadkeaaGreatDoorG9
import Derived.Test.YtldllfocpadkeaaGreatDoorRow
import Derived.Test.YtldllfocpadkeaaGreatDoorBegE
import Derived.Test.YtldllfocpadkeaaGreatDoorG8
import Derived.Test.YtldllfocpadkeaaGreatDoorG7
namespace Nice
open Go Go.Eng
theorem lcut0 (s:List UInt8) (n:Nat):(cut s (n:Int)).length≤n:=by unfold cut;rw[List.length_take];omega
theorem acut_askP (a:AskD) (h1:i64P a.2.2.1=true) (h2:i64P a.2.2.2.2.2.2.2.2.1=true):askP (acutN a)=true:=by
 have l1:(cut a.2.1 42).length≤42:=lcut0 a.2.1 42;have l2:(cut a.2.2.2.1 302).length≤302:=lcut0 a.2.2.2.1 302;have l3:(cut a.2.2.2.2.2.1 10).length≤10:=lcut0 a.2.2.2.2.2.1 10;have l4:(cut a.2.2.2.2.2.2.1 42).length≤42:=lcut0 a.2.2.2.2.2.2.1 42;have l5:(cut a.2.2.2.2.2.2.2.1 42).length≤42:=lcut0 a.2.2.2.2.2.2.2.1 42
 unfold askP qryP sh1 acutN;dsimp only;rw[decide_eq_true (by omega:(cut a.2.1 42).length≤1000),decide_eq_true (by omega:(cut a.2.2.2.1 302).length≤1000),decide_eq_true (by omega:(cut a.2.2.2.2.2.1 10).length≤1000),decide_eq_true (by omega:(cut a.2.2.2.2.2.2.1 42).length≤1000),decide_eq_true (by omega:(cut a.2.2.2.2.2.2.2.1 42).length≤1000),h1,h2];rfl
end Nice
namespace Go.Proofs.YtldllfocpadkeaaGreatDoor
open Go Go.Eng Nice
set_option maxRecDepth 1000000
theorem begun19_c:PC 12 trueS:=pure_true begun19_run
theorem i64_bd {n:Int} (h:inK .i64 n):i64P n=true:=by
 have:=inK_i64.1 h;unfold i64P;rw[Bool.and_eq_true,decide_eq_true_eq,decide_eq_true_eq];exact this
end Go.Proofs.YtldllfocpadkeaaGreatDoor
namespace Nice
open Go Go.Eng
def asksA (x:FrontD):AskD:=bif x.2.2.2.1 then x.2.2.1 else askZ
end Nice
namespace Go.Proofs.YtldllfocpadkeaaGreatDoor
open Go Go.Eng Nice
set_option maxRecDepth 1000000
def ansB0:AnsD:=answN (200,[],[98,111,100,121],())
noncomputable def fs3 (x:FrontD) (o:List UInt8) (b:Bool):BO:=bif o==aputN ansB0 b then gd [aputP ansB0,doneP x ansB0] (bO true) else gd [aputP ansB0,doneP x ansB0] (bO false)
noncomputable def fs2 (A:AskD) (x:FrontD) (d:FrontD×Bool):BO:=
 bif eqB (asksA x) A then(bif d.2 then(bif A.2.2.2.2.2.2.2.2.2.1 then fs3 x d.1.2.2.2.2.1 true else fs3 x d.1.2.2.2.2.1 false) else gd [doneP x ansB0] (bO false)) else bO false
noncomputable def fs1 (A:AskD) (R:ReqW×Bool):BO:=
 bif R.2 then gd [ffeedP frontZ (lineT R.1),askP A] (bif (ffeedF frontZ (lineT R.1)).2.2.2.1 then fs2 A (ffeedF frontZ (lineT R.1)) (doneF (ffeedF frontZ (lineT R.1)) ansB0) else bO false) else gd [askP A] (bO true)
noncomputable abbrev enFS:Eng.Env:=envO [(12,trueS),(14,acutS),(41,requestS),(27,lineRS),(37,answS),(33,aputS)] [(30,newS),(31,ffeedS),(34,asksS),(38,doneS),(39,foutS)]
noncomputable def ofs (x:DenL [AskT]):BO:=fO Tryz.prog enFS (shOf []) Tryz.f9 [AskT] [.bool] x
theorem efs (kd:Int) (key:List UInt8) (v:Int) (bo:List UInt8) (co:Int) (t p f:List UInt8) (mx:Int) (ba:Bool):
 ofs ((kd,key,v,bo,co,t,p,f,mx,ba,()),())=fs1 (acutN (kd,key,v,bo,co,t,p,f,mx,ba,())) (requestN (acutN (kd,key,v,bo,co,t,p,f,mx,ba,()))):=by kernel_rfl
theorem mayB0:amayB ansB0=true:=by kernel_rfl
theorem putB0:aputP ansB0=true:=by kernel_rfl
theorem fs_w {A:AskD} (hp:askP A=true):fs1 A (requestN A)=bO true:=by
 unfold fs1;rw[request_ok];cases hm:mayN A
 ·rw[xF];dsimp only;rw[xF,gdB hp,xG]
 ·rw[xT];dsimp only;obtain⟨o1, -⟩:=ofN_req hm;have hl:=lineT_len (reqR A);have hf:=feed_inv (t:=[]) (b:=lineT (reqR A)) FInv0 (by rw[List.nil_append];omega);rw[List.nil_append] at hf;obtain⟨f1,s,f2,f3, -⟩:=hf;obtain⟨h1,h2, -⟩:=scan_outs (lineT (reqR A));rw[scan_req hm] at h1 h2;rw[show mX (lineT (reqR A))=mrun (initX []) (lineT (reqR A)) from rfl,h1] at f3
  rw[show mX (lineT (reqR A))=mrun (initX []) (lineT (reqR A)) from rfl,h2] at f2;have hg:(ofN (reqR A)).2=0:=by rw[o1]
  have ha:(ofN (reqR A)).1=A:=by rw[o1]
  have hd:=done_ok (s:=s) (r:=reqR A) (w:=[]) (o:=[]) (n:=ansB0) hg mayB0 putB0 (fun r hr=>by cases hr) (by decide) (by decide);rw[xT,gdB f1,gdB hp,xG];rw[f2,hd.2];have e:goN s false [reqR A] askZ []=(s,[],A,true,[],false,()):=by rw[goN_good hg,ha]
  have hd1:=hd.1;rw[e] at hd1⊢;rw[ha,goN_nil0 f3];show(bif true then fs2 A (s,[],A,true,[],false,()) ((s,[],askZ,false,aputN ansB0 A.2.2.2.2.2.2.2.2.2.1,false,()),true) else bO false)=bO true;rw[xT];unfold fs2;rw[show asksA (s,[],A,true,[],false,())=A from rfl,eqB_refl,xT];show(bif true then(bif A.2.2.2.2.2.2.2.2.2.1 then fs3 (s,[],A,true,[],false,()) (aputN ansB0 A.2.2.2.2.2.2.2.2.2.1) true else fs3 (s,[],A,true,[],false,()) (aputN ansB0 A.2.2.2.2.2.2.2.2.2.1) false) else _)=bO true
  rw[xT];have h3:∀b,fs3 (s,[],A,true,[],false,()) (aputN ansB0 b) b=bO true:=fun b=>by
   unfold fs3;rw[beq_self_eq_true,xT,gdB putB0,gdB hd1,xG]
  cases A.2.2.2.2.2.2.2.2.2.1
  ·rw[xF];exact h3 false
  ·rw[xT];exact h3 true
theorem fs_n {a:AskD} (h3:i64P a.2.2.1=true) (h4:i64P a.2.2.2.2.2.2.2.2.1=true):ofs (a,())=some (true,()):=by
 obtain⟨kd,key,v,bo,co,t,p,f,mx,ba,⟨⟩⟩:=a;rw[efs];exact fs_w (acut_askP _ h3 h4)
theorem fs_c:PC 9 (ofO [AskT] [.bool] ofs):=pureO (sh:=shOf []) (envO_ok (l:=[(12,trueS),(14,acutS),(41,requestS),(27,lineRS),(37,answS),(33,aputS)]) (o:=[(30,newS),(31,ffeedS),(34,asksS),(38,doneS),(39,foutS)]) ⟨begun19_c,acut_c,request_c,line22_c,answ_c,rput_c,trivial⟩ ⟨new_c,ffeed_c,asks_c,done_c,fout_c,trivial⟩) gl_ne Tryz.func9 (by kernel_rfl) (by decide)
theorem lawFS_run {w:World} (hgl:GlW glC w) {args:Array Value} {x:DenL [AskT]} (hx:RdAll (fzW w) [AskT] x args.toList) (hb:BdL [AskT] x):Calls Tryz.prog 9 args w fun e w'=>e=.returned (.bool true)∧Same w w':=
 law_calls fs_c (fun x hb=>by
  obtain⟨a,⟨⟩⟩:=x;have:=fs_n (a:=a) (i64_bd hb.1.2.2.1) (i64_bd hb.1.2.2.2.2.2.2.2.2.1);exact⟨by show(ofs (a,())).isSome=true;rw[this];rfl,by show(ofs (a,())).getD _=_;rw[this];rfl⟩) hgl hx hb
end Go.Proofs.YtldllfocpadkeaaGreatDoor
