/-
  Part of the proof: LawPg LawFC LawFO. No condition.
-/
import Derived.Test.YtldllfocpadkeaaGreatDoorG9
import Derived.Test.YtldllfocpadkeaaGreatDoorRow
import Derived.Test.YtldllfocpadkeaaGreatDoorBegE
import Derived.Test.YtldllfocpadkeaaGreatDoorG8
namespace Go.Proofs.YtldllfocpadkeaaGreatDoor
open Go Go.Eng Nice
set_option maxRecDepth 1000000
theorem begun19_c:PC 12 trueS:=pure_true begun19_run
end Go.Proofs.YtldllfocpadkeaaGreatDoor
namespace Nice
open Go Go.Eng
def lineG:List UInt8:=[71,69,84,32,47,111,47,107,32,72,84,84,80,47,49,46,49,13,10,13,10]
abbrev ansT (n:Int):AnsD:=(n,[],[],())
end Nice
namespace Go.Proofs.YtldllfocpadkeaaGreatDoor
open Go Go.Eng Nice
set_option maxRecDepth 1000000
abbrev shF:Sh:=.nest 0 shScan (shFront 3)
end Go.Proofs.YtldllfocpadkeaaGreatDoor
namespace Nice
open Go Go.Eng
def txM:Nat→List UInt8
 |0=>[71,69,84,32,47,120,32,72,84,84,80,47,49,46,49,13,10,13,10]
 |1=>[72,69,65,68,32,47,111,63,109,97,120,61,48,32,72,84,84,80,47,49,46,49,13,10,13,10]
 |2=>[80,79,83,84,32,47,111,47,107,32,72,84,84,80,47,49,46,49,13,10,13,10]
 |_=>lineG
def rqM:Nat→ReqD
 |0=>([71,69,84],[47,120],[],[],[],())
 |1=>([72,69,65,68],[47,111],[109,97,120,61,48],[],[],())
 |2=>([80,79,83,84],[47,111,47,107],[],[],[],())
 |_=>([71,69,84],[47,111,47,107],[],[],[],())
def b200 (j:Int):AnsD:=(200,[],[98]++[UInt8.ofNat (IntKind.u8.wrap (48+j)).toNat],())
def puM (j:Int):Nat→List UInt8
 |0=>aputN (ansT 404) false
 |1=>aputN (ansT 400) true
 |2=>aputN (ansT 405) false
 |_=>aputN (b200 j) false
def outsM (j:Int):List Nat→List UInt8
 |[]=>[]
 |m::l=>puM j m++outsM (if m<3 then j else j+1) l
def cntM:List Nat→Nat
 |[]=>0
 |m::l=>(if m<3 then 0 else 1)+cntM l
def txtM:List Nat→List UInt8
 |[]=>[]
 |m::l=>txM m++txtM l
def mdI (k:Int):Int:=(k.tmod 4+4).tmod 4
theorem one_b {m p q:List UInt8} {s R:List UInt8} (h:r1 0 0 [] [] [] [] 0 s=.whole m p q (13::10::R)):oneR s=.whole (m,p,q,[],[],()) R:=by
 unfold oneR;rw[h];show hdsR ((13::10::R).length+1) m p q [] (13::10::R)=_;unfold hdsR;rw[show r2 ([]:List HeadD).length 5 [] [] 0 (13::10::R)=.fin R from rfl];simp only;unfold bodyR;rw[show refLen []=((0:Int),(0:Int)) from rfl];simp only;rw[if_neg (by simp),if_neg (by omega)];rfl
theorem one_M (m:Nat) (R:List UInt8):oneR (txM m++R)=.whole (rqM m) R:=by
 match m with
 |0=>exact one_b rfl
 |1=>exact one_b rfl
 |2=>exact one_b rfl
 |_+3=>exact one_b rfl
theorem txM_ne (m:Nat):1≤(txM m).length∧(txM m).length≤26:=by
 match m with
 |0=>exact⟨by decide,by decide⟩
 |1=>exact⟨by decide,by decide⟩
 |2=>exact⟨by decide,by decide⟩
 |_+3=>exact⟨by show 1≤lineG.length;decide,by show lineG.length≤26;decide⟩
theorem scan_M:∀(l:List Nat) (k:Nat),(txtM l).length<k→scanR k (txtM l)=(l.map rqM,0,true)
 |[],k,h=>by
  obtain⟨k,rfl⟩:∃j,k=j+1:=⟨k-1,by simp only[txtM,List.length_nil] at h;omega⟩
  unfold scanR;rw[if_pos (show txtM []=[] from rfl)];rfl
 |m::l,k,h=>by
  obtain⟨k,rfl⟩:∃j,k=j+1:=⟨k-1,by omega⟩
  have hm:=txM_ne m;have e:(txtM (m::l)).length=(txM m).length+(txtM l).length:=by show(txM m++txtM l).length=_;exact List.length_append
  unfold scanR;rw[if_neg (fun h0=>by rw[h0] at e;simp only[List.length_nil] at e;omega)];rw[show txtM (m::l)=txM m++txtM l from rfl,one_M];simp only;rw[scan_M l k (by omega)];rfl
theorem txtM_len:∀l:List Nat,(txtM l).length≤26*l.length
 |[]=>Nat.le_refl _
 |m::l=>by
  have:=txM_ne m;have:=txtM_len l;show(txM m++txtM l).length≤_;rw[List.length_append,List.length_cons];omega
theorem ofM0:(ofN (rqM 0)).2=404:=by kernel_rfl
theorem ofM1:(ofN (rqM 1)).2=400:=by kernel_rfl
theorem ofM2:(ofN (rqM 2)).2=405:=by kernel_rfl
theorem ofM3:ofN (rqM 3)=((1,[107],0,[],0,[],[],[],0,false,()),0):=by kernel_rfl
theorem mayB200 (j:Int):amayB (b200 j)=true:=by kernel_rfl
theorem putB200 (j:Int):aputP (b200 j)=true:=aputP0 200 _
theorem ofP_M0:ofP (rqM 0)=true:=by kernel_rfl
theorem ofP_M1:ofP (rqM 1)=true:=by kernel_rfl
theorem ofP_M2:ofP (rqM 2)=true:=by kernel_rfl
theorem ofP_M3:ofP (rqM 3)=true:=by kernel_rfl
theorem ofP_M (m:Nat):ofP (rqM m)=true:=by
 match m with
 |0=>exact ofP_M0
 |1=>exact ofP_M1
 |2=>exact ofP_M2
 |_+3=>exact ofP_M3
theorem md_lt (k:Int):0≤mdI k∧mdI k≤3∧ -3≤k.tmod 4∧k.tmod 4≤3:=by
 have h1:=Int.tmod_lt_of_pos k (show(0:Int)<4 by decide);have h2:=Int.lt_tmod_of_pos k (show(0:Int)<4 by decide);have h3:=Int.tmod_nonneg (a:=k.tmod 4+4) 4 (by omega);have h4:=Int.tmod_lt_of_pos (k.tmod 4+4) (show(0:Int)<4 by decide);unfold mdI;exact⟨h3,by omega,by omega,by omega⟩
end Nice
namespace Go.Proofs.YtldllfocpadkeaaGreatDoor
open Go Go.Eng Nice
set_option maxRecDepth 1000000
noncomputable def foPut (i:Int) (t W:List UInt8) (k:Nat) (a:AnsD) (b:Bool) (nx:BO):BO:=gd [decide (inK .i64 (i+1)),decide (W.length+(aputN a b).length≤1099511627776),aputP a,decide (t.length+k≤1099511627776)] nx
noncomputable def foStep0 (ks:List Int) (x:FrontD) (t W:List UInt8) (n i:Int) (nx0:List UInt8→List UInt8→Int→Int→BO) (nx1:FrontD→List UInt8→Int→Int→BO):BO:=
 bif decide (i<(ks.length:Int)) then(bif decide (i<8) then gd [decide (inK .i64 ((ks.getD i.toNat (IT).dflt).tmod 4+4)),decide (i.toNat<ks.length),decide (0≤i),decide (i<(ks.length:Int))]
  (bif mdI (ks.getD i.toNat (IT).dflt)==0 then foPut i t W 19 (ansT 404) false (nx0 (t++txM 0) (W++aputN (ansT 404) false) n (i+1))
   else bif mdI (ks.getD i.toNat (IT).dflt)==1 then foPut i t W 26 (ansT 400) true (nx0 (t++txM 1) (W++aputN (ansT 400) true) n (i+1))
   else bif mdI (ks.getD i.toNat (IT).dflt)==2 then foPut i t W 22 (ansT 405) false (nx0 (t++txM 2) (W++aputN (ansT 405) false) n (i+1))
   else gd [decide (inK .i64 (i+1)),decide (inK .i64 (n+1)),decide (W.length+(aputN (b200 n) false).length≤1099511627776),aputP (b200 n),decide (inK .i64 (48+n)),decide (t.length+21≤1099511627776)] (nx0 (t++lineG) (W++aputN (b200 n) false) (n+1) (i+1)))
  else gd [ffeedP x t] (nx1 (ffeedF x t) W n 0)) else gd [ffeedP x t] (nx1 (ffeedF x t) W n 0)
noncomputable def foStep1 (x:FrontD) (W:List UInt8) (n i:Int) (nx:FrontD→List UInt8→Int→Int→BO):BO:=
 bif decide (i<n) then(bif !(x.2.2.1.2.1==[107]) then bO false else bif (doneF x (b200 i)).2 then gd [decide (inK .i64 (i+1)),doneP x (b200 i),decide (inK .i64 (48+i))] (nx (doneF x (b200 i)).1 W n (i+1)) else gd [doneP x (b200 i),decide (inK .i64 (48+i))] (bO false)) else bO false
noncomputable def foEnd (u W:List UInt8) (n i:Int):BO:=bif decide (i<n) then bO false else bif u==W then bO true else bO false
abbrev shFO:List (Nat×List (Nat×Sh)):=[(8,[(4,shF),(0,.one (.dat IT)),(5,.one .sym),(6,.one .sym),(7,.one .sym),(8,.one .sym)]),(25,[(4,shF),(6,.one .sym),(7,.one .sym),(9,.one .sym)])]
noncomputable abbrev enFO:Eng.Env:=envO [(12,trueS),(33,aputS)] [(30,newS),(31,ffeedS),(34,asksS),(38,doneS),(39,foutS)]
noncomputable def hfo0 (N:Nat) (ks:List Int) (x:FrontD) (t W:List UInt8) (n i:Int):BO:=rH Tryz.prog enFO (shOf shFO) Tryz.f7 [.bool] N 0 [(4,.pointer (some ⟨15,0,none⟩)),(0,dt 16),(5,sy (.string (bs t))),(6,sy (.string (bs W))),(7,sy (.int .i64 n)),(8,sy (.int .i64 i))] (objsF x.1 x.2.1 x.2.2.1 x.2.2.2.1 x.2.2.2.2.1 x.2.2.2.2.2.1++[.dat IT ks])
noncomputable def hfo1 (N:Nat) (x:FrontD) (W:List UInt8) (n i:Int):BO:=rH Tryz.prog enFO (shOf shFO) Tryz.f7 [.bool] N 1 [(4,.pointer (some ⟨15,0,none⟩)),(6,sy (.string (bs W))),(7,sy (.int .i64 n)),(9,sy (.int .i64 i))] (objsF x.1 x.2.1 x.2.2.1 x.2.2.2.1 x.2.2.2.2.1 x.2.2.2.2.2.1)
noncomputable def ofo (x:DenL [.slice IT]):BO:=fO Tryz.prog enFO (shOf shFO) Tryz.f7 [.slice IT] [.bool] x
theorem ofo_g (x:DenL [.slice IT]):ofo x=fON Tryz.prog enFO (shOf shFO) Tryz.f7 [.slice IT] [.bool] heads0 x:=rfl
theorem efo_g (N:Nat) (ks:List Int):fON Tryz.prog enFO (shOf shFO) Tryz.f7 [.slice IT] [.bool] N (ks,())=hfo0 N ks frontZ [] [] 0 0:=by kernel_rfl
theorem efo_0 (N:Nat) (ks:List Int) (x:FrontD) (t W:List UInt8) (n i:Int):hfo0 (N+1) ks x t W n i=foStep0 ks x t W n i (fun t W n i=>hfo0 N ks x t W n i) (fun y W n i=>hfo1 N y W n i):=by kernel_rfl
theorem efo_1 (N:Nat) (s:ScanD) (w:List ReqD) (a:AskD) (u W:List UInt8) (n i:Int):hfo1 (N+1) (s,w,a,true,u,false,()) W n i=foStep1 (s,w,a,true,u,false,()) W n i (fun y W n i=>hfo1 N y W n i):=by kernel_rfl
theorem efo_2 (N:Nat) (s:ScanD) (w:List ReqD) (a:AskD) (u W:List UInt8) (n i:Int):hfo1 (N+1) (s,w,a,false,u,false,()) W n i=foEnd u W n i:=by kernel_rfl
theorem fo1_l {s:ScanD} (hs:s.2.1=0):∀(l:List Nat) (j N:Nat) (o:List UInt8),j+l.length≤8→o.length≤1000000-30000*l.length→cntM l<N→hfo1 N (goN s false (l.map rqM) askZ o) (o++outsM (j:Int) l) ((j+cntM l:Nat):Int) (j:Int)=bO true
 |[],j,N,o,hj,ho,hN=>by
  obtain⟨N,rfl⟩:∃k,N=k+1:=⟨N-1,by omega⟩
  rw[show([]:List Nat).map rqM=[] from rfl,goN_nil0 hs,efo_2];unfold foEnd;rw[show outsM (j:Int) []=[] from rfl,List.append_nil,show cntM []=0 from rfl,cdF (by omega),beq_self_eq_true,xT]
 |m::l,j,N,o,hj,ho,hN=>by
  rw[List.length_cons] at hj ho;have hbad:∀(z:List UInt8),z.length≤30000→m<3→puM (j:Int) m=z→goN s false ((m::l).map rqM) askZ o=goN s false (l.map rqM) askZ (o++z)→hfo1 N (goN s false ((m::l).map rqM) askZ o) (o++outsM (j:Int) (m::l)) ((j+cntM (m::l):Nat):Int) (j:Int)=bO true:=fun z hz hm e1 e2=>by
   have c1:cntM (m::l)=cntM l:=by show(if m<3 then 0 else 1)+cntM l=_;rw[if_pos hm,Nat.zero_add]
   have o1:outsM (j:Int) (m::l)=z++outsM (j:Int) l:=by show puM (j:Int) m++outsM (if m<3 then(j:Int) else(j:Int)+1) l=_;rw[if_pos hm,e1]
   rw[c1] at hN⊢;rw[e2,o1,←List.append_assoc];exact fo1_l hs l j N (o++z) (by omega) (by rw[List.length_append];omega) hN
  match m,hbad with
  |0,hbad=>exact hbad _ (aput_len _) (by decide) rfl (by
    show goN s false (rqM 0::l.map rqM) askZ o=_;rw[goN_bad (by rw[ofM0];decide),ofM0];rfl)
  |1,hbad=>exact hbad _ (aput_len _) (by decide) rfl (by
    show goN s false (rqM 1::l.map rqM) askZ o=_;rw[goN_bad (by rw[ofM1];decide),ofM1];rfl)
  |2,hbad=>exact hbad _ (aput_len _) (by decide) rfl (by
    show goN s false (rqM 2::l.map rqM) askZ o=_;rw[goN_bad (by rw[ofM2];decide),ofM2];rfl)
  |m+3,_=>
   have hm:¬m+3<3:=by omega
   have c1:cntM ((m+3)::l)=1+cntM l:=by show(if m+3<3 then 0 else 1)+cntM l=_;rw[if_neg hm]
   have o1:outsM (j:Int) ((m+3)::l)=aputN (b200 j) false++outsM ((j+1:Nat):Int) l:=by show puM (j:Int) (m+3)++outsM (if m+3<3 then(j:Int) else(j:Int)+1) l=_;rw[if_neg hm];rfl
   rw[c1] at hN⊢;obtain⟨N,rfl⟩:∃k,N=k+1:=⟨N-1,by omega⟩
   have hr:rqM (m+3)=rqM 3:=rfl;have h0:(ofN (rqM 3)).2=0:=by rw[ofM3]
   have hb:(ofN (rqM 3)).1.2.2.2.2.2.2.2.2.2.1=false:=by rw[ofM3]
   have hk:(ofN (rqM 3)).1.2.1=[107]:=by rw[ofM3]
   have hll:(l.map rqM).length=l.length:=List.length_map ..;have hz:(aputN (b200 j) false).length≤30000:=aput_len _;obtain⟨d1,d2⟩:=done_ok (s:=s) (r:=rqM 3) (w:=l.map rqM) (o:=o) (n:=b200 j) h0 (mayB200 j) (putB200 j) (fun x hx=>by obtain⟨y, -,rfl⟩:=List.mem_map.1 hx;exact ofP_M y) (by rw[hll];omega) (by rw[hll];omega)
   rw[hb] at d2;rw[show((m+3)::l).map rqM=rqM 3::l.map rqM from rfl,o1];rw[goN_good h0] at d1 d2⊢;rw[efo_1];unfold foStep1;rw[cdT (by omega),d2];dsimp only;rw[hk,beq_self_eq_true,Bool.not_true,xF,xT,gdT (inK_i64.2 ⟨by omega,by omega⟩),gdB d1,gdT (inK_i64.2 ⟨by omega,by omega⟩),xG];have:=fo1_l hs l (j+1) N (o++aputN (b200 j) false) (by omega) (by rw[List.length_append];omega) (by omega)
   rw[List.append_assoc,show(j+1+cntM l:Nat)=j+(1+cntM l) by omega] at this;simp only[Int.natCast_add,Int.natCast_one] at this⊢;exact this
def msF (ks:List Int) (i r:Nat):List Nat:=((ks.drop i).take r).map fun k=>(mdI k).toNat
theorem fo0_l {ks:List Int} (r:Nat):∀(i N:Nat) (t W:List UInt8) (n:Nat),i+r=8→r+20<N→t.length≤26*i→W.length≤30000*i→n≤i→
  (∀(M:Nat) (T O:List UInt8) (c:Nat),10<M→T=t++txtM (msF ks i r)→O=W++outsM (n:Int) (msF ks i r)→c=n+cntM (msF ks i r)→gd [ffeedP frontZ T] (hfo1 M (ffeedF frontZ T) O (c:Int) 0)=bO true)→hfo0 N ks frontZ t W (n:Int) (i:Int)=bO true:=by
 induction r with
 |zero=>
  intro i N t W n hi hN ht hW hn hend;obtain⟨N,rfl⟩:∃k,N=k+1:=⟨N-1,by omega⟩
  have e:msF ks i 0=[]:=by unfold msF;rw[List.take_zero];rfl
  rw[e] at hend;have:=hend N t W n (by omega) (List.append_nil t).symm (List.append_nil W).symm rfl;rw[efo_0];unfold foStep0;by_cases h:(i:Int)<(ks.length:Int)
  ·rw[cdT h,cdF (by omega)];exact this
  ·rw[cdF h];exact this
 |succ r ih=>
  intro i N t W n hi hN ht hW hn hend;obtain⟨N,rfl⟩:∃k,N=k+1:=⟨N-1,by omega⟩
  rw[efo_0];unfold foStep0;by_cases h:(i:Int)<(ks.length:Int)
  ·have hi':i<ks.length:=by omega
   have hd:msF ks i (r+1)=(mdI (ks.getD i (IT).dflt)).toNat::msF ks (i+1) r:=by
    unfold msF;rw[List.drop_eq_getElem_cons hi',List.take_succ_cons,List.map_cons,List.getD_eq_getElem?_getD,List.getElem?_eq_getElem hi'];rfl
   rw[hd] at hend;rw[cdT h,cdT (by omega),show(i:Int).toNat=i from rfl];generalize ks.getD i (IT).dflt=k at hend⊢;obtain⟨m0,m1,m2,m3⟩:=md_lt k;have e1:((i+1:Nat):Int)=(i:Int)+1:=by omega
   rw[gdT (inK_i64.2 ⟨by omega,by omega⟩),gdT hi',gdT (by omega),gdT h,xG];have z0:(aputN (ansT 404) false).length≤30000:=aput_len _;have z1:(aputN (ansT 400) true).length≤30000:=aput_len _;have z2:(aputN (ansT 405) false).length≤30000:=aput_len _;have z3:(aputN (b200 n) false).length≤30000:=aput_len _
   by_cases q0:mdI k=0
   ·rw[show(mdI k==0)=true from beq_iff_eq.2 q0,xT];unfold foPut;rw[gdT (inK_i64.2 ⟨by omega,by omega⟩),gdT (by omega),gdB (aputP0 404 []),gdT (by omega),xG,←e1];rw[q0] at hend;refine ih (i+1) N _ _ n (by omega) (by omega) (by rw[List.length_append];have:=txM_ne 0;omega) (by rw[List.length_append];omega) (by omega) fun M T O c hM hT hO hc=>hend M T O c hM (hT.trans (List.append_assoc ..)) (hO.trans (List.append_assoc ..)) (hc.trans ?_)
    show n+cntM (msF ks (i+1) r)=n+(0+cntM (msF ks (i+1) r));omega
   rw[beq_eq_false_iff_ne.2 q0,xF];by_cases q1:mdI k=1
   ·rw[show(mdI k==1)=true from beq_iff_eq.2 q1,xT];unfold foPut;rw[gdT (inK_i64.2 ⟨by omega,by omega⟩),gdT (by omega),gdB (aputP0 400 []),gdT (by omega),xG,←e1];rw[q1] at hend;refine ih (i+1) N _ _ n (by omega) (by omega) (by rw[List.length_append];have:=txM_ne 1;omega) (by rw[List.length_append];omega) (by omega) fun M T O c hM hT hO hc=>hend M T O c hM (hT.trans (List.append_assoc ..)) (hO.trans (List.append_assoc ..)) (hc.trans ?_)
    show n+cntM (msF ks (i+1) r)=n+(0+cntM (msF ks (i+1) r));omega
   rw[beq_eq_false_iff_ne.2 q1,xF];by_cases q2:mdI k=2
   ·rw[show(mdI k==2)=true from beq_iff_eq.2 q2,xT];unfold foPut;rw[gdT (inK_i64.2 ⟨by omega,by omega⟩),gdT (by omega),gdB (aputP0 405 []),gdT (by omega),xG,←e1];rw[q2] at hend;refine ih (i+1) N _ _ n (by omega) (by omega) (by rw[List.length_append];have:=txM_ne 2;omega) (by rw[List.length_append];omega) (by omega) fun M T O c hM hT hO hc=>hend M T O c hM (hT.trans (List.append_assoc ..)) (hO.trans (List.append_assoc ..)) (hc.trans ?_)
    show n+cntM (msF ks (i+1) r)=n+(0+cntM (msF ks (i+1) r));omega
   rw[beq_eq_false_iff_ne.2 q2,xF];have q3:mdI k=3:=by omega
   rw[q3] at hend;have e2:((n+1:Nat):Int)=(n:Int)+1:=by omega
   rw[gdT (inK_i64.2 ⟨by omega,by omega⟩),gdT (inK_i64.2 ⟨by omega,by omega⟩),gdT (by omega),gdB (putB200 n),gdT (inK_i64.2 ⟨by omega,by omega⟩),gdT (by omega),xG,←e1,←e2];refine ih (i+1) N _ _ (n+1) (by omega) (by omega) (by rw[List.length_append];have:lineG.length=21:=rfl;omega) (by rw[List.length_append];omega) (by omega) fun M T O c hM hT hO hc=>hend M T O c hM (hT.trans (List.append_assoc ..)) (hO.trans (List.append_assoc ..)) (hc.trans ?_)
   show n+1+cntM (msF ks (i+1) r)=n+(1+cntM (msF ks (i+1) r));omega
  ·have e:msF ks i (r+1)=[]:=by unfold msF;rw[List.drop_eq_nil_of_le (by omega)];rfl
   rw[e] at hend;rw[cdF h];exact hend N t W n (by omega) (List.append_nil t).symm (List.append_nil W).symm rfl
theorem cntM_le:∀l:List Nat,cntM l≤l.length
 |[]=>Nat.le_refl _
 |m::l=>by
  have:=cntM_le l;show(if m<3 then 0 else 1)+cntM l≤l.length+1
  split<;>omega
theorem fo_n (ks:List Int):ofo (ks,())=some (true,()):=by
 rw[ofo_g,efo_g];have hl:(msF ks 0 8).length≤8:=by unfold msF;rw[List.length_map,List.length_take];omega
 have ht:=txtM_len (msF ks 0 8);have hf:=feed_inv (t:=[]) (b:=txtM (msF ks 0 8)) FInv0 (by rw[List.nil_append];omega);rw[List.nil_append] at hf;obtain⟨f1,s,f2,f3, -⟩:=hf;obtain⟨h1,h2, -⟩:=scan_outs (txtM (msF ks 0 8));rw[scan_M _ _ (Nat.lt_succ_self _)] at h1 h2;refine fo0_l 8 0 heads0 [] [] 0 rfl (by unfold heads0;omega) (Nat.le_refl 0) (Nat.le_refl 0) (Nat.le_refl 0) fun M T O c hM hT hO hc=> ?_
 have hT:T=txtM (msF ks 0 8):=hT;have hO:O=[]++outsM ((0:Nat):Int) (msF ks 0 8):=hO;subst hT;have h2:outX (mX (txtM (msF ks 0 8)))=(msF ks 0 8).map rqM:=h2;rw[gdB f1,xG,f2,h2,hO,hc];have hc:=cntM_le (msF ks 0 8);exact fo1_l (f3.trans h1) (msF ks 0 8) 0 M [] (by omega) (by show 0≤_;omega) (by omega)
theorem fo_c:PC 7 (ofO [.slice IT] [.bool] ofo):=pureO (sh:=shOf shFO) (envO_ok (l:=[(12,trueS),(33,aputS)]) (o:=[(30,newS),(31,ffeedS),(34,asksS),(38,doneS),(39,foutS)]) ⟨begun19_c,rput_c,trivial⟩ ⟨new_c,ffeed_c,asks_c,done_c,fout_c,trivial⟩) gl_ne Tryz.func7 (by kernel_rfl) (by decide)
theorem lawFO_run {w:World} (hgl:GlW glC w) {args:Array Value} {x:DenL [.slice IT]} (hx:RdAll (fzW w) [.slice IT] x args.toList) (hb:BdL [.slice IT] x):Calls Tryz.prog 7 args w fun e w'=>e=.returned (.bool true)∧Same w w':=
 law_calls fo_c (fun x hb=>by
  obtain⟨ks,⟨⟩⟩:=x;have:=fo_n ks;exact⟨by show(ofo (ks,())).isSome=true;rw[this];rfl,by show(ofo (ks,())).getD _=_;rw[this];rfl⟩) hgl hx hb
end Go.Proofs.YtldllfocpadkeaaGreatDoor
