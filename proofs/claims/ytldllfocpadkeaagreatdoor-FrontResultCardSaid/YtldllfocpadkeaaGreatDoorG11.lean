/-
  Part of the proof: RGet FrR LawFR. No condition.
-/
import Derived.Test.YtldllfocpadkeaaGreatDoorG10
import Derived.Test.YtldllfocpadkeaaGreatDoorG9
import Derived.Test.YtldllfocpadkeaaGreatDoorG8
import Derived.Test.YtldllfocpadkeaaGreatDoorG7
import Derived.Test.YtldllfocpadkeaaGreatDoorG3
set_option maxRecDepth 1000000
namespace Nice
open Go Go.Eng
def plF (key:List UInt8):List EntD→Nat→Int×Bool
 |[],i=>((i:Int),false)
 |e::r,i=>bif Op.bytesLess e.1 key then plF key r (i+1) else((i:Int),e.1==key)
def ratF (n:Int):List VerD→Nat→Int×Bool
 |[],_=>(0,false)
 |v::r,i=>bif v.1==n then((i:Int),true) else ratF n r (i+1)
def rgetKN (e:EntD) (n:Int):VerD×Int:=bif n !=0 then getE (vAt e.2.1 (ratF n e.2.1 0).1) (ratF n e.2.1 0).2 else getE (nowN e).1 true
def rgetGN (s:StD) (key:List UInt8) (n:Int):VerD×Int:=bif (plF key s.2.1 0).2 then rgetKN (eAt s.2.1 (plF key s.2.1 0).1) n else(verZ,6)
noncomputable def rplS:PSpec:=⟨[StT,.str],[IT,.bool],fun x=>decide (x.1.2.1.length≤1000000),fun x=>((plF x.2.1 x.1.2.1 0).1,(plF x.2.1 x.1.2.1 0).2,())⟩
noncomputable def ratS:PSpec:=⟨[EntT,IT],[IT,.bool],fun x=>entOK x.1,fun x=>((ratF x.2.1 x.1.2.1 0).1,(ratF x.2.1 x.1.2.1 0).2,())⟩
noncomputable def rgetS:PSpec:=⟨[StT,.str,IT],[VerT,IT],fun x=>stOKG x.1,fun x=>((rgetGN x.1 x.2.1 x.2.2.1).1,(rgetGN x.1 x.2.1 x.2.2.1).2,())⟩
abbrev PO2:=Option (DenL [IT,.bool])
noncomputable def plE (l:List EntD) (i:Int) (key:List UInt8):PO2:=bif decide (i<(l.length:Int)) then(bif (eAt l i).1==key then gd (gX l i) (some (i,true,())) else gd (gX l i) (some (i,false,()))) else some (i,false,())
noncomputable def plStep (l:List EntD) (i:Int) (key:List UInt8) (nx:PO2):PO2:=bif decide (i<(l.length:Int)) then(bif Op.bytesLess (eAt l i).1 key then gd (decide (inK .i64 (i+1))::gX l i) nx else gd (gX l i) (plE l i key)) else plE l i key
noncomputable def ratStep (vs:List VerD) (i n:Int) (nx:PO2):PO2:=bif decide (i<(vs.length:Int)) then(bif (vAt vs i).1==n then gd (gX vs i) (some (i,true,())) else gd (decide (inK .i64 (i+1))::gX vs i) nx) else some (0,false,())
noncomputable def rgX (l:List EntD) (P:Int) (e:EntD) (n:Int):VO:=gd (decide (e.2.1.length≤140737488355328)::gX l P) (bif n !=0 then(bif (ratF n e.2.1 0).2 then gd (gX e.2.1 (ratF n e.2.1 0).1++(gX l P++entOK (e.1,e.2.1,())::gX l P)) (gtO (vAt e.2.1 (ratF n e.2.1 0).1)) else gd (entOK (e.1,e.2.1,())::gX l P) (some (verZ,6,()))) else gtO (nowN e).1)
noncomputable def rgT (l:List EntD) (key:List UInt8) (n:Int):VO:=bif (plF key l 0).2 then gd [decide (l.length≤1000000)] (bif (nowN (eAt l (plF key l 0).1)).2 then rgX l (plF key l 0).1 (eAt l (plF key l 0).1) n else rgX l (plF key l 0).1 (eAt l (plF key l 0).1) n) else gd [decide (l.length≤1000000)] (some (verZ,6,()))
end Nice
namespace Go.Proofs.YtldllfocpadkeaaGreatDoor
open Go Go.Eng Nice
abbrev shPl:List (Nat×List (Nat×Sh)):=[(2,[(1,.one .sym),(2,.obj [.sym,.dat EntT,.dat MemoT,.sym,.sym,.sym,.sym,.sym]),(6,.one .sym)])]
abbrev shAtR:List (Nat×List (Nat×Sh)):=[(2,[(1,.one .sym),(2,.obj [.sym,.dat VerT]),(6,.one .sym)])]
noncomputable def hpl (N:Nat) (s:StD) (key:List UInt8) (i:Int):PO2:=rH Tryz.prog (envS []) (shOf shPl) Tryz.f108 [IT,.bool] N 0 [(1,sy (.string (bs key))),(2,.pointer (some ⟨12,0,none⟩)),(6,sy (.int .i64 i))] [.dat EntT s.2.1,.dat MemoT s.2.2.1,.row [sy (.int .i64 s.1),dt 10,dt 11,sy (.int .i64 s.2.2.2.1.1),sy (.int .i64 s.2.2.2.1.2.1),sy (.int .i64 s.2.2.2.1.2.2.1),sy (.int .i64 s.2.2.2.1.2.2.2.1),sy (.int .i64 s.2.2.2.1.2.2.2.2.1)] 26 false]
noncomputable def hat (N:Nat) (key:List UInt8) (vs:List VerD) (n i:Int):PO2:=rH Tryz.prog (envS []) (shOf shAtR) Tryz.f109 [IT,.bool] N 0 [(1,sy (.int .i64 n)),(2,.pointer (some ⟨11,0,none⟩)),(6,sy (.int .i64 i))] [.dat VerT vs,.row [sy (.string (bs key)),dt 10] 44 false]
noncomputable def opl (x:DenL [StT,.str]):PO2:=fO Tryz.prog (envS []) (shOf shPl) Tryz.f108 [StT,.str] [IT,.bool] x
noncomputable def oat (x:DenL [EntT,IT]):PO2:=fO Tryz.prog (envS []) (shOf shAtR) Tryz.f109 [EntT,IT] [IT,.bool] x
theorem opl_g (x:DenL [StT,.str]):opl x=fON Tryz.prog (envS []) (shOf shPl) Tryz.f108 [StT,.str] [IT,.bool] heads0 x:=rfl
theorem oat_g (x:DenL [EntT,IT]):oat x=fON Tryz.prog (envS []) (shOf shAtR) Tryz.f109 [EntT,IT] [IT,.bool] heads0 x:=rfl
theorem epl_g (N:Nat) (q:Int) (l:List EntD) (m:List MemoD) (a b c d e:Int) (key:List UInt8):fON Tryz.prog (envS []) (shOf shPl) Tryz.f108 [StT,.str] [IT,.bool] N ((q,l,m,(a,b,c,d,e,()),()),key,())=hpl N (q,l,m,(a,b,c,d,e,()),()) key 0:=by kernel_rfl
theorem epl_0 (N:Nat) (s:StD) (key:List UInt8) (i:Int):hpl (N+1) s key i=plStep s.2.1 i key (hpl N s key (i+1)):=by kernel_rfl
theorem eat_g (N:Nat) (key:List UInt8) (vs:List VerD) (n:Int):fON Tryz.prog (envS []) (shOf shAtR) Tryz.f109 [EntT,IT] [IT,.bool] N ((key,vs,()),n,())=hat N key vs n 0:=by kernel_rfl
theorem eat_0 (N:Nat) (key:List UInt8) (vs:List VerD) (n i:Int):hat (N+1) key vs n i=ratStep vs i n (hat N key vs n (i+1)):=by kernel_rfl
noncomputable def orget (x:DenL [StT,.str,IT]):VO:=fO Tryz.prog (envS [(108,rplS),(43,nowS),(109,ratS)]) (shOf []) Tryz.f63 [StT,.str,IT] [VerT,IT] x
theorem erget (q:Int) (l:List EntD) (m:List MemoD) (a b c d e:Int) (key:List UInt8) (n:Int):orget ((q,l,m,(a,b,c,d,e,()),()),key,n,())=rgT l key n:=by kernel_rfl
theorem pl_l {s:StD} {key:List UInt8} (hl:s.2.1.length≤1000000):∀(L:List EntD) (i N:Nat),s.2.1.drop i=L→i+L.length=s.2.1.length→L.length<N→hpl N s key (i:Int)=some ((plF key L i).1,(plF key L i).2,())
 |[],i,N,hd,hi,hN=>by
  obtain⟨N,rfl⟩:∃k,N=k+1:=⟨N-1,by omega⟩
  simp only[List.length_nil] at hi;rw[epl_0];unfold plStep plE;rw[cdF (by omega),cdF (by omega)];rfl
 |e::r,i,N,hd,hi,hN=>by
  simp only[List.length_cons] at hi hN;obtain⟨N,rfl⟩:∃k,N=k+1:=⟨N-1,by omega⟩
  have hi':i<s.2.1.length:=by omega
  have hd2:=List.drop_eq_getElem_cons hi';rw[hd] at hd2;have he:eAt s.2.1 (i:Int)=e:=by
   show s.2.1.getD i _=e;rw[List.getD_eq_getElem?_getD,List.getElem?_eq_getElem hi'];exact(List.cons.inj hd2).1.symm
  have hw:s.2.1.drop (i+1)=r:=(List.cons.inj hd2).2.symm;have ih:=pl_l (key:=key) hl r (i+1) N hw (by omega) (by omega);rw[epl_0];unfold plStep plF;rw[cdT (by omega),he];cases Op.bytesLess e.1 key
  ·rw[xF,xF,gX_ok0 hi'];unfold plE;rw[cdT (by omega),he,gX_ok0 hi',gX_ok0 hi'];cases e.1==key<;>rfl
  ·rw[xT,xT,gX_ok1 hi' (decide_eq_true (inK_i64.2 ⟨by omega,by omega⟩))];exact ih
theorem rpl_c:PC 108 rplS:=(pureO (sh:=shOf shPl) (envS_ok (l:=[]) trivial) gl_ne Tryz.func108 (by kernel_rfl) (by decide)).nice fun⟨⟨q,l,m,⟨a,b,c,d,e,()⟩,()⟩,key,()⟩ h=>by
 have h:l.length≤1000000:=of_decide_eq_true h;show opl _=_;rw[opl_g,epl_g];exact pl_l (s:=(q,l,m,(a,b,c,d,e,()),())) h l 0 heads0 rfl (Nat.zero_add _) (Nat.lt_of_le_of_lt h (by unfold heads0;omega))
theorem at_l {key:List UInt8} {vs:List VerD} {n:Int} (hl:vs.length≤1000000):∀(L:List VerD) (i N:Nat),vs.drop i=L→i+L.length=vs.length→L.length<N→hat N key vs n (i:Int)=some ((ratF n L i).1,(ratF n L i).2,())
 |[],i,N,hd,hi,hN=>by
  obtain⟨N,rfl⟩:∃k,N=k+1:=⟨N-1,by omega⟩
  simp only[List.length_nil] at hi;rw[eat_0];unfold ratStep;rw[cdF (by omega)];rfl
 |e::r,i,N,hd,hi,hN=>by
  simp only[List.length_cons] at hi hN;obtain⟨N,rfl⟩:∃k,N=k+1:=⟨N-1,by omega⟩
  have hi':i<vs.length:=by omega
  have hd2:=List.drop_eq_getElem_cons hi';rw[hd] at hd2;have he:vAt vs (i:Int)=e:=by
   show vs.getD i _=e;rw[List.getD_eq_getElem?_getD,List.getElem?_eq_getElem hi'];exact(List.cons.inj hd2).1.symm
  have hw:vs.drop (i+1)=r:=(List.cons.inj hd2).2.symm;have ih:=at_l (key:=key) (n:=n) hl r (i+1) N hw (by omega) (by omega);rw[eat_0];unfold ratStep ratF;rw[cdT (by omega),he];cases e.1==n
  ·rw[xF,xF,gX_ok1 hi' (decide_eq_true (inK_i64.2 ⟨by omega,by omega⟩))];exact ih
  ·rw[xT,xT,gX_ok0 hi']
theorem rat_c:PC 109 ratS:=(pureO (sh:=shOf shAtR) (envS_ok (l:=[]) trivial) gl_ne Tryz.func109 (by kernel_rfl) (by decide)).nice fun⟨⟨key,vs,()⟩,n,()⟩ h=>by
 have h:vs.length≤1000000:=of_decide_eq_true h;show oat _=_;rw[oat_g,eat_g];exact at_l h vs 0 heads0 rfl (Nat.zero_add _) (Nat.lt_of_le_of_lt h (by unfold heads0;omega))
theorem plF_at (key:List UInt8):∀(l:List EntD) (i:Nat),(plF key l i).2=true→∃k:Nat,(plF key l i).1=((i+k:Nat):Int)∧k<l.length
 |[],i,h=>by cases h
 |e::r,i,h=>by
  unfold plF at h⊢;cases hb:Op.bytesLess e.1 key
  ·rw[xF];exact⟨0,rfl,by rw[List.length_cons];omega⟩
  ·rw[hb,xT] at h;obtain⟨k,h1,h2⟩:=plF_at key r (i+1) h;rw[xT];exact⟨k+1,by rw[h1,show i+1+k=i+(k+1) by omega],by rw[List.length_cons];omega⟩
theorem ratF_at (n:Int):∀(l:List VerD) (i:Nat),(ratF n l i).2=true→∃k:Nat,(ratF n l i).1=((i+k:Nat):Int)∧k<l.length
 |[],i,h=>by cases h
 |e::r,i,h=>by
  unfold ratF at h⊢;cases hb:e.1==n
  ·rw[hb,xF] at h;obtain⟨k,h1,h2⟩:=ratF_at n r (i+1) h;rw[xF];exact⟨k+1,by rw[h1,show i+1+k=i+(k+1) by omega],by rw[List.length_cons];omega⟩
  ·rw[xT];exact⟨0,rfl,by rw[List.length_cons];omega⟩
theorem rgX_n {l:List EntD} {i:Nat} {e:EntD} {n:Int} (hi:i<l.length) (he:e.2.1.length≤1000000):rgX l (i:Int) e n=some ((rgetKN e n).1,(rgetKN e n).2,()):=by
 have ho:entOK (e.1,e.2.1,())=true:=decide_eq_true he;unfold rgX rgetKN;rw[gX_ok1 hi (decide_eq_true (by omega))];cases n !=0
 ·rw[xF,xF];exact gtE (is:=true)
 ·rw[xT,xT];cases hr:(ratF n e.2.1 0).2
  ·rw[xF,gX_ok1 hi ho];rfl
  ·obtain⟨k,h1,h2⟩:=ratF_at n e.2.1 0 hr;rw[Nat.zero_add] at h1;rw[xT,h1,show gX e.2.1 (k:Int)++(gX l (i:Int)++entOK (e.1,e.2.1,())::gX l (i:Int))=(gX e.2.1 (k:Int)++gX l (i:Int)++[entOK (e.1,e.2.1,())])++gX l (i:Int) from by simp only[List.append_assoc,List.cons_append,List.nil_append],gX_ok hi];rw[show gX e.2.1 (k:Int)++gX l (i:Int)++[entOK (e.1,e.2.1,())]=decide ((k:Int).toNat<e.2.1.length)::decide (0≤(k:Int))::decide ((k:Int)<(e.2.1.length:Int))::decide ((i:Int).toNat<l.length)::decide (0≤(i:Int))::decide ((i:Int)<(l.length:Int))::[entOK (e.1,e.2.1,())] from rfl,
    gdT (by omega),gdT (by omega),gdT (by omega),gdT (by omega),gdT (by omega),gdT (by omega),gdB ho,xG]
   exact gtE (is:=true)
theorem rget_n {s:StD} {key:List UInt8} {n:Int} (h:stOKG s=true):rgT s.2.1 key n=some ((rgetGN s key n).1,(rgetGN s key n).2,()):=by
 unfold stOKG at h;rw[Bool.and_eq_true,decide_eq_true_eq] at h;unfold rgT rgetGN;rw[gdT h.1,gdT h.1,xG,xG];cases hp:(plF key s.2.1 0).2
 ·rfl
 ·obtain⟨k,e,hk⟩:=plF_at key s.2.1 0 hp;rw[Nat.zero_add] at e;have hm:eAt s.2.1 (k:Int)∈s.2.1:=by
   show s.2.1.getD k _∈s.2.1;rw[List.getD_eq_getElem?_getD,List.getElem?_eq_getElem hk];exact List.getElem_mem hk
  rw[e,rgX_n hk (of_decide_eq_true (List.all_eq_true.1 h.2 _ hm)),xT,xT];cases(nowN (eAt s.2.1 (k:Int))).2<;>rfl
theorem rget_c:PC 63 rgetS:=(pureO (envS_ok (l:=[(108,rplS),(43,nowS),(109,ratS)]) ⟨rpl_c,rnow_c,rat_c,trivial⟩) gl_ne Tryz.func63 (by kernel_rfl) (by decide)).nice fun⟨⟨q,l,m,⟨a,b,c,d,e,()⟩,()⟩,key,n,()⟩ h=>
 (erget q l m a b c d e key n).trans (rget_n (s:=(q,l,m,(a,b,c,d,e,()),())) h)
end Go.Proofs.YtldllfocpadkeaaGreatDoor
set_option maxRecDepth 1000000
namespace Nice
open Go Go.Eng
abbrev AnO:=Option (DenL [AnsT])
def an0 (n:Int):AnsD:=(n,[],[],())
def numH (t:List UInt8):HeadDW:=([86,101,114,115,105,111,110],t,())
def etagH (b:List UInt8):HeadDW:=([69,84,97,103],[34]++tagN b++[34],())
def ctH:HeadDW:=([67,111,110,116,101,110,116,45,84,121,112,101],[97,112,112,108,105,99,97,116,105,111,110,47,120,109,108],())
noncomputable def numHS:PSpec:=⟨[IT],[HeadT],fun x=>i64P x.1,fun x=>(numH (fmtN x.1),())⟩
noncomputable def etagS:PSpec:=⟨[.str],[HeadT],fun x=>bndS x.1,fun x=>(etagH x.1,())⟩
def resG (er:Int) (g:AnsD):AnsD:=bif er==0 then g else bif er==9 then an0 412 else bif er==6 then an0 404 else bif er==5 then an0 507 else an0 503
def wrN (t:List UInt8) (kd:Int) (bo:List UInt8) (er:Int):AnsD:=
 bif kd !=2 then(bif kd !=3 then an0 0 else resG er (bif kd==2 then(200,[numH t,etagH bo],[],()) else(200,[numH t],[],()))) else resG er (bif kd==2 then(200,[numH t,etagH bo],[],()) else(200,[numH t],[],()))
noncomputable def wrS:PSpec:=⟨[AskT,ResT],[AnsT],fun x=>i64P x.2.1.2.1&&bndS x.1.2.2.2.1,fun x=>(wrN (fmtN x.2.1.2.1) x.1.1 x.1.2.2.2.1 x.2.1.1,())⟩
noncomputable def rwrS:PSpec:=⟨[AskT,ResT],[AnsT],fun x=>i64P x.2.1.2.1&&bndS x.1.2.2.2.1,fun x=>(wrN (digits x.2.1.2.1) x.1.1 x.1.2.2.2.1 x.2.1.1,())⟩
noncomputable def aO (a:AnsD):AnO:=some (a,())
noncomputable def rsE (er:Int) (g:AnO):AnO:=bif er==0 then g else bif er==9 then aO (an0 412) else bif er==6 then aO (an0 404) else bif er==5 then aO (an0 507) else aO (an0 503)
noncomputable def rsT (kd er:Int) (g:AnO):AnO:=bif kd !=2 then(bif kd !=3 then aO (an0 0) else rsE er g) else rsE er g
abbrev tgL (bo:List UInt8):List Bool:=[decide (([34]++tagN bo).length+1≤1099511627776),decide (1+(tagN bo).length≤1099511627776),bndS bo]
noncomputable def rsG1 (kd:Int) (bo:List UInt8) (ver:Int):AnO:=gd [i64P ver] (bif kd==2 then gd [bndS bo] (aO (200,[numH (fmtN ver),etagH bo],[],())) else aO (200,[numH (fmtN ver)],[],()))
noncomputable def rsG2 (kd:Int) (bo:List UInt8) (ver:Int):AnO:=gd [i64P ver] (bif kd==2 then gd (tgL bo) (aO (200,[numH (digits ver),etagH bo],[],())) else aO (200,[numH (digits ver)],[],()))
def fndG (t:List UInt8) (v:VerD) (er:Int) (sh:ShD) (kd:Int):AnsD:=bif kd==1 then(bif er !=0 then an0 404 else(200,[etagH v.2.2.1,numH t],v.2.2.1,())) else bif kd==4 then(200,[ctH],sputN sh,()) else bif kd==5 then(200,[ctH],sputN sh,()) else an0 0
def fndN (a:AskD) (s:StD):AnsD:=fndG (fmtN (getGN s a.2.1 a.2.2.1).1.1) (getGN s a.2.1 a.2.2.1).1 (getGN s a.2.1 a.2.2.1).2 (leafN s a) a.1
def rfndN (a:AskD) (s:StD):AnsD:=fndG (digits (rgetGN s a.2.1 a.2.2.1).1.1) (rgetGN s a.2.1 a.2.2.1).1 (rgetGN s a.2.1 a.2.2.1).2 (leafB s a) a.1
def fndP (a:AskD) (s:StD):Bool:=stOKG s&&(bndS (getGN s a.2.1 a.2.2.1).1.2.2.1&&(i64P (getGN s a.2.1 a.2.2.1).1.1&&(leafP s a&&smayP (leafN s a))))
def rfndP (a:AskD) (s:StD):Bool:=stOKG s&&(bndS (rgetGN s a.2.1 a.2.2.1).1.2.2.1&&(i64P (rgetGN s a.2.1 a.2.2.1).1.1&&(pageP s&&smayP (leafB s a))))
noncomputable def fndS:PSpec:=⟨[AskT,StT],[AnsT],fun x=>fndP x.1 x.2.1,fun x=>(fndN x.1 x.2.1,())⟩
noncomputable def rfndS:PSpec:=⟨[AskT,StT],[AnsT],fun x=>rfndP x.1 x.2.1,fun x=>(rfndN x.1 x.2.1,())⟩
noncomputable def fdT (kd:Int) (g1 g4:AnO):AnO:=bif kd==1 then g1 else bif kd==4 then g4 else bif kd==5 then g4 else aO (an0 0)
noncomputable def fd1 (s:StD) (x:VerD×Int):AnO:=gd [stOKG s] (bif x.2 !=0 then aO (an0 404) else gd [i64P x.1.1,bndS x.1.2.2.1] (aO (200,[etagH x.1.2.2.1,numH (fmtN x.1.1)],x.1.2.2.1,())))
noncomputable def fd2 (s:StD) (x:VerD×Int):AnO:=gd [stOKG s] (bif x.2 !=0 then aO (an0 404) else gd (i64P x.1.1::tgL x.1.2.2.1) (aO (200,[etagH x.1.2.2.1,numH (digits x.1.1)],x.1.2.2.1,())))
noncomputable def fd4 (p:Bool) (sh:ShD):AnO:=gd [smayP sh,p] (aO (200,[ctH],sputN sh,()))
end Nice
namespace Go.Proofs.YtldllfocpadkeaaGreatDoor
open Go Go.Eng Nice
noncomputable def onumH (x:DenL [IT]):Option (DenL [HeadT]):=fO Tryz.prog (envS [(80,fmtIS)]) (shOf []) Tryz.f57 [IT] [HeadT] x
theorem enumH (n:Int):onumH (n,())=gd [i64P n&&((10:Int)==10)] (some (numH (fmtN n),())):=by kernel_rfl
theorem num_c:PC 57 numHS:=(pureO (envS_ok (l:=[(80,fmtIS)]) ⟨fmtI_c,trivial⟩) gl_ne Tryz.func57 (by kernel_rfl) (by decide)).nice fun⟨n,()⟩ h=>by
 refine(enumH n).trans ?_;have h:i64P n=true:=h;rw[h];rfl
noncomputable def oetagH (x:DenL [.str]):Option (DenL [HeadT]):=fO Tryz.prog (envS [(99,gtagS)]) (shOf []) Tryz.f58 [.str] [HeadT] x
theorem eetagH (n:List UInt8):oetagH (n,())=gd (tgL n) (some (etagH n,())):=by kernel_rfl
theorem tgL_ok {α:Type} {n:List UInt8} (h:bndS n=true) (y:Option α):gd (tgL n) y=y:=by
 have e:=tagN_len n;unfold tgL;rw[gdT (by simp only[List.length_append,List.length_cons,List.length_nil];omega),gdT (by omega),gdB h,xG]
theorem etg_c:PC 58 etagS:=(pureO (envS_ok (l:=[(99,gtagS)]) ⟨gtag_c,trivial⟩) gl_ne Tryz.func58 (by kernel_rfl) (by decide)).nice fun⟨n,()⟩ h=>by
 refine(eetagH n).trans ?_;exact tgL_ok h _
noncomputable def oresl (x:DenL [AskT,ResT]):AnO:=fO Tryz.prog (envS [(57,numHS),(58,etagS)]) (shOf []) Tryz.f21 [AskT,ResT] [AnsT] x
theorem eresl (kd:Int) (key:List UInt8) (v:Int) (bo:List UInt8) (co:Int) (t p f:List UInt8) (mx:Int) (ba:Bool) (er ver:Int):oresl ((kd,key,v,bo,co,t,p,f,mx,ba,()),(er,ver,()),())=rsT kd er (rsG1 kd bo ver):=by kernel_rfl
noncomputable def orres (x:DenL [AskT,ResT]):AnO:=fO Tryz.prog (envS [(61,digitsS),(62,tagS)]) (shOf []) Tryz.f24 [AskT,ResT] [AnsT] x
theorem erres (kd:Int) (key:List UInt8) (v:Int) (bo:List UInt8) (co:Int) (t p f:List UInt8) (mx:Int) (ba:Bool) (er ver:Int):orres ((kd,key,v,bo,co,t,p,f,mx,ba,()),(er,ver,()),())=rsT kd er (rsG2 kd bo ver):=by kernel_rfl
noncomputable def ofnd (x:DenL [AskT,StT]):AnO:=fO Tryz.prog (envS [(59,bgetS),(58,etagS),(57,numHS),(16,leafS),(60,sputS)]) (shOf []) Tryz.f22 [AskT,StT] [AnsT] x
theorem efnd (kd:Int) (key:List UInt8) (v:Int) (bo:List UInt8) (co:Int) (t p f:List UInt8) (mx:Int) (ba:Bool) (q:Int) (l:List EntD) (m:List MemoD) (a b c d e:Int):
 ofnd ((kd,key,v,bo,co,t,p,f,mx,ba,()),(q,l,m,(a,b,c,d,e,()),()),())=fdT kd (fd1 (q,l,m,(a,b,c,d,e,()),()) (getGN (q,l,m,(a,b,c,d,e,()),()) key v)) (fd4 (leafP (q,l,m,(a,b,c,d,e,()),()) (kd,key,v,bo,co,t,p,f,mx,ba,())) (leafN (q,l,m,(a,b,c,d,e,()),()) (kd,key,v,bo,co,t,p,f,mx,ba,()))):=by kernel_rfl
noncomputable def orfnd (x:DenL [AskT,StT]):AnO:=fO Tryz.prog (envS [(63,rgetS),(62,tagS),(61,digitsS),(19,rleafS),(64,sputS)]) (shOf []) Tryz.f25 [AskT,StT] [AnsT] x
theorem erfnd (kd:Int) (key:List UInt8) (v:Int) (bo:List UInt8) (co:Int) (t p f:List UInt8) (mx:Int) (ba:Bool) (q:Int) (l:List EntD) (m:List MemoD) (a b c d e:Int):
 orfnd ((kd,key,v,bo,co,t,p,f,mx,ba,()),(q,l,m,(a,b,c,d,e,()),()),())=fdT kd (fd2 (q,l,m,(a,b,c,d,e,()),()) (rgetGN (q,l,m,(a,b,c,d,e,()),()) key v)) (fd4 (pageP (q,l,m,(a,b,c,d,e,()),())) (leafB (q,l,m,(a,b,c,d,e,()),()) (kd,key,v,bo,co,t,p,f,mx,ba,()))):=by kernel_rfl
theorem rs_n {kd er:Int} {t:List UInt8} {bo:List UInt8} {g:AnO} (h:g=(bif kd==2 then aO (200,[numH t,etagH bo],[],()) else aO (200,[numH t],[],()))):rsT kd er g=aO (wrN t kd bo er):=by
 subst h;unfold rsT wrN rsE resG;cases kd !=2<;>cases kd !=3<;>cases er==0<;>cases er==9<;>cases er==6<;>cases er==5<;>cases kd==2<;>rfl
theorem rsG1_n {kd:Int} {bo:List UInt8} {ver:Int} (h1:i64P ver=true) (h2:bndS bo=true):rsG1 kd bo ver=(bif kd==2 then aO (200,[numH (fmtN ver),etagH bo],[],()) else aO (200,[numH (fmtN ver)],[],())):=by
 unfold rsG1;rw[gdB h1,gdB h2,xG,xG]
theorem rsG2_n {kd:Int} {bo:List UInt8} {ver:Int} (h1:i64P ver=true) (h2:bndS bo=true):rsG2 kd bo ver=(bif kd==2 then aO (200,[numH (digits ver),etagH bo],[],()) else aO (200,[numH (digits ver)],[],())):=by
 unfold rsG2;rw[gdB h1,tgL_ok h2,xG]
theorem wr_c:PC 21 wrS:=(pureO (envS_ok (l:=[(57,numHS),(58,etagS)]) ⟨num_c,etg_c,trivial⟩) gl_ne Tryz.func21 (by kernel_rfl) (by decide)).nice fun⟨⟨kd,key,v,bo,co,t,p,f,mx,ba,()⟩,⟨er,ver,()⟩,()⟩ h=>by
 have h:(i64P ver&&bndS bo)=true:=h;rw[Bool.and_eq_true] at h;exact(eresl kd key v bo co t p f mx ba er ver).trans (rs_n (rsG1_n h.1 h.2))
theorem rwr_c:PC 24 rwrS:=(pureO (envS_ok (l:=[(61,digitsS),(62,tagS)]) ⟨digits_c,tag_c,trivial⟩) gl_ne Tryz.func24 (by kernel_rfl) (by decide)).nice fun⟨⟨kd,key,v,bo,co,t,p,f,mx,ba,()⟩,⟨er,ver,()⟩,()⟩ h=>by
 have h:(i64P ver&&bndS bo)=true:=h;rw[Bool.and_eq_true] at h;exact(erres kd key v bo co t p f mx ba er ver).trans (rs_n (rsG2_n h.1 h.2))
theorem fd_n {kd:Int} {t:List UInt8} {v:VerD} {er:Int} {sh:ShD} {g1 g4:AnO} (h1:g1=(bif er !=0 then aO (an0 404) else aO (200,[etagH v.2.2.1,numH t],v.2.2.1,()))) (h4:g4=aO (200,[ctH],sputN sh,())):fdT kd g1 g4=aO (fndG t v er sh kd):=by
 subst h1 h4;unfold fdT fndG;cases kd==1<;>cases kd==4<;>cases kd==5<;>cases er !=0<;>rfl
theorem fnd_c:PC 22 fndS:=(pureO (envS_ok (l:=[(59,bgetS),(58,etagS),(57,numHS),(16,leafS),(60,sputS)]) ⟨bget_c,etg_c,num_c,leaf_c,sput_c,trivial⟩) gl_ne Tryz.func22 (by kernel_rfl) (by decide)).nice fun⟨⟨kd,key,v,bo,co,t,p,f,mx,ba,()⟩,⟨q,l,m,⟨a,b,c,d,e,()⟩,()⟩,()⟩ h=>by
 have h:fndP (kd,key,v,bo,co,t,p,f,mx,ba,()) (q,l,m,(a,b,c,d,e,()),())=true:=h;unfold fndP at h;simp only[Bool.and_eq_true] at h;obtain⟨h1,h2,h3,h4,h5⟩:=h;refine(efnd kd key v bo co t p f mx ba q l m a b c d e).trans (fd_n ?_ ?_)
 ·unfold fd1;rw[gdB h1,xG,gdB h3,gdB h2,xG]
 ·unfold fd4;rw[gdB h5,gdB h4,xG]
theorem rfnd_c:PC 25 rfndS:=(pureO (envS_ok (l:=[(63,rgetS),(62,tagS),(61,digitsS),(19,rleafS),(64,sputS)]) ⟨rget_c,tag_c,digits_c,rleaf_c,rsput_c,trivial⟩) gl_ne Tryz.func25 (by kernel_rfl) (by decide)).nice fun⟨⟨kd,key,v,bo,co,t,p,f,mx,ba,()⟩,⟨q,l,m,⟨a,b,c,d,e,()⟩,()⟩,()⟩ h=>by
 have h:rfndP (kd,key,v,bo,co,t,p,f,mx,ba,()) (q,l,m,(a,b,c,d,e,()),())=true:=h;unfold rfndP at h;simp only[Bool.and_eq_true] at h;obtain⟨h1,h2,h3,h4,h5⟩:=h;refine(erfnd kd key v bo co t p f mx ba q l m a b c d e).trans (fd_n ?_ ?_)
 ·unfold fd2;rw[gdB h1,xG,gdB h3,tgL_ok h2]
 ·unfold fd4;rw[gdB h5,gdB h4,xG]
end Go.Proofs.YtldllfocpadkeaaGreatDoor
set_option maxRecDepth 1000000
namespace Nice
open Go Go.Eng
theorem less_irr:∀a:List UInt8,Op.bytesLess a a=false
 |[]=>rfl
 |x::a=>by
  show(decide (x<x)||(x==x&&Op.bytesLess a a))=false;rw[less_irr a,Bool.and_false,decide_eq_false (UInt8.lt_irrefl x)];rfl
theorem idxF1_none {α:Type} {p:α→Bool}:∀(l:List α) (i:Nat),(∀x,x∈l→p x=false)→idxF1 p l i= -1
 |[],_,_=>rfl
 |y::r,i,h=>by
  unfold idxF1;rw[h y (List.mem_cons_self ..),if_neg (by decide)];exact idxF1_none r (i+1) fun x hx=>h x (List.mem_cons_of_mem _ hx)
theorem pl_idx {key:List UInt8}:∀(l:List EntD) (i:Nat),SrtK l→(idxF1 (fun y:EntD=>y.1==key) l i= -1∧(plF key l i).2=false)∨∃k:Nat,idxF1 (fun y:EntD=>y.1==key) l i=((i+k:Nat):Int)∧k<l.length∧plF key l i=(((i+k:Nat):Int),true)
 |[],_,_=>.inl ⟨rfl,rfl⟩
 |e::r,i,h=>by
  obtain⟨h1,h2⟩:=List.pairwise_cons.1 h;cases hb:Op.bytesLess e.1 key
  ·cases hk:e.1==key
   ·refine .inl ⟨idxF1_none _ _ fun x hx=> ?_,?_⟩
    ·rcases List.mem_cons.1 hx with rfl|hx
     ·exact hk
     ·show(x.1==key)=false;rw[beq_eq_false_iff_ne];intro hxk;have:=h1 x hx;rw[hxk,hb] at this;cases this
    ·unfold plF;rw[hb,xF];exact hk
   ·refine .inr ⟨0,?_,by rw[List.length_cons];omega,?_⟩
    ·unfold idxF1;rw[hk,if_pos rfl];rfl
    ·unfold plF;rw[hb,xF,hk];rfl
  ·have hne:(e.1==key)=false:=by
    rw[beq_eq_false_iff_ne];intro hk;rw[hk,less_irr] at hb;cases hb
   have e1:idxF1 (fun y:EntD=>y.1==key) (e::r) i=idxF1 (fun y:EntD=>y.1==key) r (i+1):=by
    conv=>lhs;unfold idxF1
    rw[hne,if_neg (by decide)]
   have e2:plF key (e::r) i=plF key r (i+1):=by
    conv=>lhs;unfold plF
    rw[hb,xT]
   rw[e1,e2];rcases pl_idx r (i+1) h2 with⟨h3,h4⟩|⟨k,h3,h4,h5⟩
   ·exact .inl ⟨h3,h4⟩
   ·refine .inr ⟨k+1,?_,by rw[List.length_cons];omega,?_⟩
    ·rw[h3,show i+1+k=i+(k+1) by omega]
    ·rw[h5,show i+1+k=i+(k+1) by omega]
theorem rat_idx {n:Int}:∀(l:List VerD) (i:Nat),(idxF1 (fun y:VerD=>y.1==n) l i= -1∧ratF n l i=(0,false))∨∃k:Nat,idxF1 (fun y:VerD=>y.1==n) l i=((i+k:Nat):Int)∧k<l.length∧ratF n l i=(((i+k:Nat):Int),true)
 |[],_=>.inl ⟨rfl,rfl⟩
 |e::r,i=>by
  cases hk:e.1==n
  ·have e1:idxF1 (fun y:VerD=>y.1==n) (e::r) i=idxF1 (fun y:VerD=>y.1==n) r (i+1):=by
    conv=>lhs;unfold idxF1
    rw[hk,if_neg (by decide)]
   have e2:ratF n (e::r) i=ratF n r (i+1):=by
    conv=>lhs;unfold ratF
    rw[hk,xF]
   rw[e1,e2];rcases rat_idx r (i+1) with⟨h3,h4⟩|⟨k,h3,h4,h5⟩
   ·exact .inl ⟨h3,h4⟩
   ·refine .inr ⟨k+1,?_,by rw[List.length_cons];omega,?_⟩
    ·rw[h3,show i+1+k=i+(k+1) by omega]
    ·rw[h5,show i+1+k=i+(k+1) by omega]
  ·refine .inr ⟨0,?_,by rw[List.length_cons];omega,?_⟩
   ·unfold idxF1;rw[hk,if_pos rfl];rfl
   ·unfold ratF;rw[hk,xT];rfl
theorem get_same {s:StD} (hs:SrtK s.2.1) (h1:∀e,e∈s.2.1→1≤e.2.1.length) (key:List UInt8) (n:Int):rgetGN s key n=getGN s key n:=by
 unfold rgetGN getGN;rcases pl_idx (key:=key) s.2.1 0 hs with⟨a,b⟩|⟨k,a,b,c⟩
 ·have a:idxK s.2.1 key= -1:=a;rw[a,b];rfl
 ·have a:idxK s.2.1 key=((0+k:Nat):Int):=a;rw[a,c,cdF (by omega),xT];have hm:eAt s.2.1 ((0+k:Nat):Int)∈s.2.1:=by
   rw[Nat.zero_add];show s.2.1.getD k _∈s.2.1;rw[List.getD_eq_getElem?_getD,List.getElem?_eq_getElem b];exact List.getElem_mem b
  have hl:=h1 _ hm
  revert hl
  generalize eAt s.2.1 ((0+k:Nat):Int)=e;intro hl;unfold rgetKN getKN;by_cases h0:n=0
  ·rw[show(n !=0)=false from by rw[bne_eq_false_iff_eq];exact h0,show(n==0)=true from beq_iff_eq.2 h0,xF,xT,decide_eq_true (by omega)]
  ·rw[show(n !=0)=true from bne_iff_ne.2 h0,beq_eq_false_iff_ne.2 h0,xT,xF];unfold atNV;rcases rat_idx (n:=n) e.2.1 0 with⟨a,b⟩|⟨j,a,b,c⟩
   ·have a:idxV e.2.1 n= -1:=a;rw[a,b];rfl
   ·have a:idxV e.2.1 n=((0+j:Nat):Int):=a;rw[a,c,cdF (by omega)]
theorem get_in {s:StD} (key:List UInt8) (n:Int):(getGN s key n).1=verZ∨∃e,e∈s.2.1∧(getGN s key n).1∈e.2.1:=by
 have hE:∀v is,(getE v is).1=verZ∨(is=true∧(getE v is).1=v):=fun v is=>by
  unfold getE;cases is
  ·exact .inl rfl
  ·cases v.2.1
   ·exact .inr ⟨rfl,rfl⟩
   ·exact .inl rfl
 unfold getGN;rcases idxF1_le (fun y:EntD=>y.1==key) s.2.1 0 with⟨a, -⟩|⟨k,a,b⟩
 ·have a:idxK s.2.1 key= -1:=a;rw[a];exact .inl rfl
 ·have a:idxK s.2.1 key=((0+k:Nat):Int):=a;rw[a,cdF (by omega)];have hm:eAt s.2.1 ((0+k:Nat):Int)∈s.2.1:=by
   rw[Nat.zero_add];show s.2.1.getD k _∈s.2.1;rw[List.getD_eq_getElem?_getD,List.getElem?_eq_getElem b];exact List.getElem_mem b
  revert hm
  generalize eAt s.2.1 ((0+k:Nat):Int)=e;intro hm;unfold getKN;cases n==0
  ·rw[xF];rcases hE (atNV e n).1 (atNV e n).2 with h|⟨h1,h2⟩
   ·exact .inl h
   ·refine .inr ⟨e,hm,?_⟩;rw[h2];unfold atNV at h1⊢;rcases idxF1_le (fun y:VerD=>y.1==n) e.2.1 0 with⟨a, -⟩|⟨j,a,b⟩
    ·have a:idxV e.2.1 n= -1:=a;rw[a] at h1;cases h1
    ·have a:idxV e.2.1 n=((0+j:Nat):Int):=a;rw[a,cdF (by omega),Nat.zero_add];show e.2.1.getD j _∈e.2.1;rw[List.getD_eq_getElem?_getD,List.getElem?_eq_getElem b];exact List.getElem_mem b
  ·rw[xT];rcases hE (nowN e).1 (decide ((e.2.1.length:Int)>0)) with h|⟨h1,h2⟩
   ·exact .inl h
   ·refine .inr ⟨e,hm,?_⟩;have hl:0<e.2.1.length:=by have:=of_decide_eq_true h1;omega
    rw[h2];unfold nowN;rw[show(e.2.1.length==0)=false from beq_eq_false_iff_ne.2 (by omega),xF];show lastV e∈e.2.1;unfold lastV;rw[List.getD_eq_getElem?_getD,List.getElem?_eq_getElem (by omega)];exact List.getElem_mem _
theorem ver_get {s:StD} (h:bmayN s=true) (key:List UInt8) (n:Int):(getGN s key n).1.2.2.1.length≤300∧0≤(getGN s key n).1.1∧(getGN s key n).1.1≤1099511627776:=by
 rcases get_in (s:=s) key n with e|⟨e,he,hv⟩
 ·rw[e];exact⟨Nat.zero_le _,Int.le_refl _,by show(0:Int)≤1099511627776;omega⟩
 ·obtain⟨i,hi,rfl⟩:=List.getElem_of_mem he;have hb:=(bmay_ent h).2 i hi;unfold bEnt at hb;rw[Bool.and_eq_true,entAt_eq hi] at hb;have hv:=riseV_mem _ _ (entB_iff.1 hb.1).1 _ hv;unfold verBW at hv;simp only[Bool.and_eq_true,decide_eq_true_eq] at hv;exact⟨hv.2.2.1,by omega,hv.2.1⟩
theorem head_num {n:Int} (h0:0≤n) (h1:n≤9223372036854775807):headB (numH (fmtN n))=true:=by
 obtain⟨u,rfl⟩:∃u:Nat,n=(u:Int):=⟨n.toNat,by omega⟩
 have hl:(fmtN (u:Int)).length≤19+1:=itoa_len (k:=19) (u:=u) (by omega);have hd:∀c,c∈fmtN (u:Int)→48≤c.toNat∧c.toNat≤57:=itoa_dig u;unfold headB numH;dsimp only;rw[trim_ends,decide_eq_true (by decide),decide_eq_true (by omega),show(([86,101,114,115,105,111,110]:List UInt8).all tokB&& !(lower [86,101,114,115,105,111,110]==clen))=true from by decide]
 have ha:(fmtN (u:Int)).all prB=true:=List.all_eq_true.2 fun c hc=>decide_eq_true (by have:=hd c hc;omega)
 have he:endsB (fmtN (u:Int))=true:=by
  unfold endsB;cases hz:fmtN (u:Int)==[]
  ·rw[Bool.false_or];have hne:fmtN (u:Int)≠[]:=by rw[beq_eq_false_iff_ne] at hz;exact hz
   have hp:=List.length_pos_iff.2 hne;have c1:(fmtN (u:Int)).getD 0 0∈fmtN (u:Int):=by
    rw[List.getD_eq_getElem?_getD,List.getElem?_eq_getElem hp];exact List.getElem_mem _
   have c2:(fmtN (u:Int)).getD ((fmtN (u:Int)).length-1) 0∈fmtN (u:Int):=by
    rw[List.getD_eq_getElem?_getD,List.getElem?_eq_getElem (by omega)];exact List.getElem_mem _
   have d1:=hd _ c1;have d2:=hd _ c2;rw[beq_eq_false_iff_ne.2 (by omega),beq_eq_false_iff_ne.2 (by omega)];rfl
  ·rfl
 rw[ha,he];rfl
theorem head_etag (b:List UInt8):headB (etagH b)=true:=by
 obtain⟨h1, -⟩:=tag_ok b;rw[read_eq] at h1;obtain⟨hl,hc⟩:=read_hex h1;unfold headB etagH;dsimp only;generalize tagN b=t at hl hc;have e1:([34]++t++[34]).length=10:=by simp only[List.length_append,List.length_cons,List.length_nil];omega
 rw[trim_ends,decide_eq_true (by decide),decide_eq_true (by omega),show(([69,84,97,103]:List UInt8).all tokB&& !(lower [69,84,97,103]==clen))=true from by decide];have ha:([34]++t++[34]).all prB=true:=List.all_eq_true.2 fun c hx=>by
  rw[List.mem_append,List.mem_append,List.mem_singleton] at hx;unfold prB;rcases hx with(rfl|hx)|rfl
  ·decide
  ·exact decide_eq_true (by have:=hc c hx;omega)
  ·decide
 have he:endsB ([34]++t++[34])=true:=by
  unfold endsB;have f:([34]++t++[34]:List UInt8).getD (([34]++t++[34]:List UInt8).length-1) 0=34:=by
   rw[e1,List.getD_eq_getElem?_getD,List.getElem?_append_right (by simp only[List.length_append,List.length_cons,List.length_nil];omega)];have e2:([34]++t:List UInt8).length=9:=by simp only[List.length_append,List.length_cons,List.length_nil];omega
   rw[e2];rfl
  rw[f];cases([34]++t++[34]:List UInt8)==[]<;>rfl
 rw[ha,he];rfl
theorem head_ct:headB ctH=true:=by kernel_rfl
theorem body_len {s:ShD} (h:smayN s=true) (hn:s.1.length≤20) (he:s.2.1.length≤20) (hx:s.2.2.2.1.length≤50) (hk:∀k,k∈s.1→k.length≤50):(bodyX s).length≤20000:=by
 unfold smayN at h;simp only[Bool.and_eq_true] at h;have hE:=List.all_eq_true.1 h.2.2.1;have l1:∀l:List (List UInt8),(∀k,k∈l→k.length≤50)→(l.flatMap nameX).length≤63*l.length:=by
  intro l
  induction l with
  |nil=>intro _;exact Nat.le_refl _
  |cons k l ih=>
   intro hk;have h1:=ih fun x hx=>hk x (List.mem_cons_of_mem _ hx)
   have h2:=hk k (List.mem_cons_self ..);rw[List.flatMap_cons,List.length_append,List.length_cons];have:(nameX k).length=13+k.length:=by
    unfold nameX;simp only[List.length_append,show nameL.length=6 from rfl,show nameE.length=7 from rfl];omega
   omega
 have l2:∀l:List EntD,(∀e,e∈l→entB e=true)→(l.flatMap entX).length≤700*l.length:=by
  intro l
  induction l with
  |nil=>intro _;exact Nat.le_refl _
  |cons k l ih=>
   intro hk;have h1:=ih fun x hx=>hk x (List.mem_cons_of_mem _ hx)
   have h2:=entX_len (hk k (List.mem_cons_self ..));rw[List.flatMap_cons,List.length_append,List.length_cons];omega
 have a1:=l1 s.1 hk;have a2:=l2 s.2.1 hE;have a3:(nextX s.2.2.1 s.2.2.2.1).length≤70:=by
  unfold nextX;cases s.2.2.1
  ·exact Nat.zero_le _
  ·rw[xT];simp only[List.length_append,show nextL.length=6 from rfl,show nextE.length=7 from rfl];omega
 unfold bodyX;simp only[List.length_append,show begL.length=6 from rfl,show endL.length=7 from rfl];omega
end Nice
namespace Go.Proofs.YtldllfocpadkeaaGreatDoor
open Go Go.Eng Nice
noncomputable def frZ (g:List Bool) (Y:AnsD):BO:=bif Y.1==0 then gd g (bO true) else bif amayB Y then gd (aputP Y::g) (bO true) else gd (aputP Y::g) (bO false)
noncomputable def fr3 (g:List Bool) (p1 p2:Bool) (X X' Y Y':AnsD):BO:=
 bif eqAns X X' then(bif eqAns Y Y' then(bif X.1==0 then frZ (ansB Y::p1::ansB X::[p2]) Y else bif amayB X then frZ (aputP X::ansB Y::p1::ansB X::[p2]) Y else gd (aputP X::ansB Y::p1::ansB X::[p2]) (bO false)) else gd [ansB Y,p1,ansB X,p2] (bO false)) else gd [ansB X,p2] (bO false)
noncomputable def fr2 (A:AskD) (S:StD) (er ver:Int):BO:=
 bif mayN A then(bif bmayN S then(bif decide (ver<0) then gd [bmayP S,askP A] (bO true) else gd [fndP A S,i64P ver&&bndS A.2.2.2.1,bmayP S,askP A]
  (fr3 [] (rfndP A S) (i64P ver&&bndS A.2.2.2.1) (wrN (fmtN ver) A.1 A.2.2.2.1 er) (wrN (digits ver) A.1 A.2.2.2.1 er) (fndN A S) (rfndN A S))) else gd [bmayP S,askP A] (bO true)) else gd [askP A] (bO true)
noncomputable abbrev enFR:Eng.Env:=envS [(12,trueS),(14,acutS),(13,stS),(17,mayDS),(15,bmayS),(21,wrS),(22,fndS),(23,eqAS),(24,rwrS),(25,rfndS),(26,amayAS)]
noncomputable def ofr (x:DenL [AskT,ResT,StT]):BO:=fO Tryz.prog enFR (shOf []) Tryz.f4 [AskT,ResT,StT] [.bool] x
theorem efr (kd:Int) (key:List UInt8) (v:Int) (bo:List UInt8) (co:Int) (t p f:List UInt8) (mx:Int) (ba:Bool) (er ver:Int) (q:Int) (l:List EntD) (m:List MemoD) (a b c d e:Int):
 ofr ((kd,key,v,bo,co,t,p,f,mx,ba,()),(er,ver,()),(q,l,m,(a,b,c,d,e,()),()),())=gd [stP (q,l,m,(a,b,c,d,e,()),())] (fr2 (acutN (kd,key,v,bo,co,t,p,f,mx,ba,())) (stN (q,l,m,(a,b,c,d,e,()),())) er ver):=by kernel_rfl
theorem may_mk {hs:List HeadDW} {b:List UInt8} (h1:hs.length≤10) (h2:∀h,h∈hs→headB h=true) (h3:b.length≤20000):amayB (200,hs,b,())=true:=by
 have ha:anyN hs=false:=by
  unfold anyN;rw[List.any_eq_false];intro h hm;rw[h2 h hm];decide
 show(!(wordsN 200==[])&&(decide (hs.length≤10)&&(!anyN hs&&(decide (b.length≤20000)&&(!((200:Int)==204)||b==[])))))=true;rw[ha,decide_eq_true h1,decide_eq_true h3,show(!(wordsN 200==[]))=true from by decide,show(!((200:Int)==204))=true from by decide];rfl
theorem may_put {a:AnsD} (h:amayB a=true):aputP a=true∧ansB a=true:=by
 obtain⟨n,hs,b,⟨⟩⟩:=a;obtain⟨m1,m2,m3,m4⟩:=amay_len h;have ha:hs.all Nice.headPW=true:=List.all_eq_true.2 fun h hm=>by
  obtain⟨l1,l2⟩:=headB_len (m3 h hm);show(bndS h.1&&bndS h.2.1)=true;unfold bndS;rw[decide_eq_true (by omega),decide_eq_true (by omega)];rfl
 refine⟨?_,decide_eq_true (by show hs.length≤_;omega)⟩;show(decide (hs.length≤140737488355328)&&hs.all Nice.headPW)=true;rw[ha,decide_eq_true (by omega)];rfl
theorem may412:amayB (an0 412)=true:=by kernel_rfl
theorem may404:amayB (an0 404)=true:=by kernel_rfl
theorem may507:amayB (an0 507)=true:=by kernel_rfl
theorem may503:amayB (an0 503)=true:=by kernel_rfl
theorem wr_may {t:List UInt8} {kd:Int} {bo:List UInt8} {er:Int} (h:headB (numH t)=true):wrN t kd bo er=an0 0∨amayB (wrN t kd bo er)=true:=by
 have g1:amayB (200,[numH t,etagH bo],[],())=true:=may_mk (by show 2≤10;omega) (fun x hx=>by
  simp only[List.mem_cons,List.not_mem_nil,or_false] at hx;rcases hx with rfl|rfl
  ·exact h
  ·exact head_etag bo) (Nat.zero_le _)
 have g2:amayB (200,[numH t],[],())=true:=may_mk (by show 1≤10;omega) (fun x hx=>by rw[List.mem_singleton.1 hx];exact h) (Nat.zero_le _);have hg:amayB (bif kd==2 then(200,[numH t,etagH bo],[],()) else(200,[numH t],[],()):AnsD)=true:=by
  cases kd==2
  ·exact g2
  ·exact g1
 have hG:amayB (resG er (bif kd==2 then(200,[numH t,etagH bo],[],()) else(200,[numH t],[],())))=true:=by
  unfold resG;cases er==0
  ·cases er==9
   ·cases er==6
    ·cases er==5
     ·exact may503
     ·exact may507
    ·exact may404
   ·exact may412
  ·exact hg
 unfold wrN;cases kd !=2
 ·exact .inr hG
 ·cases kd !=3
  ·exact .inr hG
  ·exact .inl rfl
theorem fnd_may {t:List UInt8} {v:VerD} {er:Int} {sh:ShD} {kd:Int} (h:headB (numH t)=true) (hv:v.2.2.1.length≤300) (hs:(sputN sh).length≤20000):fndG t v er sh kd=an0 0∨amayB (fndG t v er sh kd)=true:=by
 have g1:amayB (200,[etagH v.2.2.1,numH t],v.2.2.1,())=true:=may_mk (by show 2≤10;omega) (fun x hx=>by
  simp only[List.mem_cons,List.not_mem_nil,or_false] at hx;rcases hx with rfl|rfl
  ·exact head_etag _
  ·exact h) (by omega)
 have g4:amayB (200,[ctH],sputN sh,())=true:=may_mk (by show 1≤10;omega) (fun x hx=>by rw[List.mem_singleton.1 hx];exact head_ct) hs;unfold fndG;cases kd==1
 ·cases kd==4
  ·cases kd==5
   ·exact .inl rfl
   ·exact .inr g4
  ·exact .inr g4
 ·cases er !=0
  ·exact .inr g1
  ·exact .inr may404
theorem page_in {s:StD} {p f:List UInt8} {k:Int} {b:Bool} {e:EntD} (h:e∈pageL (stN s) p f k b):e.1.length≤42∧e.2.1.length≤14:=
 stN_ent (List.mem_filter.1 (List.mem_of_mem_take h)).1
theorem leaf_sm (s:StD) (a:AskD):smayP (leafB (stN s) a)=true∧(sputN (leafB (stN s) a)).length≤20000:=by
 obtain⟨e1,e2,e3⟩:=leafB_ent (s:=s) (a:=a);have hn:∀k,k∈(leafB (stN s) a).1→k.length≤42:=by
  intro k hk
  revert hk
  unfold leafB;cases a.1==4
  ·cases a.1==5
   ·intro hk;cases hk
   ·intro hk;cases hk
  ·intro hk;obtain⟨e,he,rfl⟩:=List.mem_map.1 (show k∈(pageL (stN s) a.2.2.2.2.2.2.1 a.2.2.2.2.2.2.2.1 a.2.2.2.2.2.2.2.2.1 true).map (·.1) from hk);exact(page_in he).1
 have hE:∀e,e∈(leafB (stN s) a).2.1→e.1.length≤42∧e.2.1.length≤14:=by
  intro e he
  revert he
  unfold leafB;cases a.1==4
  ·cases a.1==5
   ·intro hk;cases hk
   ·intro hk;exact page_in (show e∈pageL (stN s) a.2.2.2.2.2.2.1 a.2.2.2.2.2.2.2.1 a.2.2.2.2.2.2.2.2.1 false from hk)
  ·intro hk;cases hk
 have hx:(leafB (stN s) a).2.2.2.1.length≤50:=by
  have gd0:∀(l:List (List UInt8)),(∀k,k∈l→k.length≤42)→(lastN l).length≤50:=fun l hl=>by
   unfold lastN;rw[List.getD_eq_getElem?_getD];by_cases h:l.length-1<l.length
   ·rw[List.getElem?_eq_getElem h];have:=hl _ (List.getElem_mem h);show(l[l.length-1]).length≤50;omega
   ·rw[List.getElem?_eq_none (by omega)];exact Nat.zero_le _
  revert hn hE
  unfold leafB;cases a.1==4
  ·cases a.1==5
   ·intro _ _;exact Nat.zero_le _
   ·rw[xF,xT];unfold enSh;dsimp only;intro _ hE;cases pageM (stN s) a.2.2.2.2.2.2.1 a.2.2.2.2.2.2.2.1 a.2.2.2.2.2.2.2.2.1 false
    ·exact Nat.zero_le _
    ·rw[xT];unfold entAt;rw[List.getD_eq_getElem?_getD];generalize pageL (stN s) a.2.2.2.2.2.2.1 a.2.2.2.2.2.2.2.1 a.2.2.2.2.2.2.2.2.1 false=l at hE⊢;by_cases h:l.length-1<l.length
     ·rw[List.getElem?_eq_getElem h];have:=(hE _ (List.getElem_mem h)).1;show(l[l.length-1]).1.length≤50;omega
     ·rw[List.getElem?_eq_none (by omega)];exact Nat.zero_le _
  ·rw[xT];unfold nmSh;dsimp only;intro hn _;cases pageM (stN s) a.2.2.2.2.2.2.1 a.2.2.2.2.2.2.2.1 a.2.2.2.2.2.2.2.2.1 true
   ·exact Nat.zero_le _
   ·rw[xT];exact gd0 _ hn
 refine⟨?_,?_⟩
 ·unfold smayP entsP;rw[decide_eq_true (by omega),decide_eq_true (by omega)];have h1:(leafB (stN s) a).1.all bndS=true:=List.all_eq_true.2 fun k hk=>decide_eq_true (by have:=hn k hk;omega)
  have h2:(leafB (stN s) a).2.1.all entP=true:=List.all_eq_true.2 fun e he=>by
   have:=hE e he;unfold entP bndS;rw[decide_eq_true (by omega),decide_eq_true (by omega)];rfl
  rw[h1,h2];rfl
 ·unfold sputN;cases h:smayN (leafB (stN s) a)
  ·exact Nat.zero_le _
  ·rw[xT];exact body_len h e2 e3 hx fun k hk=>Nat.le_trans (hn k hk) (by omega)
theorem frZ_ok {g:List Bool} {Y:AnsD} (h:Y=an0 0∨amayB Y=true) (hg:∀p,p∈g→p=true):frZ g Y=bO true:=by
 unfold frZ;rcases h with rfl|h
 ·show(bif true then gd g (bO true) else _)=_;rw[xT];exact gdL hg
 ·rw[h,xT,gdB (may_put h).1,gdL hg];cases Y.1==0<;>rfl
theorem ansB_of {Y:AnsD} (h:Y=an0 0∨amayB Y=true):ansB Y=true:=by
 rcases h with rfl|h
 ·exact decide_eq_true (Nat.zero_le _)
 ·exact(may_put h).2
theorem fr3_ok {g:List Bool} {p1 p2:Bool} {X Y:AnsD} (h1:p1=true) (h2:p2=true) (hX:X=an0 0∨amayB X=true) (hY:Y=an0 0∨amayB Y=true):fr3 g p1 p2 X X Y Y=bO true:=by
 have aX:=ansB_of hX;have aY:=ansB_of hY;unfold fr3;rw[eqAns_refl,eqAns_refl,xT,xT];have hb:∀p,p∈(ansB Y::p1::ansB X::[p2])→p=true:=fun p hp=>by
  simp only[List.mem_cons,List.not_mem_nil,or_false] at hp;rcases hp with rfl|rfl|rfl|rfl
  ·exact aY
  ·exact h1
  ·exact aX
  ·exact h2
 rcases hX with rfl|hX
 ·show(bif true then _ else _)=_;rw[xT];exact frZ_ok hY hb
 ·have hz:=frZ_ok hY hb;have hz2:frZ (aputP X::ansB Y::p1::ansB X::[p2]) Y=bO true:=frZ_ok hY fun p hp=>by
   rcases List.mem_cons.1 hp with rfl|hp
   ·exact(may_put hX).1
   ·exact hb p hp
  rw[hX,xT,hz,hz2];cases X.1==0<;>rfl
theorem fr_n {a:AskD} {s:StD} {er ver:Int} (hs:stP s=true) (h3:i64P a.2.2.1=true) (h4:i64P a.2.2.2.2.2.2.2.2.1=true) (hv:i64P ver=true):ofr (a,(er,ver,()),s,())=some (true,()):=by
 obtain⟨q,l,m,⟨a0,b0,c0,d0,e0,⟨⟩⟩,⟨⟩⟩:=s;have hA:=acut_askP a h3 h4;obtain⟨kd,key,v,bo,co,t,p,f,mx,ba,⟨⟩⟩:=a;rw[efr,gdB hs,xG]
 revert hA
 generalize acutN (kd,key,v,bo,co,t,p,f,mx,ba,())=A;intro hA;have hsm:=leaf_sm (q,l,m,(a0,b0,c0,d0,e0,()),()) A;have hbP:=stN_bmayP (q,l,m,(a0,b0,c0,d0,e0,()),());have hent:=fun e (he:e∈(stN (q,l,m,(a0,b0,c0,d0,e0,()),())).2.1)=>stN_ent he
 have hlen:(stN (q,l,m,(a0,b0,c0,d0,e0,()),())).2.1.length≤42:=by
  show((l.take 42).map lentN).length≤42;rw[List.length_map,List.length_take];omega
 revert hsm hbP hent hlen
 generalize stN (q,l,m,(a0,b0,c0,d0,e0,()),())=S;intro hsm hbP hent hlen;unfold fr2;cases hm:mayN A
 ·rw[xF,gdB hA,xG];rfl
 rw[xT];cases hb:bmayN S
 ·rw[xF,gdB hbP,gdB hA,xG];rfl
 rw[xT];by_cases hneg:ver<0
 ·rw[cdT hneg,gdB hbP,gdB hA,xG];rfl
 rw[cdF hneg];have hvi:=hv;unfold i64P at hvi;rw[Bool.and_eq_true,decide_eq_true_eq,decide_eq_true_eq] at hvi;have eN:digits ver=fmtN ver:=digits_fmtQ hv;have hbo:bndS A.2.2.2.1=true:=by
  have hA:=hA;unfold askP qryP sh1 at hA;simp only[Bool.and_eq_true,decide_eq_true_eq] at hA;unfold bndS;exact decide_eq_true (by omega)
 obtain⟨g1,g2,g3⟩:=ver_get hb A.2.1 A.2.2.1;have hst:stOKG S=true:=by
  unfold stOKG;rw[decide_eq_true (by omega),show S.2.1.all entOK=true from List.all_eq_true.2 fun e he=>decide_eq_true (by have:=(hent e he).2;omega)];rfl
 have hi:i64P (getGN S A.2.1 A.2.2.1).1.1=true:=by
  unfold i64P;rw[decide_eq_true (by omega),decide_eq_true (by omega)];rfl
 have hbd:bndS (getGN S A.2.1 A.2.2.1).1.2.2.1=true:=decide_eq_true (by omega);have eL:leafN S A=leafB S A:=by unfold leafN;rw[hb,hm];rfl
 have eG:rgetGN S A.2.1 A.2.2.1=getGN S A.2.1 A.2.2.1:=get_same (bmay_srt hb) (fun e he=>by
  obtain⟨i,hi,rfl⟩:=List.getElem_of_mem he;have hbe:=(bmay_ent hb).2 i hi;unfold bEnt at hbe;rw[Bool.and_eq_true,entAt_eq hi] at hbe;exact(entB_iff.1 hbe.1).2.2.1) _ _
 have hlp:leafP S A=true:=by unfold leafP;rw[hbP,hA];rfl
 have hf:fndP A S=true:=by
  unfold fndP;rw[hst,hbd,hi,hlp,eL,hsm.1];rfl
 have hrf:rfndP A S=true:=by
  unfold rfndP;rw[eG,hst,hbd,hi,bmay_page hb,hsm.1];rfl
 have hw:(i64P ver&&bndS A.2.2.2.1)=true:=by rw[hv,hbo];rfl
 have eY:rfndN A S=fndN A S:=by
  unfold rfndN fndN;rw[eG,eL,digits_fmtQ hi]
 rw[gdB hf,gdB hw,gdB hbP,gdB hA,xG,eN,eY];refine fr3_ok hrf hw (wr_may (head_num (by omega) hvi.2)) ?_;unfold fndN;rw[eL];exact fnd_may (head_num g2 (by omega)) g1 hsm.2
theorem fr_c:PC 4 (ofO [AskT,ResT,StT] [.bool] ofr):=pureO (envS_ok (l:=[(12,trueS),(14,acutS),(13,stS),(17,mayDS),(15,bmayS),(21,wrS),(22,fndS),(23,eqAS),(24,rwrS),(25,rfndS),(26,amayAS)]) ⟨begun19_c,acut_c,st_c,am_c,rbmay_c,wr_c,fnd_c,eqa_c,rwr_c,rfnd_c,amay_cW,trivial⟩) gl_ne Tryz.func4 (by kernel_rfl) (by decide)
theorem lawFR_run {w:World} (hgl:GlW glC w) {args:Array Value} {x:DenL [AskT,ResT,StT]} (hx:RdAll (fzW w) [AskT,ResT,StT] x args.toList) (hb:BdL [AskT,ResT,StT] x):Calls Tryz.prog 4 args w fun e w'=>e=.returned (.bool true)∧Same w w':=
 law_calls fr_c (fun x hb=>by
  obtain⟨a,⟨er,ver,⟨⟩⟩,s1,⟨⟩⟩:=x;have:=fr_n (a:=a) (s:=s1) (er:=er) (ver:=ver) (st_bd hb.2.2.1.2.1.2) (i64_bd hb.1.2.2.1) (i64_bd hb.1.2.2.2.2.2.2.2.2.1) (i64_bd hb.2.1.2.1);exact⟨by show(ofr (a,(er,ver,()),s1,())).isSome=true;rw[this];rfl,by show(ofr (a,(er,ver,()),s1,())).getD _=_;rw[this];rfl⟩) hgl hx hb
end Go.Proofs.YtldllfocpadkeaaGreatDoor
