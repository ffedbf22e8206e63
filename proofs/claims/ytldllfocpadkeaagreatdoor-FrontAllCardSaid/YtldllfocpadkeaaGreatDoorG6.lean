/-
  Part of the proof. No condition.
-/
import Derived.Test.YtldllfocpadkeaaGreatDoorG5
noncomputable section
namespace Go.Proofs.YtldllfocpadkeaaGreatDoor
open Go Go.Eng Nice
set_option maxRecDepth 1000000
abbrev shkeyCh:List (Nat×List (Nat×Sh)):=[]
def okeyCh (x:DenL [.byte]):Option (DenL [.bool]):=fO Tryz.prog (envS []) (shOf shkeyCh) Tryz.f188 [.byte] [.bool] x
theorem ekeyCh_g (N:Nat) (x0:UInt8) {Qb}[Qb':QA (↑x0.toNat:Int) Qb] {Qc}[Qc':QA (some (true,PUnit.unit)) Qc] {Qa}[Qa':QA (bif Qb==46 then Qc else (bif Qb==45 then Qc else (bif Qb==95 then Qc else (bif Qb==47 then Qc else (some (false,PUnit.unit)))))) Qa] {Qd}[Qd':QA (bif decide (Qb>=48) then (bif decide (Qb<=57) then Qc else Qa) else Qa) Qd]:fON Tryz.prog (envS []) (shOf shkeyCh) Tryz.f188 [.byte] [.bool] N (x0,())= (bif decide (Qb>=97) then (bif decide (Qb<=122) then Qc else Qd) else Qd):=by obtain ⟨rfl⟩:=Qd';obtain ⟨rfl⟩:=Qa';obtain ⟨rfl⟩:=Qc';obtain ⟨rfl⟩:=Qb';kernel_rfl
theorem ekeyCh (x0:UInt8):okeyCh (x0,())=
 (bif decide ((↑x0.toNat:Int)>=(97:Int)) then
  (bif decide ((↑x0.toNat:Int)<=(122:Int)) then
   (some (true,PUnit.unit))
  else
   (bif decide ((↑x0.toNat:Int)>=(48:Int)) then
    (bif decide ((↑x0.toNat:Int)<=(57:Int)) then
     (some (true,PUnit.unit))
    else
     (bif (↑x0.toNat:Int)==(46:Int) then
      (some (true,PUnit.unit))
     else
      (bif (↑x0.toNat:Int)==(45:Int) then
       (some (true,PUnit.unit))
      else
       (bif (↑x0.toNat:Int)==(95:Int) then
        (some (true,PUnit.unit))
       else
        (bif (↑x0.toNat:Int)==(47:Int) then
         (some (true,PUnit.unit))
        else
         (some (false,PUnit.unit)))))))
   else
    (bif (↑x0.toNat:Int)==(46:Int) then
     (some (true,PUnit.unit))
    else
     (bif (↑x0.toNat:Int)==(45:Int) then
      (some (true,PUnit.unit))
     else
      (bif (↑x0.toNat:Int)==(95:Int) then
       (some (true,PUnit.unit))
      else
       (bif (↑x0.toNat:Int)==(47:Int) then
        (some (true,PUnit.unit))
       else
        (some (false,PUnit.unit))))))))
 else
  (bif decide ((↑x0.toNat:Int)>=(48:Int)) then
   (bif decide ((↑x0.toNat:Int)<=(57:Int)) then
    (some (true,PUnit.unit))
   else
    (bif (↑x0.toNat:Int)==(46:Int) then
     (some (true,PUnit.unit))
    else
     (bif (↑x0.toNat:Int)==(45:Int) then
      (some (true,PUnit.unit))
     else
      (bif (↑x0.toNat:Int)==(95:Int) then
       (some (true,PUnit.unit))
      else
       (bif (↑x0.toNat:Int)==(47:Int) then
        (some (true,PUnit.unit))
       else
        (some (false,PUnit.unit)))))))
  else
   (bif (↑x0.toNat:Int)==(46:Int) then
    (some (true,PUnit.unit))
   else
    (bif (↑x0.toNat:Int)==(45:Int) then
     (some (true,PUnit.unit))
    else
     (bif (↑x0.toNat:Int)==(95:Int) then
      (some (true,PUnit.unit))
     else
      (bif (↑x0.toNat:Int)==(47:Int) then
       (some (true,PUnit.unit))
      else
       (some (false,PUnit.unit)))))))):=ekeyCh_g heads0 x0
abbrev shdKey:List (Nat×List (Nat×Sh)):=[(2,[(0,(.one .sym)),(2,(.one .sym)),(5,(.one .sym)),(6,(.one .sym))])]
def hdKey_0 (n:Nat) (t0:L8) (t2:Bool) (t5 t6:Int):Option (DenL [.bool]):=rH Tryz.prog (envS [(188,keyChS)]) (shOf shdKey) Tryz.f135 [.bool] n 0 [(0,sy (.string (bs t0))),(2,.bool t2),(5,sy (.int .i64 t5)),(6,sy (.int .i64 t6))] []
def odKey (x:DenL [.str]):Option (DenL [.bool]):=fO Tryz.prog (envS [(188,keyChS)]) (shOf shdKey) Tryz.f135 [.str] [.bool] x
theorem edKey_g (N:Nat) (x0:L8):fON Tryz.prog (envS [(188,keyChS)]) (shOf shdKey) Tryz.f135 [.str] [.bool] N (x0,())=
 (hdKey_0 N (x0) (false) ((↑x0.length:Int)) ((0:Int))):=by kernel_rfl
theorem edKey (x0:L8):odKey (x0,())=
 (hdKey_0 heads0 (x0) (false) ((↑x0.length:Int)) ((0:Int))):=edKey_g heads0 x0
theorem edKey_0 (n:Nat) (t0:L8) (t2:Bool) (t5 t6:Int) {Qa}[Qa':QA (↑(t0.getD t6.toNat 0).toNat:Int) Qa] {Qb}[Qb':QA (some (false,PUnit.unit)) Qb]:hdKey_0 (n+1) t0 t2 t5 t6= (bif decide (t6<t5) then (bif keyCh (UInt8.ofNat Qa.toNat) then (gd [decide (inK IntKind.i64 (t6+1)),decide (inK IntKind.u8 Qa),decide (0<=t6),decide (t6<t0.length)] (hdKey_0 n t0 t2 t5 (t6+1))) else (gd [decide (inK IntKind.u8 Qa),decide (0<=t6),decide (t6<t0.length)] Qb)) else (bif decide ((↑t0.length:Int)>=1) then (bif decide ((↑t0.length:Int)<=40) then (some (true,PUnit.unit)) else Qb) else Qb)):=by obtain ⟨rfl⟩:=Qb';obtain ⟨rfl⟩:=Qa';kernel_rfl
abbrev shrKey:List (Nat×List (Nat×Sh)):=[(2,[(0,(.one .sym)),(2,(.one .sym)),(3,(.one .sym))])]
def hrKey_0 (n:Nat) (t0:L8) (t2:Bool) (t3:Int):Option (DenL [.bool]):=rH Tryz.prog (envS []) (shOf shrKey) Tryz.f74 [.bool] n 0 [(0,sy (.string (bs t0))),(2,.bool t2),(3,sy (.int .i64 t3))] []
def orKey (x:DenL [.str]):Option (DenL [.bool]):=fO Tryz.prog (envS []) (shOf shrKey) Tryz.f74 [.str] [.bool] x
theorem erKey_g (N:Nat) (x0:L8):fON Tryz.prog (envS []) (shOf shrKey) Tryz.f74 [.str] [.bool] N (x0,())=
 (hrKey_0 N (x0) (false) ((0:Int))):=by kernel_rfl
theorem erKey (x0:L8):orKey (x0,())=
 (hrKey_0 heads0 (x0) (false) ((0:Int))):=erKey_g heads0 x0
theorem erKey_0 (n:Nat) (t0:L8) (t2:Bool) (t3:Int) {Qb}[Qb':QA (gd [decide (inK IntKind.i64 (t3+1))] (hrKey_0 n t0 t2 (t3+1))) Qb] {Qc}[Qc':QA (↑(t0.getD t3.toNat 0).toNat:Int) Qc] {Qe}[Qe':QA (some (false,PUnit.unit)) Qe] {Qa}[Qa':QA (bif Qc !=46 then (bif Qc !=45 then (bif Qc !=95 then (bif Qc !=47 then Qe else Qb) else Qb) else Qb) else Qb) Qa] {Qd}[Qd':QA (bif decide (Qc<48) then Qa else (bif decide (Qc>57) then Qa else Qb)) Qd]:hrKey_0 (n+1) t0 t2 t3= (bif decide (t3<t0.length) then (gd [decide (0<=t3),decide (t3<t0.length)] (bif decide (Qc<97) then Qd else (bif decide (Qc>122) then Qd else Qb))) else (bif decide ((↑t0.length:Int)>=1) then (bif decide ((↑t0.length:Int)<=40) then (some (true,PUnit.unit)) else Qe) else Qe)):=by obtain ⟨rfl⟩:=Qd';obtain ⟨rfl⟩:=Qa';obtain ⟨rfl⟩:=Qe';obtain ⟨rfl⟩:=Qc';obtain ⟨rfl⟩:=Qb';kernel_rfl
abbrev shanum:List (Nat×List (Nat×Sh)):=[]
def oanum (x:DenL [.str,.int .i64,.int .i64,.int .i64]):Option (DenL [.int .i64,.bool]):=fO Tryz.prog (envS [(189,idxFS 190),(191,parseS)]) (shOf shanum) Tryz.f136 [.str,.int .i64,.int .i64,.int .i64] [.int .i64,.bool] x
theorem eanum_g (N:Nat) (x0:L8) (x1 x2 x3:Int) {Qa}[Qa':QA (some ((intN x0).fst,false,PUnit.unit)) Qa] {Qb}[Qb':QA (decide ((10:Int)=10)&&decide ((64:Int)=64)) Qb]:fON Tryz.prog (envS [(189,idxFS 190),(191,parseS)]) (shOf shanum) Tryz.f136 [.str,.int .i64,.int .i64,.int .i64] [.int .i64,.bool] N (x0,x1,x2,x3,())= (bif decide (idxF x0>=0) then (gd [bndS x0&&Qb] Qa) else (gd [bndS x0&&Qb] (bif (intN x0).snd then (bif decide ((↑x0.length:Int)<=x1) then (bif decide ((intN x0).fst>=x2) then (bif decide ((intN x0).fst<=x3) then (some ((intN x0).fst,true,PUnit.unit)) else Qa) else Qa) else Qa) else Qa))):=by obtain ⟨rfl⟩:=Qb';obtain ⟨rfl⟩:=Qa';kernel_rfl
theorem eanum (x0:L8) (x1 x2 x3:Int):oanum (x0,x1,x2,x3,())=
 (bif decide (idxF x0>=(0:Int)) then
  (gd [bndS x0&&(decide ((10:Int)=(10:Int))&&decide ((64:Int)=(64:Int)))] (some ((intN x0).fst,false,PUnit.unit)))
 else
  (gd [bndS x0&&(decide ((10:Int)=(10:Int))&&decide ((64:Int)=(64:Int)))] (bif (intN x0).snd then
   (bif decide ((↑x0.length:Int)<=x1) then
    (bif decide ((intN x0).fst>=x2) then
     (bif decide ((intN x0).fst<=x3) then
      (some ((intN x0).fst,true,PUnit.unit))
     else
      (some ((intN x0).fst,false,PUnit.unit)))
    else
     (some ((intN x0).fst,false,PUnit.unit)))
   else
    (some ((intN x0).fst,false,PUnit.unit)))
  else
   (some ((intN x0).fst,false,PUnit.unit))))):=eanum_g heads0 x0 x1 x2 x3
abbrev shhp:List (Nat×List (Nat×Sh)):=[]
def ohp (x:DenL [.str,.str]):Option (DenL [.bool]):=fO Tryz.prog (envS []) (shOf shhp) Tryz.f131 [.str,.str] [.bool] x
theorem ehp_g (N:Nat) (x0 x1:L8):fON Tryz.prog (envS []) (shOf shhp) Tryz.f131 [.str,.str] [.bool] N (x0,x1,())=
 (bif decide ((↑x0.length:Int)>=(↑x1.length:Int)) then
  (bif List.take (↑x1.length:Int).toNat x0==x1 then
   (gd [decide ((↑x1.length:Int)<=(↑x0.length:Int))] (some (true,PUnit.unit)))
  else
   (gd [decide ((↑x1.length:Int)<=(↑x0.length:Int))] (some (false,PUnit.unit))))
 else
  (some (false,PUnit.unit))):=by kernel_rfl
theorem ehp (x0 x1:L8):ohp (x0,x1,())=
 (bif decide ((↑x0.length:Int)>=(↑x1.length:Int)) then
  (bif List.take (↑x1.length:Int).toNat x0==x1 then
   (gd [decide ((↑x1.length:Int)<=(↑x0.length:Int))] (some (true,PUnit.unit)))
  else
   (gd [decide ((↑x1.length:Int)<=(↑x0.length:Int))] (some (false,PUnit.unit))))
 else
  (some (false,PUnit.unit))):=ehp_g heads0 x0 x1
abbrev shcp:List (Nat×List (Nat×Sh)):=[]
def ocp (x:DenL [.str,.str]):Option (DenL [.str,.bool]):=fO Tryz.prog (envS [(131,hasPreS)]) (shOf shcp) Tryz.f194 [.str,.str] [.str,.bool] x
theorem ecp_g (N:Nat) (x0 x1:L8):fON Tryz.prog (envS [(131,hasPreS)]) (shOf shcp) Tryz.f194 [.str,.str] [.str,.bool] N (x0,x1,())=
 (bif hasPre x0 x1 then
  (gd [decide ((↑x1.length:Int)<=(↑x0.length:Int))] (some (List.drop (↑x1.length:Int).toNat x0,true,PUnit.unit)))
 else
  (some (x0,false,PUnit.unit))):=by kernel_rfl
theorem ecp (x0 x1:L8):ocp (x0,x1,())=
 (bif hasPre x0 x1 then
  (gd [decide ((↑x1.length:Int)<=(↑x0.length:Int))] (some (List.drop (↑x1.length:Int).toNat x0,true,PUnit.unit)))
 else
  (some (x0,false,PUnit.unit))):=ecp_g heads0 x0 x1
abbrev shrdigits:List (Nat×List (Nat×Sh)):=[(2,[(0,(.one .sym)),(2,(.one .sym)),(3,(.one .sym))])]
def hrdigits_0 (n:Nat) (t0:Int) (t2 t3:L8):Option (DenL [.str]):=rH Tryz.prog (envS []) (shOf shrdigits) Tryz.f105 [.str] n 0 [(0,sy (.int .u64 t0)),(2,sy (.string (bs t2))),(3,sy (.string (bs t3)))] []
def ordigits (x:DenL [.int .u64]):Option (DenL [.str]):=fO Tryz.prog (envS []) (shOf shrdigits) Tryz.f105 [.int .u64] [.str] x
theorem erdigits_g (N:Nat) (x0:Int):fON Tryz.prog (envS []) (shOf shrdigits) Tryz.f105 [.int .u64] [.str] N (x0,())=
 (hrdigits_0 N (x0) ([]) ([])):=by kernel_rfl
theorem erdigits (x0:Int):ordigits (x0,())=
 (hrdigits_0 heads0 (x0) ([]) ([])):=erdigits_g heads0 x0
theorem erdigits_0 (n:Nat) (t0:Int) (t2 t3:L8) {Qa}[Qa':QA (IntKind.u8.wrap (IntKind.u64.wrap ((48:Int)+t0.tmod ((10:Int))))) Qa]:hrdigits_0 (n+1) t0 t2 t3= (gd [decide ([UInt8.ofNat Qa.toNat].length+t3.length<=1099511627776)] (bif IntKind.u64.wrap (t0.tdiv ((10:Int)))==0 then (some ([UInt8.ofNat Qa.toNat]++t3,PUnit.unit)) else (hrdigits_0 n (IntKind.u64.wrap (t0.tdiv ((10:Int)))) t2 ([UInt8.ofNat Qa.toNat]++t3)))):=by obtain ⟨rfl⟩:=Qa';kernel_rfl
abbrev shrDigits:List (Nat×List (Nat×Sh)):=[]
def orDigits (x:DenL [.int .i64]):Option (DenL [.str]):=fO Tryz.prog (envS [(105,digsS)]) (shOf shrDigits) Tryz.f61 [.int .i64] [.str] x
theorem erDigits_g (N:Nat) (x0:Int) {Qa}[Qa':QA (IntKind.u64.wrap ((0:Int)-(x0+1))+1) Qa]:fON Tryz.prog (envS [(105,digsS)]) (shOf shrDigits) Tryz.f61 [.int .i64] [.str] N (x0,())= (bif decide (x0<0) then (gd [decide (1+(digs (IntKind.u64.wrap Qa)).length<=1099511627776),decide (0<=IntKind.u64.wrap Qa)&&decide (IntKind.u64.wrap Qa<18446744073709551616),decide (inK IntKind.i64 ((0:Int)-(x0+1))),decide (inK IntKind.i64 (x0+1))] (some ([45]++digs (IntKind.u64.wrap Qa),PUnit.unit))) else (gd [decide (0<=IntKind.u64.wrap x0)&&decide (IntKind.u64.wrap x0<18446744073709551616)] (some (digs (IntKind.u64.wrap x0),PUnit.unit)))):=by obtain ⟨rfl⟩:=Qa';kernel_rfl
theorem erDigits (x0:Int):orDigits (x0,())=
 (bif decide (x0<(0:Int)) then
  (gd [decide (1+(digs (IntKind.u64.wrap (IntKind.u64.wrap ((0:Int)-(x0+(1:Int)))+(1:Int)))).length<=1099511627776),decide ((0:Int)<=IntKind.u64.wrap (IntKind.u64.wrap ((0:Int)-(x0+(1:Int)))+(1:Int)))&&decide (IntKind.u64.wrap (IntKind.u64.wrap ((0:Int)-(x0+(1:Int)))+(1:Int))<(18446744073709551616:Int)),decide (inK IntKind.i64 ((0:Int)-(x0+(1:Int)))),decide (inK IntKind.i64 (x0+(1:Int)))] (some ([45]++digs (IntKind.u64.wrap (IntKind.u64.wrap ((0:Int)-(x0+(1:Int)))+(1:Int))),PUnit.unit)))
 else
  (gd [decide ((0:Int)<=IntKind.u64.wrap x0)&&decide (IntKind.u64.wrap x0<(18446744073709551616:Int))] (some (digs (IntKind.u64.wrap x0),PUnit.unit)))):=erDigits_g heads0 x0
open Go Go.Eng Nice
set_option maxRecDepth 100000
theorem keyCh_iff {c:UInt8}:keyCh c=true↔(97<=c.toNat/\c.toNat<=122\/48<=c.toNat/\c.toNat<=57\/c.toNat=46\/c.toNat=45\/c.toNat=95\/c.toNat=47):=by
 unfold keyCh;rw[decide_eq_true_iff]
theorem keyCh_not {c:UInt8}:keyCh c=false↔¬(97<=c.toNat/\c.toNat<=122\/48<=c.toNat/\c.toNat<=57\/c.toNat=46\/c.toNat=45\/c.toNat=95\/c.toNat=47):=by
 unfold keyCh;rw[decide_eq_false_iff_not]
theorem beT {α:Type} {n m:Int} {a b:α} (h:n=m):(bif n==m then a else b)=a:=by subst h;rw[show(n==n)=true from beq_self_eq_true n];rfl
theorem beF {α:Type} {n m:Int} {a b:α} (h:n≠m):(bif n==m then a else b)=b:=by rw[show(n==m)=false from beq_eq_false_iff_ne.2 h];rfl
theorem bnT {α:Type} {n m:Int} {a b:α} (h:n≠m):(bif n !=m then a else b)=a:=by rw[show(n !=m)=true from bne_iff_ne.2 h];rfl
theorem bnF {α:Type} {n m:Int} {a b:α} (h:n=m):(bif n !=m then a else b)=b:=by rw[show(n !=m)=false from by subst h;exact bne_self_eq_false n];rfl
theorem key_cases (c:UInt8):(c.toNat=45/\keyCh c=true)\/(c.toNat=46/\keyCh c=true)\/(c.toNat=47/\keyCh c=true)\/((48<=c.toNat/\c.toNat<=57)/\keyCh c=true)\/(c.toNat=95/\keyCh c=true)\/((97<=c.toNat/\c.toNat<=122)/\keyCh c=true)\/
  (c.toNat<45/\keyCh c=false)\/((57<c.toNat/\c.toNat<97/\c.toNat≠95)/\keyCh c=false)\/(122<c.toNat/\keyCh c=false):=by
 by_cases h:keyCh c=true
 ·have:=keyCh_iff.1 h;rw[h];simp only[and_true,reduceCtorEq,and_false,or_false];omega
 ·have h:keyCh c=false:=by simpa using h
  have:=keyCh_not.1 h;rw[h];simp only[and_true,reduceCtorEq,and_false,false_or];omega
theorem keyCh_n (c:UInt8):okeyCh (c,())=some (keyCh c,()):=by
 rw[ekeyCh];rcases key_cases c with⟨h,e⟩|⟨h,e⟩|⟨h,e⟩|⟨h,e⟩|⟨h,e⟩|⟨h,e⟩|⟨h,e⟩|⟨h,e⟩|⟨h,e⟩<;>rw[e]<;>simp(disch:=omega) only[cdT,cdF,beT,beF]
theorem dKey_l (t2:Bool) (s:L8) (hl:s.length<=140737488355328):∀(rest done:L8) (n:Nat),s=done++rest->rest.length<n->hdKey_0 n s t2 (s.length:Int) (done.length:Int)=some (rest.all keyCh&&(decide (1<=s.length)&&decide (s.length<=40)),())
 |[],done,n,hs,hn=>by
  obtain⟨m,rfl⟩:∃m,n=m+1:=⟨n-1,by omega⟩
  have:s.length=done.length:=by rw[hs];simp
  rw[edKey_0,cdF (by omega)];simp only[List.all_nil,Bool.true_and];by_cases h1:1<=s.length
  ·rw[cdT (by omega)];by_cases h2:s.length<=40
   ·rw[cdT (by omega)];simp[h1,h2]
   ·rw[cdF (by omega)];simp[h1,h2]
  ·rw[cdF (by omega)];simp[h1]
 |c::rest,done,n,hs,hn=>by
  obtain⟨m,rfl⟩:∃m,n=m+1:=⟨n-1,by omega⟩
  have hsl:s.length=done.length+(rest.length+1):=by rw[hs];simp
  simp only[List.length_cons] at hn;have ih:=dKey_l t2 s hl rest (done++[c]) m (by simp[hs]) (by omega);simp only[List.length_append,List.length_singleton,Int.natCast_add] at ih;have hg:s.getD done.length 0=c:=by rw[hs,getD_mid]
  have hc:=c.toNat_lt;rw[edKey_0];simp only[Int.toNat_natCast,hg,UInt8.ofNat_toNat];rw[cdT (by omega)];cases hb:keyCh c
  ·rw[cond_false];simp(disch:=omega) only[gdT,gd_nil,inK_u8];simp[hb]
  ·rw[cond_true];simp(disch:=omega) only[gdT,gd_nil,inK_u8,inK_i64];simp only[List.all_cons,hb,Bool.true_and];exact ih
theorem dKey_n (s:L8) (h:bndS s=true):odKey (s,())=some (isKey s,()):=by
 have h:s.length<=140737488355328:=of_decide_eq_true h;rw[edKey];exact dKey_l false s h s [] heads0 rfl (by unfold heads0;omega)
theorem rKey_l (t2:Bool) (s:L8) (hl:s.length<=140737488355328):∀(rest done:L8) (n:Nat),s=done++rest->rest.length<n->hrKey_0 n s t2 (done.length:Int)=some (rest.all keyCh&&(decide (1<=s.length)&&decide (s.length<=40)),())
 |[],done,n,hs,hn=>by
  obtain⟨m,rfl⟩:∃m,n=m+1:=⟨n-1,by omega⟩
  have:s.length=done.length:=by rw[hs];simp
  rw[erKey_0,cdF (by omega)];simp only[List.all_nil,Bool.true_and];by_cases h1:1<=s.length
  ·rw[cdT (by omega)];by_cases h2:s.length<=40
   ·rw[cdT (by omega)];simp[h1,h2]
   ·rw[cdF (by omega)];simp[h1,h2]
  ·rw[cdF (by omega)];simp[h1]
 |c::rest,done,n,hs,hn=>by
  obtain⟨m,rfl⟩:∃m,n=m+1:=⟨n-1,by omega⟩
  have hsl:s.length=done.length+(rest.length+1):=by rw[hs];simp
  simp only[List.length_cons] at hn;have ih:=rKey_l t2 s hl rest (done++[c]) m (by simp[hs]) (by omega);simp only[List.length_append,List.length_singleton,Int.natCast_add] at ih;have hg:s.getD done.length 0=c:=by rw[hs,getD_mid]
  have hc:=c.toNat_lt;rw[erKey_0];simp only[Int.toNat_natCast,hg];rcases key_cases c with⟨h,e⟩|⟨h,e⟩|⟨h,e⟩|⟨h,e⟩|⟨h,e⟩|⟨h,e⟩|⟨h,e⟩|⟨h,e⟩|⟨h,e⟩<;>simp(disch:=omega) only[cdT,cdF,bnT,bnF,gdT,gd_nil,inK_i64]<;>simp only[List.all_cons,e,Bool.true_and,Bool.false_and]<;>first|rfl|exact ih
theorem rKey_n (s:L8) (h:bndS s=true):orKey (s,())=some (isKey s,()):=by
 have h:s.length<=140737488355328:=of_decide_eq_true h;rw[erKey];exact rKey_l false s h s [] heads0 rfl (by unfold heads0;omega)
theorem anum_n (s:L8) (most lo hi:Int) (h:bndS s=true):oanum (s,most,lo,hi,())=some ((numN s most lo hi).1,(numN s most lo hi).2,()):=by
 rw[eanum];have hp:(bndS s&&(decide True&&decide True))=true:=by rw[h];rfl
 simp only[gdB hp,gd_nil,idxF_ge,numN];cases allDig s
 ·simp only[Bool.not_false,cond_true,Bool.false_and]
 ·simp only[Bool.not_true,cond_false,Bool.true_and];cases(intN s).2
  ·simp only[cond_false,Bool.false_and]
  ·simp only[cond_true,Bool.true_and];by_cases h1:(s.length:Int)<=most
   ·rw[cdT h1,decide_eq_true h1,Bool.true_and];by_cases h2:(intN s).1>=lo
    ·rw[cdT h2,decide_eq_true h2,Bool.true_and];by_cases h3:(intN s).1<=hi
     ·rw[cdT h3,decide_eq_true h3]
     ·rw[cdF h3,decide_eq_false h3]
    ·rw[cdF h2,decide_eq_false h2,Bool.false_and]
   ·rw[cdF h1,decide_eq_false h1,Bool.false_and]
theorem hp_n (s p:L8):ohp (s,p,())=some (hasPre s p,()):=by
 rw[ehp];unfold hasPre;by_cases h:p.length<=s.length
 ·rw[cdT (by omega),decide_eq_true h,Bool.true_and,gdT (by omega),gdT (by omega),gd_nil,gd_nil,Int.toNat_natCast];cases(s.take p.length==p)<;>rfl
 ·rw[cdF (by omega),decide_eq_false h,Bool.false_and]
theorem hasPre_len {s p:L8} (h:hasPre s p=true):p.length<=s.length:=by
 unfold hasPre at h;rw[Bool.and_eq_true,decide_eq_true_eq] at h;exact h.1
theorem cp_n (s p:L8):ocp (s,p,())=some ((cutPre s p).1,(cutPre s p).2,()):=by
 rw[ecp];unfold cutPre;cases hb:hasPre s p
 ·rfl
 ·have:=hasPre_len hb;rw[cond_true,cond_true,gdT (by omega),gd_nil,Int.toNat_natCast]
open Go Go.Eng Nice
set_option maxRecDepth 100000
theorem numN_pos {s:L8} {most lo hi:Int} (h:(numN s most lo hi).2=true):0<s.length:=by
 cases s with
 |nil=>simp[numN,intN,Lib.parseIntB] at h
 |cons c r=>simp
theorem cutPre_bnd {q p:L8} (h:bndS q=true):bndS (cutPre q p).1=true:=by
 have h:q.length<=140737488355328:=of_decide_eq_true h;refine decide_eq_true ?_;unfold cutPre;cases hasPre q p
 ·exact h
 ·simp only[cond_true,List.length_drop];omega
theorem digsF_len:∀(f n:Nat) (acc:L8),(digsF f n acc).length<=f+acc.length
 |0,n,acc=>by simp[digsF]
 |f+1,n,acc=>by
  simp only[digsF]
  split
  ·simp;omega
  ·have:=digsF_len f (n/10) (UInt8.ofNat (48+n%10)::acc);simp only[List.length_cons] at this;omega
theorem u64w {n:Int} (h0:0<=n) (h1:n<18446744073709551616):IntKind.u64.wrap n=n:=by
 show n%18446744073709551616=n;exact Int.emod_eq_of_lt h0 h1
theorem rdigits_l (t2:L8):∀(f n:Nat) (u:Nat) (acc:L8),u<18446744073709551616->u<10^f->acc.length<=100-f->f<=20->0<f->f<n->hrdigits_0 n (u:Int) t2 acc=some (digsF f u acc,())
 |0,n,u,acc,_,_,_,_,h0,_=>absurd h0 (Nat.lt_irrefl 0)
 |f+1,n,u,acc,hu,h10,hl,hf,_,hn=>by
  obtain⟨m,rfl⟩:∃m,n=m+1:=⟨n-1,by omega⟩
  have e1:(u:Int).tmod 10=((u%10:Nat):Int):=rfl;have e2:(u:Int).tdiv 10=((u/10:Nat):Int):=rfl;have e3:UInt8.ofNat (IntKind.u8.wrap (IntKind.u64.wrap ((48:Int)+((u%10:Nat):Int)))).toNat=UInt8.ofNat (48+u%10):=by
   rw[u64w (by omega) (by omega),wrap_u8];congr 1;omega
  rw[erdigits_0];simp only[e1,e2,e3,List.length_singleton];rw[gdT (by omega),gd_nil,u64w (by omega) (by omega)];simp only[digsF];by_cases h:u/10=0
  ·rw[if_pos h,beT (by omega)];rfl
  ·rw[if_neg h,beF (by omega)];have hf0:0<f:=by
    rcases Nat.eq_zero_or_pos f with h'|h'
    ·subst h';simp at h10;omega
    ·exact h'
   exact rdigits_l t2 f m (u/10) (UInt8.ofNat (48+u%10)::acc) (by omega) (by rw[Nat.pow_succ] at h10;omega) (by simp;omega) (by omega) hf0 (by omega)
theorem rdigits_n (u:Int) (h:(decide (0<=u)&&decide (u<18446744073709551616))=true):ordigits (u,())=some (digs u,()):=by
 rw[Bool.and_eq_true,decide_eq_true_eq,decide_eq_true_eq] at h;obtain⟨n,rfl⟩:∃n:Nat,u=(n:Int):=⟨u.toNat,by omega⟩
 rw[erdigits];have:=rdigits_l [] 20 heads0 n [] (by omega) (by omega) (by simp) (by omega) (by omega) (by unfold heads0;omega);simpa[digs] using this
theorem digs_len (u:Int):(digs u).length<=20:=by
 have:=digsF_len 20 u.toNat [];simpa[digs] using this
theorem rDigits_n (n:Int) (h:(decide (-9223372036854775808<=n)&&decide (n<=9223372036854775807))=true):orDigits (n,())=some (digits n,()):=by
 rw[Bool.and_eq_true,decide_eq_true_eq,decide_eq_true_eq] at h;rw[erDigits];unfold digits;by_cases h0:n<0
 ·rw[cdT h0,if_pos h0];have i1:IntKind.u64.wrap ((0:Int)-(n+1))=0-(n+1):=u64w (by omega) (by omega);have e:IntKind.u64.wrap (IntKind.u64.wrap ((0:Int)-(n+1))+1)= -n:=by
   rw[i1,u64w (by omega) (by omega)];omega
  rw[e];have hl:=digs_len (-n);rw[gdT (by omega),gdB (by rw[decide_eq_true (by omega),decide_eq_true (by omega)];rfl),gdT (by rw[inK_i64];omega),gdT (by rw[inK_i64];omega),gd_nil];rfl
 ·rw[cdF h0,if_neg h0,u64w (by omega) (by omega),gdB (by rw[decide_eq_true (by omega),decide_eq_true (by omega)];rfl),gd_nil]
open Go Go.Eng Nice
set_option maxRecDepth 100000
theorem kT {α:Type} (a b:α):(bif true then a else b)=a:=Eq.trans (cond_true a b) rfl
theorem kF {α:Type} (a b:α):(bif false then a else b)=b:=Eq.trans (cond_false a b) rfl
theorem kG {α:Type} (r:Option α):gd [] r=r:=Eq.trans gd_nil rfl
theorem i00:((0:Int)==0)=true:=by decide
theorem i10:((1:Int)==0)=false:=by decide
theorem i11:((1:Int)==1)=true:=by decide
theorem i20:((2:Int)==0)=false:=by decide
theorem i21:((2:Int)==1)=false:=by decide
theorem i22:((2:Int)==2)=true:=by decide
theorem i30:((3:Int)==0)=false:=by decide
theorem i31:((3:Int)==1)=false:=by decide
theorem i32:((3:Int)==2)=false:=by decide
theorem i33:((3:Int)==3)=true:=by decide
def P0 (n:Nat) (q:L8) (a z:AskD) (t5:Bool) (sn:SeenD):Option (DenL [AskT,.bool]):=
 hrparts_0 n q a.1 a.2.1 a.2.2.1 a.2.2.2.1 a.2.2.2.2.1 a.2.2.2.2.2.1 a.2.2.2.2.2.2.1 a.2.2.2.2.2.2.2.1 a.2.2.2.2.2.2.2.2.1 a.2.2.2.2.2.2.2.2.2.1 z.1 z.2.1 z.2.2.1 z.2.2.2.1 z.2.2.2.2.1 z.2.2.2.2.2.1 z.2.2.2.2.2.2.1 z.2.2.2.2.2.2.2.1 z.2.2.2.2.2.2.2.2.1 z.2.2.2.2.2.2.2.2.2.1 t5 sn.1 sn.2.1 sn.2.2.1 sn.2.2.2
def P1 (n:Nat) (q:L8) (a z:AskD) (t5:Bool) (sn:SeenD) (k:Int):Option (DenL [AskT,.bool]):=
 hrparts_1 n q a.1 a.2.1 a.2.2.1 a.2.2.2.1 a.2.2.2.2.1 a.2.2.2.2.2.1 a.2.2.2.2.2.2.1 a.2.2.2.2.2.2.2.1 a.2.2.2.2.2.2.2.2.1 a.2.2.2.2.2.2.2.2.2.1 z.1 z.2.1 z.2.2.1 z.2.2.2.1 z.2.2.2.2.1 z.2.2.2.2.2.1 z.2.2.2.2.2.2.1 z.2.2.2.2.2.2.2.1 z.2.2.2.2.2.2.2.2.1 z.2.2.2.2.2.2.2.2.2.1 t5 sn.1 sn.2.1 sn.2.2.1 sn.2.2.2 k
def P2 (n:Nat) (q:L8) (a z:AskD) (t5:Bool) (sn:SeenD) (k:Int) (p:L8) (w i:Int):Option (DenL [AskT,.bool]):=
 hrparts_2 n q a.1 a.2.1 a.2.2.1 a.2.2.2.1 a.2.2.2.2.1 a.2.2.2.2.2.1 a.2.2.2.2.2.2.1 a.2.2.2.2.2.2.2.1 a.2.2.2.2.2.2.2.2.1 a.2.2.2.2.2.2.2.2.2.1 z.1 z.2.1 z.2.2.1 z.2.2.2.1 z.2.2.2.2.1 z.2.2.2.2.2.1 z.2.2.2.2.2.2.1 z.2.2.2.2.2.2.2.1 z.2.2.2.2.2.2.2.2.1 z.2.2.2.2.2.2.2.2.2.1 t5 sn.1 sn.2.1 sn.2.2.1 sn.2.2.2 k p ePre eAft eMax eVer w i
section
variable (n:Nat) (q:L8) (a z:AskD) (t5:Bool) (sn:SeenD) (k:Int) (p:L8) (w:Int)
theorem p_0:P0 (n+1) q a z t5 sn=P1 n q a z t5 sn 0:=by unfold P0;rw[erparts_0];rfl
theorem w_0:P2 (n+1) q a z t5 sn k p w 0=P2 n q a z t5 sn k p (bif hasPre p ePre then 0 else w) 1:=by
 unfold P2;rw[erparts_2_0];have hp:hasPre p ePre=(decide (7<=p.length)&&List.take 7 p==ePre):=rfl;rw[hp];by_cases h:7<=p.length
 ·rw[cdT (by omega),decide_eq_true h,Bool.true_and];cases List.take 7 p==ePre
  ·rw[cond_false,gdT (inK_i64.2 ⟨by decide,by decide⟩),gdT (by omega),gd_nil,cond_false]
  ·rw[cond_true,gdT (inK_i64.2 ⟨by decide,by decide⟩),gdT (by omega),gd_nil,cond_true]
 ·rw[cdF (by omega),gdT (inK_i64.2 ⟨by decide,by decide⟩),gd_nil,decide_eq_false h,Bool.false_and,cond_false]
theorem w_1:P2 (n+1) q a z t5 sn k p w 1=P2 n q a z t5 sn k p (bif hasPre p eAft then 1 else w) 2:=by
 unfold P2;rw[erparts_2_1];have hp:hasPre p eAft=(decide (6<=p.length)&&List.take 6 p==eAft):=rfl;rw[hp];by_cases h:6<=p.length
 ·rw[cdT (by omega),decide_eq_true h,Bool.true_and];cases List.take 6 p==eAft
  ·rw[cond_false,gdT (inK_i64.2 ⟨by decide,by decide⟩),gdT (by omega),gd_nil,cond_false]
  ·rw[cond_true,gdT (inK_i64.2 ⟨by decide,by decide⟩),gdT (by omega),gd_nil,cond_true]
 ·rw[cdF (by omega),gdT (inK_i64.2 ⟨by decide,by decide⟩),gd_nil,decide_eq_false h,Bool.false_and,cond_false]
theorem w_2:P2 (n+1) q a z t5 sn k p w 2=P2 n q a z t5 sn k p (bif hasPre p eMax then 2 else w) 3:=by
 unfold P2;rw[erparts_2_2];have hp:hasPre p eMax=(decide (4<=p.length)&&List.take 4 p==eMax):=rfl;rw[hp];by_cases h:4<=p.length
 ·rw[cdT (by omega),decide_eq_true h,Bool.true_and];cases List.take 4 p==eMax
  ·rw[cond_false,gdT (inK_i64.2 ⟨by decide,by decide⟩),gdT (by omega),gd_nil,cond_false]
  ·rw[cond_true,gdT (inK_i64.2 ⟨by decide,by decide⟩),gdT (by omega),gd_nil,cond_true]
 ·rw[cdF (by omega),gdT (inK_i64.2 ⟨by decide,by decide⟩),gd_nil,decide_eq_false h,Bool.false_and,cond_false]
theorem w_3:P2 (n+1) q a z t5 sn k p w 3=P2 n q a z t5 sn k p (bif hasPre p eVer then 3 else w) 4:=by
 unfold P2;rw[erparts_2_3];have hp:hasPre p eVer=(decide (9<=p.length)&&List.take 9 p==eVer):=rfl;rw[hp];by_cases h:9<=p.length
 ·rw[cdT (by omega),decide_eq_true h,Bool.true_and];cases List.take 9 p==eVer
  ·rw[cond_false,gdT (inK_i64.2 ⟨by decide,by decide⟩),gdT (by omega),gd_nil,cond_false]
  ·rw[cond_true,gdT (inK_i64.2 ⟨by decide,by decide⟩),gdT (by omega),gd_nil,cond_true]
 ·rw[cdF (by omega),gdT (inK_i64.2 ⟨by decide,by decide⟩),gd_nil,decide_eq_false h,Bool.false_and,cond_false]
theorem w_all:P2 (n+4) q a z t5 sn k p (-1) 0=P2 n q a z t5 sn k p (whichN p) 4:=by
 rw[w_0,w_1,w_2,w_3];rfl
end
theorem whichN_len (p:L8):(whichN p= -1)\/(whichN p=0/\7<=p.length)\/(whichN p=1/\6<=p.length)\/(whichN p=2/\4<=p.length)\/(whichN p=3/\9<=p.length):=by
 have key:∀s:L8,hasPre p s=true->s.length<=p.length:=λs h=>by
  unfold hasPre at h;rw[Bool.and_eq_true,decide_eq_true_eq] at h;exact h.1
 unfold whichN;cases h3:hasPre p eVer
 ·cases h2:hasPre p eMax
  ·cases h1:hasPre p eAft
   ·cases h0:hasPre p ePre
    ·exact .inl rfl
    ·exact .inr (.inl ⟨rfl,key _ h0⟩)
   ·exact .inr (.inr (.inl ⟨rfl,key _ h1⟩))
  ·exact .inr (.inr (.inr (.inl ⟨rfl,key _ h2⟩)))
 ·exact .inr (.inr (.inr (.inr ⟨rfl,key _ h3⟩)))
theorem bnd_drop {s:L8} {k:Nat} (h:s.length<=140737488355328):bndS (s.drop k)=true:=by
 unfold bndS;rw[decide_eq_true_eq,List.length_drop];omega
theorem rnP {s:L8} {k:Nat} (h:s.length<=140737488355328):refNumP (s.drop k) 2=true:=by
 unfold refNumP;rw[Bool.and_eq_true,decide_eq_true_eq,decide_eq_true_eq,List.length_drop];omega
theorem p_end (n:Nat) (q:L8) (a z:AskD) (t5:Bool) (sn:SeenD) (p:L8) (hp:p.length<=q.length) (hq:q.length<=140737488355328):
  P2 (n+1) q a z t5 sn (p.length:Int) p (whichN p) 4=bif (pset p sn a).2.1 then
   (bif decide (p.length=q.length) then some ((pset p sn a).1,true,()) else P0 n (q.drop (p.length+1)) (pset p sn a).1 z t5 (pset p sn a).2.2)
   else some ((pset p sn a).1,false,()):=by
 obtain⟨a0,a1,a2,a3,a4,a5,a6,a7,a8,a9,⟨⟩⟩:=a;obtain⟨s0,s1,s2,s3⟩:=sn;have hb:p.length<=140737488355328:=by omega
 have hne:∀{α:Type} {x y:α},p.length≠q.length->(bif ((p.length:Int)==(q.length:Int)) then x else y)=y:=λ{α x y} h=>by
  rw[beq_eq_false_iff_ne.2 (by omega),kF]
 have heq:∀{α:Type} {x y:α},p.length=q.length->(bif ((p.length:Int)==(q.length:Int)) then x else y)=x:=λ{α x y} h=>by
  rw[h,beq_self_eq_true,kT]
 have ht:((p.length:Int)+1).toNat=p.length+1:=by omega
 unfold P2 pset;rcases whichN_len p with h|⟨h,hl⟩|⟨h,hl⟩|⟨h,hl⟩|⟨h,hl⟩<;>rw[h]
 ·rw[erparts_2_4];rfl
 ·rw[erparts_2_5];cases s0
  ·simp only[i00,kT,kF];rw[gdT (by omega),kG];cases keyB (p.drop 7)
   ·simp only[kF];rw[gdB (bnd_drop hb),kG];rfl
   ·simp only[kT];rw[gdB (bnd_drop hb),kG];by_cases h:p.length=q.length
    ·rw[heq h,decide_eq_true h,kT];rfl
    ·rw[hne h,decide_eq_false h,kF];simp(disch:=omega) only[gdT,kG,inK_i64,ht];rfl
  ·rfl
 ·rw[erparts_2_6];cases s1
  ·simp only[i10,i11,kT,kF];rw[gdT (by omega),kG];cases keyB (p.drop 6)
   ·simp only[kF];rw[gdB (bnd_drop hb),kG];rfl
   ·simp only[kT];rw[gdB (bnd_drop hb),kG];by_cases h:p.length=q.length
    ·rw[heq h,decide_eq_true h,kT];rfl
    ·rw[hne h,decide_eq_false h,kF];simp(disch:=omega) only[gdT,kG,inK_i64,ht];rfl
  ·rfl
 ·rw[erparts_2_7];cases s2
  ·simp only[i20,i21,i22,kT,kF];rw[gdT (by omega),kG];cases(refNum (p.drop 4) 2).2
   ·simp only[kF,Bool.false_and];rw[gdB (rnP hb),kG]
   ·simp only[kT,Bool.true_and];rw[gdB (rnP hb),kG];by_cases h1:(refNum (p.drop 4) 2).1<1
    ·rw[cdT h1,decide_eq_true h1];rfl
    ·rw[cdF h1,decide_eq_false h1];by_cases h2:(refNum (p.drop 4) 2).1>20
     ·rw[cdT h2,decide_eq_true h2];rfl
     ·rw[cdF h2,decide_eq_false h2];simp only[Bool.not_false,Bool.true_and,kT];by_cases h:p.length=q.length
      ·rw[heq h,decide_eq_true h,kT];rfl
      ·rw[hne h,decide_eq_false h,kF];simp(disch:=omega) only[gdT,kG,inK_i64,ht];rfl
  ·rfl
 ·rw[erparts_2_8];cases s3
  ·simp only[i30,i31,i32,i33,kT,kF];rw[gdT (by omega),kG];cases p.drop 9==[49]
   ·simp only[Bool.not_false,kT,kF]
   ·simp only[Bool.not_true,kT,kF];by_cases h:p.length=q.length
    ·rw[heq h,decide_eq_true h,kT];rfl
    ·rw[hne h,decide_eq_false h,kF];simp(disch:=omega) only[gdT,kG,inK_i64,ht];rfl
  ·rfl
theorem p_1 (q:L8) (a z:AskD) (t5:Bool) (sn:SeenD) (hq:q.length<=140737488355328):∀(rest done:L8) (n:Nat),q=done++rest->hasB 38 done=false->(upTo 38 rest).length<n->
  P1 n q a z t5 sn (done.length:Int)=P2 (n-((upTo 38 rest).length+1)) q a z t5 sn ((upTo 38 q).length:Int) (upTo 38 q) (-1) 0
 |[],done,n,hs,hd,hn=>by
  obtain⟨m,rfl⟩:∃m,n=m+1:=⟨n-1,by omega⟩
  have e:upTo 38 q=q:=upTo_not 38 q (by rw[hs,List.append_nil];exact hd);have hl:q.length=done.length:=by rw[hs];simp
  unfold P1;rw[erparts_1,cdF (by omega)];simp(disch:=omega) only[gdT,gd_nil,Int.toNat_natCast];rw[e,<-hl,List.take_length];rfl
 |c::rest,done,n,hs,hd,hn=>by
  obtain⟨m,rfl⟩:∃m,n=m+1:=⟨n-1,by omega⟩
  have hl:q.length=done.length+(rest.length+1):=by rw[hs];simp
  have hg:q.getD done.length 0=c:=by rw[hs,getD_mid]
  unfold P1;rw[erparts_1,cdT (by omega)];simp only[Int.toNat_natCast,hg];by_cases hc:c=38
  ·subst hc;have hu:upTo 38 ((38:UInt8)::rest)=[]:=rfl;have hq':∀d:L8,hasB 38 d=false->upTo 38 (d++(38:UInt8)::rest)=d:=by
    intro d
    induction d with
    |nil=>intro _;rfl
    |cons b d ih=>
     intro h;simp only[hasB,List.any_cons,Bool.or_eq_false_iff] at h;simp only[List.cons_append,upTo,h.1,cond_false];rw[ih h.2]
   rw[show(((38:UInt8).toNat:Int) !=38)=false from rfl,cond_false];simp(disch:=omega) only[gdT,gd_nil];have e:upTo 38 q=done:=by rw[hs];exact hq' done hd
   rw[e,hu,show List.take done.length q=done by rw[hs,List.take_left]];rfl
  ·have h1:((c.toNat:Int) !=38)=true:=by
    have:c.toNat≠38:=λe=>hc (UInt8.toNat.inj e)
    rw[bne_iff_ne];omega
   have h2:(c==38)=false:=by rw[beq_eq_false_iff_ne];exact hc
   have hu:upTo 38 (c::rest)=c::upTo 38 rest:=by simp only[upTo,h2,cond_false]
   rw[hu] at hn⊢;simp only[List.length_cons] at hn;rw[h1,cond_true];simp(disch:=omega) only[gdT,gd_nil,inK_i64];have ih:=p_1 q a z t5 sn hq rest (done++[c]) m (by rw[hs];simp) (by
    simp only[hasB,List.any_append,List.any_cons,List.any_nil,Bool.or_false,h2] at hd⊢;exact hd) (by omega)
   simp only[List.length_append,List.length_singleton,Int.natCast_add] at ih;have en:m+1-((c::upTo 38 rest).length+1)=m-((upTo 38 rest).length+1):=by simp only[List.length_cons];omega
   rw[en];exact ih
theorem parts_l (z:AskD) (t5:Bool):∀(f:Nat) (q:L8) (a:AskD) (sn:SeenD) (N:Nat),q.length<f->q.length<=140737488355328->8*(q.length+1)<=N->
  P0 N q a z t5 sn=some ((partsGo f q sn a).1,(partsGo f q sn a).2,())
 |0,q,a,sn,N,h,_,_=>absurd h (Nat.not_lt_zero _)
 |f+1,q,a,sn,N,h,hq,hN=>by
  obtain⟨m,rfl⟩:∃m,N=m+1:=⟨N-1,by omega⟩
  have hu:=upTo_len 38 q;rw[p_0];have h1:=p_1 q a z t5 sn hq q [] m rfl rfl (by omega);rw[show(([]:L8).length:Int)=0 from rfl] at h1;rw[h1];obtain⟨j,hj⟩:∃j,m-((upTo 38 q).length+1)=j+1+4:=⟨m-((upTo 38 q).length+1)-5,by omega⟩
  rw[hj,w_all,p_end j q a z t5 sn (upTo 38 q) hu hq];unfold partsGo;cases(pset (upTo 38 q) sn a).2.1
  ·rfl
  ·simp only[cond_true];by_cases he:(upTo 38 q).length=q.length
   ·rw[decide_eq_true he];rfl
   ·rw[decide_eq_false he,cond_false];exact parts_l z t5 f _ _ _ j (by rw[List.length_drop];omega) (by rw[List.length_drop];omega) (by rw[List.length_drop];omega)
theorem rparts_n (q:L8) (a:AskD) (h:bndS q=true):orparts (q,a,())=some ((partsN q a).1,(partsN q a).2,()):=by
 have hq:q.length<=140737488355328:=of_decide_eq_true h;rw[orparts_g,erparts_g];unfold partsN;cases q==[]
 ·simp only[cond_false];exact parts_l zAsk false (q.length+1) q a (false,false,false,false) heads0 (by omega) hq (by unfold heads0;omega)
 ·rfl
theorem rkeyB_n (s:L8) (h:bndS s=true):orkeyB (s,())=some (keyB s,()):=by
 rw[orkeyB_g,erkeyB_g];unfold keyB;cases s==[]<;>cases isKey s<;>simp[gd,h]
open Go Go.Eng Nice
set_option maxRecDepth 100000
theorem hsuf_n (s p:L8) (h:bndS s=true):ohsuf (s,p,())=some (hasSuf s p,()):=by
 have h:s.length<=140737488355328:=of_decide_eq_true h;rw[ohsuf_g,ehsuf_g];unfold hasSuf;by_cases hl:p.length<=s.length
 ·have e:((s.length:Int)-(p.length:Int)).toNat=s.length-p.length:=by omega
  rw[cdT (by omega),decide_eq_true hl,Bool.true_and,e];cases s.drop (s.length-p.length)==p
  ·rw[kF];simp(disch:=omega) only[gdT,kG,inK_i64]
  ·rw[kT];simp(disch:=omega) only[gdT,kG,inK_i64]
 ·rw[cdF (by omega),decide_eq_false hl,Bool.false_and]
theorem csuf_n (s p:L8) (h:bndS s=true):ocsuf (s,p,())=some ((cutSuf s p).1,(cutSuf s p).2,()):=by
 have hb:s.length<=140737488355328:=of_decide_eq_true h;rw[ocsuf_g,ecsuf_g];unfold cutSuf;cases hs:hasSuf s p
 ·simp only[kF]
  try rw[gdB h,kG]
 ·have hl:p.length<=s.length:=by
   unfold hasSuf at hs;rw[Bool.and_eq_true,decide_eq_true_eq] at hs;exact hs.1
  have e:((s.length:Int)-(p.length:Int)).toNat=s.length-p.length:=by omega
  simp only[kT,e];simp(disch:=first|omega|exact h) only[gdT,gdB,kG,inK_i64]
theorem sidx_l (x:L8) (t4:Int) (len:Nat):∀(rest done:List (L8)) (n:Nat),len=done.length+rest.length->len<=1000->rest.length<n->
  hsidx_0 n (done++rest) x t4 (len:Int) (done.length:Int)=some (idxG x rest (done.length:Int),())
 |[],done,n,he,hl,hn=>by
  obtain⟨m,rfl⟩:∃m,n=m+1:=⟨n-1,by omega⟩
  simp only[List.length_nil] at he;rw[esidx_0,cdF (by omega)];rfl
 |c::rest,done,n,he,hl,hn=>by
  obtain⟨m,rfl⟩:∃m,n=m+1:=⟨n-1,by omega⟩
  simp only[List.length_cons] at he hn;have ih:=sidx_l x t4 len rest (done++[c]) m (by simp;omega) hl (by omega);simp only[List.append_assoc,List.singleton_append,List.length_append,List.length_singleton,Int.natCast_add] at ih;rw[esidx_0,cdT (by omega)];simp only[Int.toNat_natCast,getD_mid,List.length_append,List.length_cons,idxG]
  cases x==c
  ·simp only[kF];simp(disch:=omega) only[gdT,kG,inK_i64];exact ih
  ·simp only[kT];simp(disch:=omega) only[gdT,kG,inK_i64]
theorem sidx_n (l:List (L8)) (x:L8) (h:decide (l.length<=1000)=true):osidx (l,x,())=some (idxS l x,()):=by
 have h:=of_decide_eq_true h;rw[osidx_g,esidx_g];exact sidx_l x 0 l.length l [] heads0 (by simp) h (by unfold heads0;omega)
theorem idxG_ge (x:L8):∀(l:List (L8)) (k:Int),0<=k->decide (idxG x l k>=0)=hasS l x
 |[],k,h=>by rfl
 |c::r,k,h=>by
  have ih:=idxG_ge x r (k+1) (by omega);unfold idxG hasS;simp only[List.any_cons];cases x==c
  ·simp only[kF,Bool.false_or];exact ih
  ·simp only[kT,Bool.true_or];exact decide_eq_true h
theorem shas_n (l:List (L8)) (x:L8) (h:decide (l.length<=1000)=true):oshas (l,x,())=some (hasS l x,()):=by
 rw[oshas_g,eshas_g];have e:decide (idxS l x>=0)=hasS l x:=idxG_ge x l 0 (Int.le_refl 0);rw[e];cases hasS l x<;>simp only[kT,kF]<;>rw[gdB h,kG]
theorem aconds_n (m p q:L8) (hs:HeadL) (b:L8) (h:condsP hs=true):oaconds ((m,p,q,hs,b,()),())=some ((condsN hs).1,(condsN hs).2.1,(condsN hs).2.2,()):=by
 unfold condsP at h;rw[Bool.and_eq_true,Bool.and_eq_true] at h;obtain⟨⟨h1,h2⟩,h3⟩:=h;rw[oaconds_g,eaconds_g];unfold condsN;cases(valueN hs inmW).2
 ·simp only[kF];rw[gdB h1,kG];cases(valueN hs imW).2
  ·simp only[kF];rw[gdB h2,kG]
  ·simp only[kT];have hb:bndS (cutPre (valueN hs imW).1 [34]).1=true:=by
    have h3:(valueN hs imW).1.length<=140737488355328:=of_decide_eq_true h3;unfold cutPre;cases hasPre (valueN hs imW).1 [34]
    ·exact decide_eq_true h3
    ·exact decide_eq_true (by show((valueN hs imW).1.drop _).length<=_;rw[List.length_drop];omega)
   rw[gdB hb,gdB h2,kG];unfold tagA;cases(gRead (cutSuf (cutPre (valueN hs imW).1 [34]).1 [34]).1).2<;>cases(cutPre (valueN hs imW).1 [34]).2<;>cases(cutSuf (cutPre (valueN hs imW).1 [34]).1 [34]).2<;>simp only[kT,kF,Bool.and_true,Bool.and_false,Bool.true_and,Bool.false_and]
 ·simp only[kT];rw[gdB h1,kG];cases(valueN hs imW).2
  ·simp only[kF];rw[gdB h2,kG];cases(valueN hs inmW).1==[42]<;>simp only[kT,kF]
  ·simp only[kT];rw[gdB h2,kG]
theorem rconds_n (m p q:L8) (hs:HeadL) (b:L8) (a:AskD) (h:condsP hs=true):orconds ((m,p,q,hs,b,()),a,())=some ((rcondsN hs a).1,(rcondsN hs a).2,()):=by
 unfold condsP at h;rw[Bool.and_eq_true,Bool.and_eq_true] at h;obtain⟨⟨h1,h2⟩,h3⟩:=h;have h3:(valueN hs imW).1.length<=140737488355328:=of_decide_eq_true h3;rw[orconds_g,erconds_g];unfold rcondsN;cases(valueN hs inmW).2
 ·simp only[kF];rw[gdB h1,kG];cases(valueN hs imW).2
  ·simp only[kF];rw[gdB h2,kG]
  ·simp only[kT];rw[gdB h2,kG];generalize (valueN hs imW).1=s at h3;unfold tagRB;by_cases hl:s.length=10
   ·have e1:((s.length:Int) !=10)=false:=by rw[hl];rfl
    have e2:((s.length:Int)-1).toNat=9:=by omega
    rw[e1,kF,decide_eq_true hl,Bool.true_and,e2];have b34:∀c:UInt8,((c.toNat:Int) !=34)= !(c==34):=by
     intro c;by_cases hc:c=34
     ·subst hc;rfl
     ·have h1:c.toNat≠34:=λe=>hc (UInt8.toNat.inj e)
      rw[beq_eq_false_iff_ne.2 hc,bne_iff_ne.2 (by omega)];rfl
    rw[b34,b34];cases s.getD 0 0==34
    ·simp only[Bool.not_false,kT,Bool.false_and,kF];simp(disch:=omega) only[gdT,kG]
    ·simp only[Bool.not_true,kF,Bool.true_and];cases s.getD 9 0==34
     ·simp only[Bool.not_false,kT,Bool.false_and,kF];simp(disch:=omega) only[gdT,kG,inK_i64]
     ·simp only[Bool.not_true,kF,Bool.true_and];simp(disch:=omega) only[gdT,kG,inK_i64];have et:List.drop 1 (List.take 9 s)=tagR s:=rfl;rw[et];cases(rRead (tagR s)).2
      ·simp only[kF,Bool.not_false,kT]
      ·simp only[kT,Bool.not_true,kF];rfl
   ·have e1:((s.length:Int) !=10)=true:=by rw[bne_iff_ne];omega
    rw[e1,kT,decide_eq_false hl];rfl
 ·simp only[kT];rw[gdB h1,kG];cases(valueN hs imW).2
  ·simp only[kF];rw[gdB h2,kG];cases(valueN hs inmW).1==[42]<;>simp only[kT,kF,Bool.not_true,Bool.not_false]<;>rfl
  ·simp only[kT];rw[gdB h2,kG]
theorem akeyed_n (a:AskD) (m p q:L8) (hs:HeadL) (b:L8) (h:(condsP hs&&(bndS q&&bndS a.2.1))=true):
  oakeyed (a,(m,p,q,hs,b,()),())=some ((keyedG a m q hs b).1,(keyedG a m q hs b).2,()):=by
 rw[Bool.and_eq_true,Bool.and_eq_true] at h;obtain⟨hc,hq,hk⟩:=h;obtain⟨a0,k,a2,a3,a4,a5,a6,a7,a8,a9,⟨⟩⟩:=a;dsimp only at hk;rw[oakeyed_g,eakeyed_g];have hcb:=cutPre_bnd (p:=vPre) hq;unfold keyedG;dsimp only;rw[gdB hk,gdB hk,kG,kG];cases isKey k
 ·simp only[kF]
 ·simp only[kT];cases m==putW
  ·simp only[kF];simp only[gdB hcb,kG];unfold verN;generalize hn:numN (cutPre q vPre).fst ((cutPre q vPre).fst.length:Int) 1 1099511627776=nn;have hpos:nn.2=true->0<(cutPre q vPre).1.length:=λh=>numN_pos (by rw[hn];exact h)
   generalize hcc:cutPre q vPre=c at *;have h48:∀{α:Type} (x y:α),(bif ((c.1.getD 0 0).toNat:Int) !=48 then x else y)=bif c.1.getD 0 0==48 then y else x:=by
    intro α x y;by_cases h:c.1.getD 0 0=48
    ·rw[h];rfl
    ·rw[bnT (by intro e;exact h (UInt8.toNat.inj (show _=(48:UInt8).toNat by have:(48:UInt8).toNat=48:=rfl;omega))),show(c.1.getD 0 0==48)=false from by simpa using h];rfl
   simp only[h48];cases hd:(m==delW)<;>cases hqq:(q==[])<;>simp only[kT,kF]<;>
   ·cases h1:nn.2<;>cases h2:c.2<;>try simp only[kT,kF,Bool.true_and,Bool.false_and]
    all_goals first
     |rfl
     |(have:=hpos h1
       cases h3:(c.1.getD 0 0==48)<;>simp(disch:=omega) only[kT,kF,gdT,kG,Bool.not_true,Bool.not_false]<;>rfl)
  ·simp only[kT];rw[gdB hc,gdB hc,kG,kG];cases(condsN hs).2.2<;>cases q==[]<;>simp only[kT,kF,Bool.true_and,Bool.false_and]<;>rfl
end Go.Proofs.YtldllfocpadkeaaGreatDoor
namespace Nice
open Go Go.Eng
def cntS (s:List (L8)):Nat:=(hasS s wPre).toNat+((hasS s wAft).toNat+((hasS s wMax).toNat+(hasS s wVer).toNat))
theorem cntS_le (s:List (L8)):cntS s<=4:=by
 unfold cntS;cases hasS s wPre<;>cases hasS s wAft<;>cases hasS s wMax<;>cases hasS s wVer<;>decide
theorem hasS_add (s:List (L8)) (x y:L8):hasS (s++[x]) y=(hasS s y||y==x):=by
 unfold hasS;simp
theorem cntS_add {s:List (L8)} {x:L8} (hx:x=wPre\/x=wAft\/x=wMax\/x=wVer) (h:hasS s x=false):cntS s+1<=cntS (s++[x]):=by
 have key:∀y,(hasS s y).toNat<=(hasS (s++[x]) y).toNat:=λy=>by
  rw[hasS_add];cases hasS s y<;>cases y==x<;>decide
 have hn:(hasS (s++[x]) x).toNat=1:=by
  rw[hasS_add,beq_self_eq_true,Bool.or_true];rfl
 have h0:(hasS s x).toNat=0:=by rw[h];rfl
 have k1:=key wPre;have k2:=key wAft;have k3:=key wMax;have k4:=key wVer;unfold cntS;rcases hx with rfl|rfl|rfl|rfl<;>omega
theorem split_bnd (c:UInt8):∀(n:Nat) (s:L8),s.length<=n->(Lib.split s [c]).length<=s.length+1/\∀p,p∈Lib.split s [c]->p.length<=s.length
 |n,s,h=>by
  cases hb:hasB c s
  ·rw[split1_no c s hb];refine⟨by simp,λp hp=> ?_⟩;rw[List.mem_singleton] at hp;subst hp;exact Nat.le_refl _
  ·have hl:=upTo_lt c s hb;rw[split1_yes c s hb];cases n with
   |zero=>omega
   |succ n=>
    obtain⟨i1,i2⟩:=split_bnd c n (s.drop ((upTo c s).length+1)) (by rw[List.length_drop];omega);rw[List.length_drop] at i1 i2;refine⟨by simp only[List.length_cons];omega,λp hp=> ?_⟩;rcases List.mem_cons.1 hp with rfl|hp
    ·omega
    ·have:=i2 p hp;omega
theorem cut_bnd (c:UInt8) (s:L8):(Lib.cut s [c]).1.length<=s.length/\(Lib.cut s [c]).2.1.length<=s.length:=by
 have:=upTo_len c s;rw[cut1];cases hasB c s
 ·exact⟨Nat.le_refl _,Nat.zero_le _⟩
 ·exact⟨this,by show(s.drop _).length<=_;rw[List.length_drop];omega⟩
end Nice
namespace Go.Proofs.YtldllfocpadkeaaGreatDoor
open Go Go.Eng Nice
set_option maxRecDepth 100000
def L0 (n:Nat) (a z:AskD) (t5:Bool) (seen parts:List (L8)) (len k:Int):Option (DenL [AskT,.bool]):=
 hlisted_0 n a.1 a.2.1 a.2.2.1 a.2.2.2.1 a.2.2.2.2.1 a.2.2.2.2.2.1 a.2.2.2.2.2.2.1 a.2.2.2.2.2.2.2.1 a.2.2.2.2.2.2.2.2.1 a.2.2.2.2.2.2.2.2.2.1 z.1 z.2.1 z.2.2.1 z.2.2.2.1 z.2.2.2.2.1 z.2.2.2.2.2.1 z.2.2.2.2.2.2.1 z.2.2.2.2.2.2.2.1 z.2.2.2.2.2.2.2.2.1 z.2.2.2.2.2.2.2.2.2.1 t5 seen parts len k
theorem listed_l (z:AskD) (t5:Bool) (parts:List (L8)) (hlen:parts.length<=4294967296) (hsh:∀p,p∈parts->shortS p=true/\bndS (cutE p).2.1=true) (rest:List (L8)):
  ∀(done:List (L8)) (n:Nat) (a:AskD) (seen:List (L8)),parts=done++rest->seen.length<=cntS seen->rest.length<n->
  L0 n a z t5 seen parts (parts.length:Int) (done.length:Int)=some ((listedGo rest seen a).1,(listedGo rest seen a).2,()):=by
 induction rest with
 |nil=>
  intro done n a seen hs hc hn;obtain⟨m,rfl⟩:∃m,n=m+1:=⟨n-1,by omega⟩
  have hl:parts.length=done.length:=by rw[hs];simp
  unfold L0;rw[elisted_0,cdF (by omega)];rfl
 |cons p rest ihr=>
  intro done n a seen hs hc hn;obtain⟨m,rfl⟩:∃m,n=m+1:=⟨n-1,by omega⟩
  simp only[List.length_cons] at hn;have hl:parts.length=done.length+(rest.length+1):=by rw[hs];simp
  have ih:=λa' s' hc'=>ihr (done++[p]) m a' s' (by rw[hs];simp) hc' (by omega)
  simp only[List.length_append,List.length_singleton,Int.natCast_add] at ih;have hg:parts.getD done.length Ty.str.dflt=p:=by rw[hs];exact getD_mid _ _ _ _
  obtain⟨hp,hv⟩:=hsh p (by rw[hs];simp);have h4:=cntS_le seen;obtain⟨a0,a1,a2,a3,a4,a5,a6,a7,a8,a9,⟨⟩⟩:=a;unfold L0;rw[elisted_0,cdT (by omega)];have hq:(shortS p&&[61]==[61])=true:=by rw[hp];rfl
  simp only[Int.toNat_natCast,hg];simp(disch:=omega) only[gdT,kG];rw[gdB hq,gdB hq,kG,kG];unfold listedGo;have hd1:decide (seen.length<=1000)=true:=by rw[decide_eq_true_iff];omega
  have hd2:decide ((2*(seen.length+[(cutE p).1].length)+400)*16<=281474976710656)=true:=by
   rw[decide_eq_true_iff];simp only[List.length_singleton];omega
  try simp only[gdB hd1,kG]
  try simp only[gdB hd2,kG]
  try simp only[gdB hd1,kG]
  clear hd2;generalize cutE p=c at hv⊢
  try simp only[gdB hv,kG]
  have hi:decide (inK .i64 ((done.length:Int)+1))=true:=by
   rw[decide_eq_true_iff,inK_i64];omega
  try simp only[gdB hi,gdB hv,kG]
  have nx:∀{x:L8},c.1=x->(x=wPre\/x=wAft\/x=wMax\/x=wVer)->hasS seen c.1=false->(seen++[c.1]).length<=cntS (seen++[c.1]):=by
   intro x hx hm hh;have:=cntS_add (s:=seen) (x:=c.1) (by rw[hx];exact hm) hh;simp only[List.length_append,List.length_singleton];omega
  cases c.2.2
  ·simp only[kF]
  ·simp only[kT];cases hh:hasS seen c.1
   ·simp only[kF];unfold lset keyB;cases h1:c.1==wPre
    ·simp only[kF];cases h2:c.1==wAft
     ·simp only[kF];cases h3:c.1==wMax
      ·simp only[kF];cases h4:c.1==wVer
       ·cases c.2.1==[]<;>cases isKey c.2.1<;>simp only[kT,kF]
       ·have e:=nx (beq_iff_eq.1 h4) (.inr (.inr (.inr rfl))) hh;cases h5:c.2.1==[49]<;>cases c.2.1==[]<;>cases isKey c.2.1<;>simp only[kT,kF]
        all_goals first
         |rfl
         |exact ih (setKind (a0,a1,a2,a3,a4,a5,a6,a7,a8,a9,()) 5) _ e
      ·have e:=nx (beq_iff_eq.1 h3) (.inr (.inr (.inl rfl))) hh;simp only[kT];cases h5:(numN c.2.1 2 1 20).2<;>cases c.2.1==[]<;>cases isKey c.2.1<;>simp only[kT,kF]
       all_goals first
        |rfl
        |exact ih (setMax (a0,a1,a2,a3,a4,a5,a6,a7,a8,a9,()) (numN c.2.1 2 1 20).1) _ e
     ·have e:=nx (beq_iff_eq.1 h2) (.inr (.inl rfl)) hh;simp only[kT];cases c.2.1==[]<;>cases isKey c.2.1<;>simp only[kT,kF,Bool.true_or,Bool.false_or]
      all_goals first
       |rfl
       |exact ih (setAft (a0,a1,a2,a3,a4,a5,a6,a7,a8,a9,()) c.2.1) _ e
    ·have e:=nx (beq_iff_eq.1 h1) (.inl rfl) hh;simp only[kT];cases c.2.1==[]<;>cases isKey c.2.1<;>simp only[kT,kF,Bool.true_or,Bool.false_or]
     all_goals first
      |rfl
      |exact ih (setPre (a0,a1,a2,a3,a4,a5,a6,a7,a8,a9,()) c.2.1) _ e
   ·simp only[kT]
theorem listed_n (a:AskD) (q:L8) (h:shortS q=true):olisted (a,q,())=some ((listedN a q).1,(listedN a q).2,()):=by
 have hq:q.length<4294967281:=of_decide_eq_true h;rw[olisted_g,elisted_g];unfold listedN;cases q==[]
 ·simp only[kF];have hq2:(shortS q&&[38]==[38])=true:=by rw[h];rfl
  rw[gdB hq2,kG];obtain⟨b1,b2⟩:=split_bnd 38 q.length q (Nat.le_refl _);have:=listed_l zAsk false (splitN q) (by show(Lib.split q [38]).length<=_;omega) (λp hp=>by
   have:=b2 p hp;have:=(cut_bnd 61 p).2;exact⟨decide_eq_true (by omega),decide_eq_true (by show(Lib.cut p [61]).2.1.length<=_;omega)⟩) (splitN q) [] heads0 (setMax (setKind a 4) 20) [] rfl (Nat.zero_le _) (by show(Lib.split q [38]).length<_;unfold heads0;omega)
  exact this
 ·rfl
end Go.Proofs.YtldllfocpadkeaaGreatDoor
namespace Nice
open Go Go.Eng
theorem m00:(getW==getW)=true:=by decide
theorem m01:(getW==headW)=false:=by decide
theorem m02:(getW==putW)=false:=by decide
theorem m03:(getW==delW)=false:=by decide
theorem m10:(headW==getW)=false:=by decide
theorem m11:(headW==headW)=true:=by decide
theorem m12:(headW==putW)=false:=by decide
theorem m13:(headW==delW)=false:=by decide
theorem m20:(putW==getW)=false:=by decide
theorem m21:(putW==headW)=false:=by decide
theorem m22:(putW==putW)=true:=by decide
theorem m23:(putW==delW)=false:=by decide
theorem m30:(delW==getW)=false:=by decide
theorem m31:(delW==headW)=false:=by decide
theorem m32:(delW==putW)=false:=by decide
theorem m33:(delW==delW)=true:=by decide
theorem hasPre_len {p w:L8} (h:hasPre p w=true):w.length<=p.length:=by
 unfold hasPre at h;rw[Bool.and_eq_true,decide_eq_true_eq] at h;exact h.1
theorem ofP_all {m p q:L8} {hs:HeadL} {b:L8} (h:ofP (m,p,q,hs,b,())=true):condsP hs=true/\shortS q=true/\bndS q=true/\bndS (p.drop 3)=true/\p.length<=140737488355328:=by
 unfold ofP at h;rw[Bool.and_eq_true,Bool.and_eq_true] at h;obtain⟨h1,h2,h3⟩:=h;have h3:p.length<=140737488355328:=of_decide_eq_true h3;have h4:q.length<4294967281:=of_decide_eq_true h2;exact⟨h1,h2,decide_eq_true (by omega),decide_eq_true (by rw[List.length_drop];omega),h3⟩
theorem short_path {p:L8} (h2:(p==ooW)=false):(bif decide ((p.length:Int)<4) then false else p.take 3==ooW)=hasPre p ooW:=by
 have hp:hasPre p ooW=(decide (3<=p.length)&&p.take 3==ooW):=rfl;by_cases hl:p.length<4
 ·rw[decide_eq_true (by omega:(p.length:Int)<4),cond_true];cases h:hasPre p ooW
  ·rfl
  ·have hi:=hasPre_inv h;have hl3:=hasPre_len h;have he:p.drop ooW.length=[]:=List.drop_eq_nil_of_le (by show p.length<=3;omega);rw[he,List.append_nil] at hi;exact absurd hi (beq_eq_false_iff_ne.1 h2)
 ·rw[decide_eq_false (by omega:¬(p.length:Int)<4),cond_false,hp,decide_eq_true (by omega:3<=p.length),Bool.true_and]
end Nice
namespace Go.Proofs.YtldllfocpadkeaaGreatDoor
open Go Go.Eng Nice
set_option maxRecDepth 100000
theorem ver_l {α:Type} (q:L8) (hq:bndS q=true) (X:Int->Option α) (Y:Option α):
  (bif decide ((q.length:Int)<=(8:Int)) then Y
   else bif !List.take 8 q==vPre then gd [decide ((8:Int)<=(q.length:Int))] Y
   else bif ((q.getD 8 0).toNat:Int)==(48:Int) then gd [decide ((8:Int)<(q.length:Int)),decide ((8:Int)<=(q.length:Int))] Y
   else gd [decide ((8:Int)<(q.length:Int)),decide ((8:Int)<=(q.length:Int))] (bif (refNum (List.drop 8 q) (13:Int)).snd then
     gd [refNumP (List.drop 8 q) (13:Int),decide ((8:Int)<=(q.length:Int))] (bif decide ((refNum (List.drop 8 q) (13:Int)).fst<(1:Int)) then Y
       else bif decide ((refNum (List.drop 8 q) (13:Int)).fst>(1099511627776:Int)) then Y else X (refNum (List.drop 8 q) (13:Int)).fst)
     else gd [refNumP (List.drop 8 q) (13:Int),decide ((8:Int)<=(q.length:Int))] Y))=bif (verN q).2 then X (verN q).1 else Y:=by
 obtain⟨v1,v2⟩:=ver_q q;have hb:q.length<=140737488355328:=of_decide_eq_true hq;have hrp:refNumP (List.drop 8 q) 13=true:=by
  unfold refNumP;rw[Bool.and_eq_true,decide_eq_true_eq,decide_eq_true_eq,List.length_drop];omega
 have e48:(((q.getD 8 0).toNat:Int)==48)=(q.getD 8 0==48):=by
  cases h:q.getD 8 0==48
  ·rw[beq_eq_false_iff_ne] at h⊢;intro e;exact h (UInt8.toNat.inj (show _=(48:UInt8).toNat by have:(48:UInt8).toNat=48:=rfl;omega))
  ·rw[beq_iff_eq.1 h];rfl
 rw[e48];have nx:verRB q=true->(verN q).1=(refNum (q.drop 8) 13).1:=λh=>v2 (by rw[v1];exact h)
 rw[v1];unfold verRB at nx⊢;by_cases h1:(q.length:Int)<=8
 ·rw[decide_eq_true h1];rfl
 ·rw[decide_eq_false h1] at nx⊢;simp only[kF,Bool.not_false,Bool.true_and] at nx⊢;cases h2:List.take 8 q==vPre
  ·simp only[Bool.not_false,Bool.false_and,kT,kF];rw[gdT (by omega),kG]
  ·rw[h2] at nx;simp only[Bool.not_true,Bool.true_and,kF] at nx⊢;cases h3:q.getD 8 0==48
   ·rw[h3] at nx;simp only[Bool.not_false,Bool.true_and,kF] at nx⊢;rw[gdT (by omega),gdT (by omega),kG];cases h4:(refNum (List.drop 8 q) 13).snd
    ·simp only[Bool.false_and,kF];rw[gdB hrp,gdT (by omega),kG]
    ·rw[h4] at nx;simp only[Bool.true_and,kT] at nx⊢;rw[gdB hrp,gdT (by omega),kG];by_cases h5:(refNum (List.drop 8 q) 13).fst<1
     ·rw[decide_eq_true h5];rfl
     ·rw[decide_eq_false h5] at nx⊢;by_cases h6:(refNum (List.drop 8 q) 13).fst>1099511627776
      ·rw[decide_eq_true h6];rfl
      ·rw[decide_eq_false h6] at nx⊢;simp only[Bool.not_false,Bool.and_true,kT,kF] at nx⊢;rw[nx trivial]
   ·simp only[Bool.not_true,Bool.false_and,kT,kF];rw[gdT (by omega),gdT (by omega),kG]
theorem aOfGet_n (p q:L8) (hs:HeadL) (b:L8) (h:ofP (getW,p,q,hs,b,())=true):oaOfGet ((getW,p,q,hs,b,()),())=some ((ofN (getW,p,q,hs,b,())).1,(ofN (getW,p,q,hs,b,())).2,()):=by
 obtain⟨hc,hq,hqb,hk,hp⟩:=ofP_all h;have hall:(condsP hs&&(bndS q&&bndS (p.drop 3)))=true:=by rw[hc,hqb,hk];rfl
 rw[oaOfGet_g,eaOfGet_g];unfold ofN listOut keyOut;simp only[m00,m01,m02,m03,Bool.or_true,Bool.true_or,Bool.or_false,Bool.false_or,kT,kF];have e1:bAsk false=((0:Int),[],(0:Int),[],(0:Int),[],[],[],(0:Int),false,()):=rfl;have e2:kAsk (p.drop 3) false=((0:Int),p.drop 3,(0:Int),[],(0:Int),[],[],[],(0:Int),false,()):=rfl
 have e3:zAsk=((0:Int),[],(0:Int),[],(0:Int),[],[],[],(0:Int),false,()):=rfl;simp only[e1,e2,e3];cases p==oW
 ·cases p==ooW
  ·simp only[kF,Bool.or_false];cases h3:hasPre p ooW
   ·simp only[Bool.not_false,kT,kF]
   ·have hl:3<=p.length:=hasPre_len h3;simp only[Bool.not_true,kT,kF];rw[gdT (by omega),kG];cases(keyedG ((0:Int),p.drop 3,(0:Int),[],(0:Int),[],[],[],(0:Int),false,()) getW q hs b).2<;>cases b==[]<;>simp only[kT,kF,Bool.not_true,Bool.not_false,Bool.and_true,Bool.and_false]<;>rw[gdB hall,kG]
  ·simp only[kT,kF,Bool.or_true];cases(listedN ((0:Int),[],(0:Int),[],(0:Int),[],[],[],(0:Int),false,()) q).2<;>cases b==[]<;>simp only[kT,kF,Bool.not_true,Bool.not_false,Bool.and_true,Bool.and_false]<;>rw[gdB hq,kG]
 ·simp only[kT,kF,Bool.true_or];cases(listedN ((0:Int),[],(0:Int),[],(0:Int),[],[],[],(0:Int),false,()) q).2<;>cases b==[]<;>simp only[kT,kF,Bool.not_true,Bool.not_false,Bool.and_true,Bool.and_false]<;>rw[gdB hq,kG]
theorem aOfHead_n (p q:L8) (hs:HeadL) (b:L8) (h:ofP (headW,p,q,hs,b,())=true):oaOfHead ((headW,p,q,hs,b,()),())=some ((ofN (headW,p,q,hs,b,())).1,(ofN (headW,p,q,hs,b,())).2,()):=by
 obtain⟨hc,hq,hqb,hk,hp⟩:=ofP_all h;have hall:(condsP hs&&(bndS q&&bndS (p.drop 3)))=true:=by rw[hc,hqb,hk];rfl
 rw[oaOfHead_g,eaOfHead_g];unfold ofN listOut keyOut;simp only[m10,m11,m12,m13,Bool.or_true,Bool.true_or,Bool.or_false,Bool.false_or,kT,kF];have e1:bAsk true=((0:Int),[],(0:Int),[],(0:Int),[],[],[],(0:Int),true,()):=rfl;have e2:kAsk (p.drop 3) true=((0:Int),p.drop 3,(0:Int),[],(0:Int),[],[],[],(0:Int),true,()):=rfl
 have e3:zAsk=((0:Int),[],(0:Int),[],(0:Int),[],[],[],(0:Int),false,()):=rfl;simp only[e1,e2,e3];cases p==oW
 ·cases p==ooW
  ·simp only[kF,Bool.or_false];cases h3:hasPre p ooW
   ·simp only[Bool.not_false,kT,kF]
   ·have hl:3<=p.length:=hasPre_len h3;simp only[Bool.not_true,kT,kF];rw[gdT (by omega),kG];cases(keyedG ((0:Int),p.drop 3,(0:Int),[],(0:Int),[],[],[],(0:Int),true,()) headW q hs b).2<;>cases b==[]<;>simp only[kT,kF,Bool.not_true,Bool.not_false,Bool.and_true,Bool.and_false]<;>rw[gdB hall,kG]
  ·simp only[kT,kF,Bool.or_true];cases(listedN ((0:Int),[],(0:Int),[],(0:Int),[],[],[],(0:Int),true,()) q).2<;>cases b==[]<;>simp only[kT,kF,Bool.not_true,Bool.not_false,Bool.and_true,Bool.and_false]<;>rw[gdB hq,kG]
 ·simp only[kT,kF,Bool.true_or];cases(listedN ((0:Int),[],(0:Int),[],(0:Int),[],[],[],(0:Int),true,()) q).2<;>cases b==[]<;>simp only[kT,kF,Bool.not_true,Bool.not_false,Bool.and_true,Bool.and_false]<;>rw[gdB hq,kG]
theorem aOfPut_n (p q:L8) (hs:HeadL) (b:L8) (h:ofP (putW,p,q,hs,b,())=true):oaOfPut ((putW,p,q,hs,b,()),())=some ((ofN (putW,p,q,hs,b,())).1,(ofN (putW,p,q,hs,b,())).2,()):=by
 obtain⟨hc,hq,hqb,hk,hp⟩:=ofP_all h;have hall:(condsP hs&&(bndS q&&bndS (p.drop 3)))=true:=by rw[hc,hqb,hk];rfl
 rw[oaOfPut_g,eaOfPut_g];unfold ofN listOut keyOut;simp only[m20,m21,m22,m23,Bool.or_true,Bool.true_or,Bool.or_false,Bool.false_or,kT,kF];have e1:bAsk false=((0:Int),[],(0:Int),[],(0:Int),[],[],[],(0:Int),false,()):=rfl;have e2:kAsk (p.drop 3) false=((0:Int),p.drop 3,(0:Int),[],(0:Int),[],[],[],(0:Int),false,()):=rfl
 have e3:zAsk=((0:Int),[],(0:Int),[],(0:Int),[],[],[],(0:Int),false,()):=rfl;simp only[e1,e2,e3];cases p==oW
 ·cases p==ooW
  ·simp only[kF,Bool.or_false];cases h3:hasPre p ooW
   ·simp only[Bool.not_false,kT,kF]
   ·have hl:3<=p.length:=hasPre_len h3;simp only[Bool.not_true,kT,kF];rw[gdT (by omega),kG];cases(keyedG ((0:Int),p.drop 3,(0:Int),[],(0:Int),[],[],[],(0:Int),false,()) putW q hs b).2<;>cases b==[]<;>simp only[kT,kF,Bool.not_true,Bool.not_false,Bool.and_true,Bool.and_false]<;>rw[gdB hall,kG]
  ·simp only[kT,kF,Bool.or_true]
   skip
 ·simp only[kT,kF,Bool.true_or]
  skip
theorem aOfDel_n (p q:L8) (hs:HeadL) (b:L8) (h:ofP (delW,p,q,hs,b,())=true):oaOfDel ((delW,p,q,hs,b,()),())=some ((ofN (delW,p,q,hs,b,())).1,(ofN (delW,p,q,hs,b,())).2,()):=by
 obtain⟨hc,hq,hqb,hk,hp⟩:=ofP_all h;have hall:(condsP hs&&(bndS q&&bndS (p.drop 3)))=true:=by rw[hc,hqb,hk];rfl
 rw[oaOfDel_g,eaOfDel_g];unfold ofN listOut keyOut;simp only[m30,m31,m32,m33,Bool.or_true,Bool.true_or,Bool.or_false,Bool.false_or,kT,kF];have e1:bAsk false=((0:Int),[],(0:Int),[],(0:Int),[],[],[],(0:Int),false,()):=rfl;have e2:kAsk (p.drop 3) false=((0:Int),p.drop 3,(0:Int),[],(0:Int),[],[],[],(0:Int),false,()):=rfl
 have e3:zAsk=((0:Int),[],(0:Int),[],(0:Int),[],[],[],(0:Int),false,()):=rfl;simp only[e1,e2,e3];cases p==oW
 ·cases p==ooW
  ·simp only[kF,Bool.or_false];cases h3:hasPre p ooW
   ·simp only[Bool.not_false,kT,kF]
   ·have hl:3<=p.length:=hasPre_len h3;simp only[Bool.not_true,kT,kF];rw[gdT (by omega),kG];cases(keyedG ((0:Int),p.drop 3,(0:Int),[],(0:Int),[],[],[],(0:Int),false,()) delW q hs b).2<;>cases b==[]<;>simp only[kT,kF,Bool.not_true,Bool.not_false,Bool.and_true,Bool.and_false]<;>rw[gdB hall,kG]
  ·simp only[kT,kF,Bool.or_true]
   skip
 ·simp only[kT,kF,Bool.true_or]
  skip
theorem rOfGet_n (p q:L8) (hs:HeadL) (b:L8) (h:ofP (getW,p,q,hs,b,())=true):orOfGet ((getW,p,q,hs,b,()),())=some ((ofN (getW,p,q,hs,b,())).1,(ofN (getW,p,q,hs,b,())).2,()):=by
 obtain⟨hc,hq,hqb,hk,hp⟩:=ofP_all h;rw[orOfGet_g,erOfGet_g];unfold ofN listOut keyOut;simp only[m00,m01,m02,m03,Bool.or_true,Bool.true_or,Bool.or_false,Bool.false_or,kT,kF];cases p==oW
 ·cases h2:p==ooW
  ·simp only[kF,Bool.or_false];have hsp:=short_path h2;by_cases hl4:(p.length:Int)<4
   ·rw[decide_eq_true hl4,kT] at hsp;rw[decide_eq_true hl4,<-hsp];simp only[kT,kF]
   ·rw[decide_eq_false hl4,kF] at hsp;rw[decide_eq_false hl4,<-hsp];simp only[kF];cases List.take 3 p==ooW
    ·simp only[Bool.not_false,kT,kF];rw[gdT (by omega),kG]
    ·simp only[Bool.not_true,kT,kF];rw[gdT (by omega),kG];cases b==[]
     ·simp only[Bool.not_false,kT,kF,Bool.and_false]
     ·simp only[Bool.not_true,kF,Bool.and_true];rw[gdT (by omega),kG];unfold keyedG;have e5:(kAsk (p.drop 3) false).2.1=p.drop 3:=rfl;simp only[e5,m00,m01,m02,m03,kT,kF];cases isKey (p.drop 3)
      ·simp only[kF];rw[gdB hk,kG]
      ·simp only[kT];rw[gdB hk,kG];cases q==[]
       ·simp only[Bool.not_false,kT,kF];refine(ver_l q hqb (λn=>some (((1:Int),List.drop 3 p,n,[],(0:Int),[],[],[],(0:Int),false,()),(0:Int),())) (some (zAsk,(400:Int),()))).trans ?_;cases(verN q).2<;>rfl
       ·simp only[Bool.not_true,kT,kF];rfl
  ·simp only[kT,kF,Bool.or_true];cases b==[]<;>simp only[kT,kF,Bool.not_true,Bool.not_false,Bool.and_true,Bool.and_false];obtain⟨q1,q2⟩:=query_eq q (bAsk false);have e4:setMax (setKind (bAsk false) 4) 20=((4:Int),[],(0:Int),[],(0:Int),[],[],[],(20:Int),false,()):=rfl;rw[e4] at q1 q2;rw[q1];cases hx:(listedN (bAsk false) q).2
   ·simp only[kF];rw[gdB hqb,kG]
   ·simp only[kT];rw[gdB hqb,kG,q2 hx]
 ·simp only[kT,kF,Bool.true_or];cases b==[]<;>simp only[kT,kF,Bool.not_true,Bool.not_false,Bool.and_true,Bool.and_false];obtain⟨q1,q2⟩:=query_eq q (bAsk false);have e4:setMax (setKind (bAsk false) 4) 20=((4:Int),[],(0:Int),[],(0:Int),[],[],[],(20:Int),false,()):=rfl;rw[e4] at q1 q2;rw[q1];cases hx:(listedN (bAsk false) q).2
  ·simp only[kF];rw[gdB hqb,kG]
  ·simp only[kT];rw[gdB hqb,kG,q2 hx]
theorem rOfHead_n (p q:L8) (hs:HeadL) (b:L8) (h:ofP (headW,p,q,hs,b,())=true):orOfHead ((headW,p,q,hs,b,()),())=some ((ofN (headW,p,q,hs,b,())).1,(ofN (headW,p,q,hs,b,())).2,()):=by
 obtain⟨hc,hq,hqb,hk,hp⟩:=ofP_all h;rw[orOfHead_g,erOfHead_g];unfold ofN listOut keyOut;simp only[m10,m11,m12,m13,Bool.or_true,Bool.true_or,Bool.or_false,Bool.false_or,kT,kF];cases p==oW
 ·cases h2:p==ooW
  ·simp only[kF,Bool.or_false];have hsp:=short_path h2;by_cases hl4:(p.length:Int)<4
   ·rw[decide_eq_true hl4,kT] at hsp;rw[decide_eq_true hl4,<-hsp];simp only[kT,kF]
   ·rw[decide_eq_false hl4,kF] at hsp;rw[decide_eq_false hl4,<-hsp];simp only[kF];cases List.take 3 p==ooW
    ·simp only[Bool.not_false,kT,kF];rw[gdT (by omega),kG]
    ·simp only[Bool.not_true,kT,kF];rw[gdT (by omega),kG];cases b==[]
     ·simp only[Bool.not_false,kT,kF,Bool.and_false]
     ·simp only[Bool.not_true,kF,Bool.and_true];rw[gdT (by omega),kG];unfold keyedG;have e5:(kAsk (p.drop 3) true).2.1=p.drop 3:=rfl;simp only[e5,m10,m11,m12,m13,kT,kF];cases isKey (p.drop 3)
      ·simp only[kF];rw[gdB hk,kG]
      ·simp only[kT];rw[gdB hk,kG];cases q==[]
       ·simp only[Bool.not_false,kT,kF];refine(ver_l q hqb (λn=>some (((1:Int),List.drop 3 p,n,[],(0:Int),[],[],[],(0:Int),true,()),(0:Int),())) (some (zAsk,(400:Int),()))).trans ?_;cases(verN q).2<;>rfl
       ·simp only[Bool.not_true,kT,kF];rfl
  ·simp only[kT,kF,Bool.or_true];cases b==[]<;>simp only[kT,kF,Bool.not_true,Bool.not_false,Bool.and_true,Bool.and_false];obtain⟨q1,q2⟩:=query_eq q (bAsk true);have e4:setMax (setKind (bAsk true) 4) 20=((4:Int),[],(0:Int),[],(0:Int),[],[],[],(20:Int),true,()):=rfl;rw[e4] at q1 q2;rw[q1];cases hx:(listedN (bAsk true) q).2
   ·simp only[kF];rw[gdB hqb,kG]
   ·simp only[kT];rw[gdB hqb,kG,q2 hx]
 ·simp only[kT,kF,Bool.true_or];cases b==[]<;>simp only[kT,kF,Bool.not_true,Bool.not_false,Bool.and_true,Bool.and_false];obtain⟨q1,q2⟩:=query_eq q (bAsk true);have e4:setMax (setKind (bAsk true) 4) 20=((4:Int),[],(0:Int),[],(0:Int),[],[],[],(20:Int),true,()):=rfl;rw[e4] at q1 q2;rw[q1];cases hx:(listedN (bAsk true) q).2
  ·simp only[kF];rw[gdB hqb,kG]
  ·simp only[kT];rw[gdB hqb,kG,q2 hx]
theorem rOfPut_n (p q:L8) (hs:HeadL) (b:L8) (h:ofP (putW,p,q,hs,b,())=true):orOfPut ((putW,p,q,hs,b,()),())=some ((ofN (putW,p,q,hs,b,())).1,(ofN (putW,p,q,hs,b,())).2,()):=by
 obtain⟨hc,hq,hqb,hk,hp⟩:=ofP_all h;rw[orOfPut_g,erOfPut_g];unfold ofN listOut keyOut;simp only[m20,m21,m22,m23,Bool.or_true,Bool.true_or,Bool.or_false,Bool.false_or,kT,kF];cases p==oW
 ·cases h2:p==ooW
  ·simp only[kF,Bool.or_false];have hsp:=short_path h2;by_cases hl4:(p.length:Int)<4
   ·rw[decide_eq_true hl4,kT] at hsp;rw[decide_eq_true hl4,<-hsp];simp only[kT,kF]
   ·rw[decide_eq_false hl4,kF] at hsp;rw[decide_eq_false hl4,<-hsp];simp only[kF];cases List.take 3 p==ooW
    ·simp only[Bool.not_false,kT,kF];rw[gdT (by omega),kG]
    ·simp only[Bool.not_true,kT,kF];rw[gdT (by omega),kG];have fin:(bif isKey (p.drop 3) then gd [bndS (p.drop 3)] (bif !q==[] then some (zAsk,(400:Int),()) else gd [condsP hs] (some ((rcondsN hs ((2:Int),List.drop 3 p,(0:Int),b,(0:Int),[],[],[],(0:Int),false,())).fst,(rcondsN hs ((2:Int),List.drop 3 p,(0:Int),b,(0:Int),[],[],[],(0:Int),false,())).snd,()))) else gd [bndS (p.drop 3)] (some (zAsk,(400:Int),())):Option (DenL [AskT,.int .i64]))=
       some ((bif (keyedG (kAsk (p.drop 3) false) putW q hs b).2 then((keyedG (kAsk (p.drop 3) false) putW q hs b).1,(0:Int)) else(zAsk,400)).1,(bif (keyedG (kAsk (p.drop 3) false) putW q hs b).2 then((keyedG (kAsk (p.drop 3) false) putW q hs b).1,(0:Int)) else(zAsk,400)).2,()):=by
      rw[conds_eq hs _ rfl rfl];unfold keyedG;have e5:(kAsk (p.drop 3) false).2.1=p.drop 3:=rfl;simp only[e5,m22,kT];cases isKey (p.drop 3)
      ·simp only[kF];rw[gdB hk,kG]
      ·simp only[kT];rw[gdB hk,kG];cases q==[]
       ·simp only[Bool.not_false,kT,Bool.and_false,kF]
       ·simp only[Bool.not_true,kF,Bool.and_true];rw[gdB hc,kG];cases(condsN hs).2.2<;>rfl
     cases b==[]<;>simp only[kT,kF,Bool.not_true,Bool.not_false,Bool.and_true]
     ·rw[gdT (by omega),kG];exact fin
     ·rw[gdT (by omega),kG];exact fin
  ·simp only[kT,kF,Bool.or_true]
   skip
 ·simp only[kT,kF,Bool.true_or]
  skip
theorem rOfDel_n (p q:L8) (hs:HeadL) (b:L8) (h:ofP (delW,p,q,hs,b,())=true):orOfDel ((delW,p,q,hs,b,()),())=some ((ofN (delW,p,q,hs,b,())).1,(ofN (delW,p,q,hs,b,())).2,()):=by
 obtain⟨hc,hq,hqb,hk,hp⟩:=ofP_all h;rw[orOfDel_g,erOfDel_g];unfold ofN listOut keyOut;simp only[m30,m31,m32,m33,Bool.or_true,Bool.true_or,Bool.or_false,Bool.false_or,kT,kF];cases p==oW
 ·cases h2:p==ooW
  ·simp only[kF,Bool.or_false];have hsp:=short_path h2;by_cases hl4:(p.length:Int)<4
   ·rw[decide_eq_true hl4,kT] at hsp;rw[decide_eq_true hl4,<-hsp];simp only[kT,kF]
   ·rw[decide_eq_false hl4,kF] at hsp;rw[decide_eq_false hl4,<-hsp];simp only[kF];cases List.take 3 p==ooW
    ·simp only[Bool.not_false,kT,kF];rw[gdT (by omega),kG]
    ·simp only[Bool.not_true,kT,kF];rw[gdT (by omega),kG];cases b==[]
     ·simp only[Bool.not_false,kT,kF,Bool.and_false]
     ·simp only[Bool.not_true,kF,Bool.and_true];rw[gdT (by omega),kG];unfold keyedG;have e5:(kAsk (p.drop 3) false).2.1=p.drop 3:=rfl;simp only[e5,m30,m31,m32,m33,kT,kF];cases isKey (p.drop 3)
      ·simp only[kF];rw[gdB hk,kG]
      ·simp only[kT];rw[gdB hk,kG];cases q==[]
       ·simp only[Bool.not_false,kT,kF];refine(ver_l q hqb (λn=>some (((3:Int),List.drop 3 p,n,[],(0:Int),[],[],[],(0:Int),false,()),(0:Int),())) (some (zAsk,(400:Int),()))).trans ?_;cases(verN q).2<;>rfl
       ·simp only[Bool.not_true,kT,kF];rfl
  ·simp only[kT,kF,Bool.or_true]
   skip
 ·simp only[kT,kF,Bool.true_or]
  skip
theorem aOfO_n (m p q:L8) (hs:HeadL) (b:L8) (h:ofP (m,p,q,hs,b,())=true) (h0:(m==getW)=false) (h1:(m==headW)=false) (h2:(m==putW)=false) (h3:(m==delW)=false):oaOfO ((m,p,q,hs,b,()),())=some ((ofN (m,p,q,hs,b,())).1,(ofN (m,p,q,hs,b,())).2,()):=by
 rw[oaOfO_g,eaOfO_g];unfold ofN;simp only[h0,h1,h2,h3,Bool.or_false,kT,kF,Bool.not_false,Bool.not_true];cases p==oW<;>cases p==ooW<;>simp only[kT,kF,Bool.or_true,Bool.or_false];cases hasPre p ooW<;>simp only[kT,kF,Bool.not_false,Bool.not_true]
theorem rOfO_n (m p q:L8) (hs:HeadL) (b:L8) (h:ofP (m,p,q,hs,b,())=true) (h0:(m==getW)=false) (h1:(m==headW)=false) (h2:(m==putW)=false) (h3:(m==delW)=false):orOfO ((m,p,q,hs,b,()),())=some ((ofN (m,p,q,hs,b,())).1,(ofN (m,p,q,hs,b,())).2,()):=by
 obtain⟨hc,hq,hqb,hk,hp⟩:=ofP_all h;rw[orOfO_g,erOfO_g];unfold ofN;simp only[h0,h1,h2,h3,Bool.or_false,kT,kF,Bool.not_false,Bool.not_true];cases p==oW
 ·cases h5:p==ooW
  ·simp only[kF,Bool.or_false];have hsp:=short_path h5;by_cases hl4:(p.length:Int)<4
   ·rw[decide_eq_true hl4,kT] at hsp;rw[decide_eq_true hl4,<-hsp];simp only[kT,kF]
   ·rw[decide_eq_false hl4,kF] at hsp;rw[decide_eq_false hl4,<-hsp];simp only[kF];cases List.take 3 p==ooW
    ·simp only[Bool.not_false,kT,kF];rw[gdT (by omega),kG]
    ·simp only[Bool.not_true,kT,kF];rw[gdT (by omega),kG]
  ·simp only[kT,kF,Bool.or_true]
 ·simp only[kT,kF,Bool.true_or]
open Go Go.Eng Nice
set_option maxRecDepth 1000000
abbrev shlineR:List (Nat×List (Nat×Sh)):=[(6,[(1,(.obj [.sym,.sym,.sym,(.dat (.pair .str (.pair .str .unit))),.sym])),(2,(.one .sym)),(3,(.one .sym)),(4,(.one .sym))])]
def hlineR_0 (n:Nat) (t1_0 t1_1 t1_2:L8) (t1_3:List (Ty.Den (.pair .str (.pair .str .unit)))) (t1_4 t2 t3:L8) (t4:Int):Option (DenL [.str]):=rH Tryz.prog (envS [(28,cutS)]) (shOf shlineR) Tryz.f27 [.str] n 0 [(1,.pointer (some ⟨11,0,none⟩)),(2,sy (.string (bs t2))),(3,sy (.string (bs t3))),(4,sy (.int .i64 t4))] [.dat (.pair .str (.pair .str .unit)) t1_3,.row [sy (.string (bs t1_0)),sy (.string (bs t1_1)),sy (.string (bs t1_2)),dt 10,sy (.string (bs t1_4))] 62 false]
def olineR (x:DenL [ReqT]):Option (DenL [.str]):=fO Tryz.prog (envS [(28,cutS)]) (shOf shlineR) Tryz.f27 [ReqT] [.str] x
theorem elineR_g (N:Nat) (x:Ty.Den ReqT) {Qa}[Qa':QA (hlineR_0 N (x.fst) (x.snd.fst) (x.snd.snd.fst) (x.snd.snd.snd.fst) (x.snd.snd.snd.snd.fst) ([])) Qa] {Qb}[Qb':QA ([63]++cut x.snd.snd.fst ((120:Int))) Qb] {Qc}[Qc':QA (cut x.fst ((12:Int))++[32]++cut x.snd.fst ((100:Int))) Qc]:fON Tryz.prog (envS [(28,cutS)]) (shOf shlineR) Tryz.f27 [ReqT] [.str] N (x,())= (gd [decide ((cut x.fst ((12:Int))++[32]).length+(cut x.snd.fst ((100:Int))).length<=1099511627776),decide ((cut x.fst ((12:Int))).length+1<=1099511627776)] (bif !x.snd.snd.fst==[] then (gd [decide ((cut x.fst ((12:Int))++[32]++cut x.snd.fst ((100:Int))++Qb).length+11<=1099511627776),decide (Qc.length+Qb.length<=1099511627776),decide (1+(cut x.snd.snd.fst ((120:Int))).length<=1099511627776)] (Qa (cut x.fst ((12:Int))++[32]++cut x.snd.fst ((100:Int))++Qb++[32,72,84,84,80,47,49,46,49,13,10]) ((0:Int)))) else (gd [decide (Qc.length+11<=1099511627776)] (Qa (cut x.fst ((12:Int))++[32]++cut x.snd.fst ((100:Int))++[32,72,84,84,80,47,49,46,49,13,10]) ((0:Int)))))):=by obtain ⟨rfl⟩:=Qc';obtain ⟨rfl⟩:=Qb';obtain ⟨rfl⟩:=Qa';kernel_rfl
theorem olineR_g (x:DenL [ReqT]):olineR x=fON Tryz.prog (envS [(28,cutS)]) (shOf shlineR) Tryz.f27 [ReqT] [.str] heads0 x:=rfl
theorem elineR_0 (n:Nat) (t1_0 t1_1 t1_2:L8) (t1_3:List (Ty.Den (.pair .str (.pair .str .unit)))) (t1_4 t2 t3:L8) (t4:Int) {Qa}[Qa':QA (t1_3.getD t4.toNat (HeadT).dflt) Qa] {Qb}[Qb':QA (gd [decide ((t3++[13,10]).length+(cut t1_4 ((310:Int))).length<=1099511627776),decide (t3.length+2<=1099511627776)] (some (t3++[13,10]++cut t1_4 ((310:Int)),()))) Qb] {Qc}[Qc':QA (cut Qa.fst ((40:Int))++[58]++cut Qa.snd.fst ((110:Int))++[13,10]) Qc]:hlineR_0 (n+1) t1_0 t1_1 t1_2 t1_3 t1_4 t2 t3 t4= (bif decide (t4<t1_3.length) then (bif decide (t4<12) then (gd [decide (inK IntKind.i64 (t4+1)),decide (t3.length+Qc.length<=1099511627776),decide ((cut Qa.fst ((40:Int))++[58]++cut Qa.snd.fst ((110:Int))).length+2<=1099511627776),decide ((cut Qa.fst ((40:Int))++[58]).length+(cut Qa.snd.fst ((110:Int))).length<=1099511627776),decide (t4.toNat<t1_3.length),decide (0<=t4),decide (t4<t1_3.length),decide ((cut Qa.fst ((40:Int))).length+1<=1099511627776),decide (t4.toNat<t1_3.length),decide (0<=t4),decide (t4<t1_3.length)] (hlineR_0 n t1_0 t1_1 t1_2 t1_3 t1_4 t2 (t3++Qc) (t4+1))) else Qb) else Qb):=by obtain ⟨rfl⟩:=Qc';obtain ⟨rfl⟩:=Qb';obtain ⟨rfl⟩:=Qa';kernel_rfl
theorem lcut (s:L8) (n:Nat):(cut s (n:Int)).length<=n:=by unfold cut;rw[List.length_take];omega
theorem headsT_cons (x:HeadD) (l:List HeadD):headsT (x::l)=headT x++headsT l:=rfl
theorem lineX_l (m p q:L8) (hs:List HeadD) (b t2:L8):∀(r i n:Nat) (acc:L8),i+r=12->r<n->acc.length<=100000-153*r->hlineR_0 n m p q hs b t2 acc (i:Int)=some (acc++headsT ((hs.drop i).take r)++[13,10]++cut b 310,()):=by
 have hb310:(cut b 310).length<=310:=lcut b 310;intro r
 induction r with
 |zero=>
  intro i n acc hi hn ha;obtain⟨n,rfl⟩:∃k,n=k+1:=⟨n-1,by omega⟩
  have e:acc++headsT ((hs.drop i).take 0)=acc:=by rw[List.take_zero];exact List.append_nil _
  rw[elineR_0,e];by_cases h:(i:Int)<(hs.length:Int)
  ·rw[cdT h,cdF (by omega),gdT (by simp only[List.length_append,List.length_cons,List.length_nil];omega),gdT (by omega),gN]
  ·rw[cdF h,gdT (by simp only[List.length_append,List.length_cons,List.length_nil];omega),gdT (by omega),gN]
 |succ r ih=>
  intro i n acc hi hn ha;obtain⟨n,rfl⟩:∃k,n=k+1:=⟨n-1,by omega⟩
  rw[elineR_0];by_cases h:(i:Int)<(hs.length:Int)
  ·rw[cdT h,cdT (by omega),show(i:Int).toNat=i from rfl];have hi':i<hs.length:=by omega
   have hd:(hs.drop i).take (r+1)=hs.getD i (HeadT).dflt::(hs.drop (i+1)).take r:=by
    rw[List.drop_eq_getElem_cons hi',List.take_succ_cons,List.getD_eq_getElem?_getD,List.getElem?_eq_getElem hi'];rfl
   rw[hd];generalize hs.getD i (HeadT).dflt=x;have c1:(cut x.1 40).length<=40:=lcut x.1 40;have c2:(cut x.2.1 110).length<=110:=lcut x.2.1 110;rw[gdT (inK_i64.2 ⟨by omega,by omega⟩),gdT (by simp only[List.length_append,List.length_cons,List.length_nil];omega),gdT (by simp only[List.length_append,List.length_cons,List.length_nil];omega),gdT (by simp only[List.length_append,List.length_cons,List.length_nil];omega),gdT (by omega),gdT (by omega),gdT (by omega),gdT (by omega),gdT (by omega),gdT (by omega),gdT (by omega),gN]
   have hz:=ih (i+1) n (acc++(cut x.1 40++[58]++cut x.2.1 110++[13,10])) (by omega) (by omega) (by simp only[List.length_append,List.length_cons,List.length_nil];omega);simp only[Int.natCast_add,Int.natCast_one] at hz;rw[hz,headsT_cons];show some ((acc++headT x)++_++_++_,())=_;simp only[List.append_assoc]
  ·have e:headsT ((hs.drop i).take (r+1))=[]:=by rw[List.drop_eq_nil_of_le (by omega)];rfl
   rw[cdF h,gdT (by simp only[List.length_append,List.length_cons,List.length_nil];omega),gdT (by omega),gN,e,List.append_nil]
theorem lineX_n (m p q:L8) (hs:List HeadD) (b:L8):olineR ((m,p,q,hs,b,()),())=some (lineT (m,p,q,hs,b,()),()):=by
 have c1:(cut m 12).length<=12:=lcut m 12;have c2:(cut p 100).length<=100:=lcut p 100;have c3:(cut q 120).length<=120:=lcut q 120;rw[olineR_g,elineR_g];unfold lineT lineH;dsimp only;rw[gdT (by simp only[List.length_append,List.length_cons,List.length_nil];omega),gdT (by omega),gN];cases h:q==[]
 ·rw[Bool.not_false,cT,gdT (by simp only[List.length_append,List.length_cons,List.length_nil];omega),gdT (by simp only[List.length_append,List.length_cons,List.length_nil];omega),gdT (by omega),gN];have:=lineX_l m p q hs b [] 12 0 heads0 (cut m 12++[32]++cut p 100++([63]++cut q 120)++[32,72,84,84,80,47,49,46,49,13,10]) (by omega) (by unfold heads0;omega) (by simp only[List.length_append,List.length_cons,List.length_nil];omega)
  rw[List.drop_zero] at this;exact this
 ·rw[Bool.not_true,cF,gdT (by simp only[List.length_append,List.length_cons,List.length_nil];omega),gN];have:=lineX_l m p q hs b [] 12 0 heads0 (cut m 12++[32]++cut p 100++[32,72,84,84,80,47,49,46,49,13,10]) (by omega) (by unfold heads0;omega) (by simp only[List.length_append,List.length_cons,List.length_nil];omega)
  rw[List.drop_zero] at this;refine Eq.trans this ?_;rw[cT,List.append_nil]
def lineRS:PSpec:=⟨[ReqT],[.str],λ_=>true,λx=>(lineT x.1,())⟩
theorem line22_c:PC 27 lineRS:=(pureO (sh:=shOf shlineR) (envS_ok (l:=[(28,cutS)]) ⟨cut_c,trivial⟩) gl_ne Tryz.func27 (by kernel_rfl) (by decide)).nice λ⟨x,()⟩ _=>by
 obtain⟨m,p,q,hs,b,⟨⟩⟩:=x;exact lineX_n m p q hs b
