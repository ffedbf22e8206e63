/-
  Part of the proof. No condition.
-/
import Derived.Shelf.SlicesQ.IndexFunc
import Derived.Test.YtkgejlchafionaaGreatDoorG2
import Derived.Shelf.GgClosure.StringsIndexFunc
import Derived.Shelf.Strings.Cut
import Derived.Shelf.Strings.Split
import Derived.Shelf.Slices.Clone
import Derived.Shelf.LaysM
import Derived.Shelf.Strconv.Itoa3
import Derived.Shelf.Strconv.Itoa4
import Derived.Shelf.Strings.OnBuilder
set_option maxRecDepth 1000000
open Go Go.Eng
noncomputable section
namespace Go.Proofs
open Go.Shelf
def Tryz.idxV_ren:Go.Shelf.Ren:=⟨λ|6=>201|n=>n,λ|22=>66|23=>72|25=>206|n=>n,λ|n=>n⟩
theorem Tryz.laysIdxV:Go.Proofs.SlLaysH0.n6 Tryz.prog Tryz.idxV_ren:={
 mixed:=by kernel_rfl
 f6:=⟨Tryz.f201.name,by kernel_rfl,Tryz.func201.trans (congrArg some (by kernel_rfl))⟩
 t0:=Tryz.underlying0
 a0:=Tryz.isAgg0
 z0:=Tryz.sizeOf0
 v0:=Tryz.zeroValue0
 t3:=Tryz.underlying3
 a3:=Tryz.isAgg3
 z3:=Tryz.sizeOf3
 v3:=Tryz.zeroValue3
 t4:=Tryz.underlying4
 a4:=Tryz.isAgg4
 z4:=Tryz.sizeOf4
 v4:=Tryz.zeroValue4
 t22:=Tryz.underlying66
 a22:=Tryz.isAgg66
 z22:=Tryz.sizeOf66
 v22:=Tryz.zeroValue66
 t25:=Tryz.underlying206
 a25:=Tryz.isAgg206
 z25:=Tryz.sizeOf206
 v25:=Tryz.zeroValue206}
def Tryz.idxE_ren:Go.Shelf.Ren:=⟨λ|6=>115|n=>n,λ|22=>24|23=>68|25=>70|n=>n,λ|n=>n⟩
theorem Tryz.laysIdxE:Go.Proofs.SlLaysH0.n6 Tryz.prog Tryz.idxE_ren:={
 mixed:=by kernel_rfl
 f6:=⟨Tryz.f115.name,by kernel_rfl,Tryz.func115.trans (congrArg some (by kernel_rfl))⟩
 t0:=Tryz.underlying0
 a0:=Tryz.isAgg0
 z0:=Tryz.sizeOf0
 v0:=Tryz.zeroValue0
 t3:=Tryz.underlying3
 a3:=Tryz.isAgg3
 z3:=Tryz.sizeOf3
 v3:=Tryz.zeroValue3
 t4:=Tryz.underlying4
 a4:=Tryz.isAgg4
 z4:=Tryz.sizeOf4
 v4:=Tryz.zeroValue4
 t22:=Tryz.underlying24
 a22:=Tryz.isAgg24
 z22:=Tryz.sizeOf24
 v22:=Tryz.zeroValue24
 t25:=Tryz.underlying70
 a25:=Tryz.isAgg70
 z25:=Tryz.sizeOf70
 v25:=Tryz.zeroValue70}
def nX (x:Int×Bool×ByteArray):List Value:=[.int .i64 x.1,.bool x.2.1,.string x.2.2]
def nY (x:ByteArray×Value):List Value:=[.string x.1,x.2]
open Go.RowKit Go.Lib in
theorem Tryz.isVer (a:Int) (B o:Nat) (w:World) (d:B<w.heap.size) (b:w.cell? ⟨B,o,none⟩=some (.int .i64 a)):
  PredBelow Tryz.prog 202 #[.pointer (some ⟨B,o,none⟩)] (λx=>.agg (nX x).toArray) (λx=>x.1==a) w:=λW x c=>by
 have g:W.cell? ⟨B,o,none⟩=some (.int .i64 a):=(c.cell (p:=⟨B,o,none⟩) d).trans b;have e:B<W.heap.size:=Nat.lt_of_lt_of_le d c.size;have f:B≠W.heap.size:=by omega
 show Calls Tryz.prog 202 #[.agg #[.int .i64 x.1,.bool x.2.1,.string x.2.2],.pointer (some ⟨B,o,none⟩)] W _
 go_enter Tryz.func202,Tryz.ntmps202
 go_wp2
 all_goals (go_ret;exact⟨by simp_all,c.alloc c.size _⟩)
open Go.RowKit Go.Lib in
theorem Tryz.isKey (key:ByteArray) (B o:Nat) (w:World) (c:B<w.heap.size) (a:w.cell? ⟨B,o,none⟩=some (.string key)):
  PredBelow Tryz.prog 116 #[.pointer (some ⟨B,o,none⟩)] (λx=>.agg (nY x).toArray) (λx=>x.1.toList==key.toList) w:=λW x b=>by
 have f:W.cell? ⟨B,o,none⟩=some (.string key):=(b.cell (p:=⟨B,o,none⟩) c).trans a;have d:B<W.heap.size:=Nat.lt_of_lt_of_le c b.size;have e:B≠W.heap.size:=by omega
 show Calls Tryz.prog 116 #[.agg #[.string x.1,x.2],.pointer (some ⟨B,o,none⟩)] W _
 go_enter Tryz.func116,Tryz.ntmps116
 go_wp2
 all_goals (go_ret;exact⟨by simp_all,b.alloc b.size _⟩)
end Go.Proofs
namespace Go.Proofs.YtkgejlchafionaaGreatDoor
open Tryz
open Nice
abbrev Xi:List (Nat×List (Nat×Sh)):=[]
def bo (x:AA [.byte]):Option (AA [.bool]):=fO prog (AL []) (AC Xi) f148 [.byte] [.bool] x
theorem bp (N:Nat) (a:UInt8) {Qb}[Qb':QA (↑a.toNat:Int) Qb] {Qc}[Qc':QA (some (true,PUnit.unit)) Qc] {Qa}[Qa':QA (bif Qb==46 then Qc else (bif Qb==45 then Qc else (bif Qb==95 then Qc else (bif Qb==47 then Qc else (some (false,PUnit.unit)))))) Qa] {Qd}[Qd':QA (bif decide (Qb>=48) then (bif decide (Qb<=57) then Qc else Qa) else Qa) Qd]:BV prog (AL []) (AC Xi) f148 [.byte] [.bool] N (a,())= (bif decide (Qb>=97) then (bif decide (Qb<=122) then Qc else Qd) else Qd):=by obtain ⟨rfl⟩:=Qd';obtain ⟨rfl⟩:=Qa';obtain ⟨rfl⟩:=Qc';obtain ⟨rfl⟩:=Qb';kernel_rfl
theorem nZ (a:UInt8):bo (a,())=
 (bif decide ((↑a.toNat:Int)>=(97:Int)) then
  (bif decide ((↑a.toNat:Int)<=(122:Int)) then
   (some (true,PUnit.unit))
  else
   (bif decide ((↑a.toNat:Int)>=(48:Int)) then
    (bif decide ((↑a.toNat:Int)<=(57:Int)) then
     (some (true,PUnit.unit))
    else
     (bif (↑a.toNat:Int)==(46:Int) then
      (some (true,PUnit.unit))
     else
      (bif (↑a.toNat:Int)==(45:Int) then
       (some (true,PUnit.unit))
      else
       (bif (↑a.toNat:Int)==(95:Int) then
        (some (true,PUnit.unit))
       else
        (bif (↑a.toNat:Int)==(47:Int) then
         (some (true,PUnit.unit))
        else
         (some (false,PUnit.unit)))))))
   else
    (bif (↑a.toNat:Int)==(46:Int) then
     (some (true,PUnit.unit))
    else
     (bif (↑a.toNat:Int)==(45:Int) then
      (some (true,PUnit.unit))
     else
      (bif (↑a.toNat:Int)==(95:Int) then
       (some (true,PUnit.unit))
      else
       (bif (↑a.toNat:Int)==(47:Int) then
        (some (true,PUnit.unit))
       else
        (some (false,PUnit.unit))))))))
 else
  (bif decide ((↑a.toNat:Int)>=(48:Int)) then
   (bif decide ((↑a.toNat:Int)<=(57:Int)) then
    (some (true,PUnit.unit))
   else
    (bif (↑a.toNat:Int)==(46:Int) then
     (some (true,PUnit.unit))
    else
     (bif (↑a.toNat:Int)==(45:Int) then
      (some (true,PUnit.unit))
     else
      (bif (↑a.toNat:Int)==(95:Int) then
       (some (true,PUnit.unit))
      else
       (bif (↑a.toNat:Int)==(47:Int) then
        (some (true,PUnit.unit))
       else
        (some (false,PUnit.unit)))))))
  else
   (bif (↑a.toNat:Int)==(46:Int) then
    (some (true,PUnit.unit))
   else
    (bif (↑a.toNat:Int)==(45:Int) then
     (some (true,PUnit.unit))
    else
     (bif (↑a.toNat:Int)==(95:Int) then
      (some (true,PUnit.unit))
     else
      (bif (↑a.toNat:Int)==(47:Int) then
       (some (true,PUnit.unit))
      else
       (some (false,PUnit.unit)))))))):=bp AE a
abbrev VX:List (Nat×List (Nat×Sh)):=[(2,[(0,(.one .sym)),(2,(.one .sym)),(5,(.one .sym)),(6,(.one .sym))])]
def Ja (n:Nat) (t0:L8) (t2:Bool) (t5 t6:Int):Option (AA [.bool]):=rH prog (AL [(148,Ob)]) (AC VX) f100 [.bool] n 0 [(0,sy (.string (bs t0))),(2,.bool t2),(5,sy (.int .i64 t5)),(6,sy (.int .i64 t6))] []
def lT (x:AA [.str]):Option (AA [.bool]):=fO prog (AL [(148,Ob)]) (AC VX) f100 [.str] [.bool] x
theorem iL (N:Nat) (a:L8):BV prog (AL [(148,Ob)]) (AC VX) f100 [.str] [.bool] N (a,())=
 (Ja N (a) (false) ((↑a.length:Int)) ((0:Int))):=by kernel_rfl
theorem s9 (a:L8):lT (a,())=
 (Ja AE (a) (false) ((↑a.length:Int)) ((0:Int))):=iL AE a
theorem Xj (n:Nat) (t0:L8) (t2:Bool) (t5 t6:Int) {Qa}[Qa':QA (↑(t0.getD t6.toNat 0).toNat:Int) Qa] {Qb}[Qb':QA (some (false,PUnit.unit)) Qb]:Ja (n+1) t0 t2 t5 t6= (bif decide (t6<t5) then (bif Cf (UInt8.ofNat Qa.toNat) then (gd [decide (Ad IntKind.i64 (t6+1)),decide (Ad IntKind.u8 Qa),decide (0<=t6),decide (t6<t0.length)] (Ja n t0 t2 t5 (t6+1))) else (gd [decide (Ad IntKind.u8 Qa),decide (0<=t6),decide (t6<t0.length)] Qb)) else (bif decide ((↑t0.length:Int)>=1) then (bif decide ((↑t0.length:Int)<=40) then (some (true,PUnit.unit)) else Qb) else Qb)):=by obtain ⟨rfl⟩:=Qb';obtain ⟨rfl⟩:=Qa';kernel_rfl
abbrev VY:List (Nat×List (Nat×Sh)):=[(2,[(0,(.one .sym)),(2,(.one .sym)),(3,(.one .sym))])]
def Jb (n:Nat) (t0:L8) (t2:Bool) (t3:Int):Option (AA [.bool]):=rH prog (AL []) (AC VY) f26 [.bool] n 0 [(0,sy (.string (bs t0))),(2,.bool t2),(3,sy (.int .i64 t3))] []
def lU (x:AA [.str]):Option (AA [.bool]):=fO prog (AL []) (AC VY) f26 [.str] [.bool] x
theorem iM (N:Nat) (a:L8):BV prog (AL []) (AC VY) f26 [.str] [.bool] N (a,())=
 (Jb N (a) (false) ((0:Int))):=by kernel_rfl
theorem tA (a:L8):lU (a,())=
 (Jb AE (a) (false) ((0:Int))):=iM AE a
theorem Xk (n:Nat) (t0:L8) (t2:Bool) (t3:Int) {Qb}[Qb':QA (gd [decide (Ad IntKind.i64 (t3+1))] (Jb n t0 t2 (t3+1))) Qb] {Qc}[Qc':QA (↑(t0.getD t3.toNat 0).toNat:Int) Qc] {Qe}[Qe':QA (some (false,PUnit.unit)) Qe] {Qa}[Qa':QA (bif Qc !=46 then (bif Qc !=45 then (bif Qc !=95 then (bif Qc !=47 then Qe else Qb) else Qb) else Qb) else Qb) Qa] {Qd}[Qd':QA (bif decide (Qc<48) then Qa else (bif decide (Qc>57) then Qa else Qb)) Qd]:Jb (n+1) t0 t2 t3= (bif decide (t3<t0.length) then (gd [decide (0<=t3),decide (t3<t0.length)] (bif decide (Qc<97) then Qd else (bif decide (Qc>122) then Qd else Qb))) else (bif decide ((↑t0.length:Int)>=1) then (bif decide ((↑t0.length:Int)<=40) then (some (true,PUnit.unit)) else Qe) else Qe)):=by obtain ⟨rfl⟩:=Qd';obtain ⟨rfl⟩:=Qa';obtain ⟨rfl⟩:=Qe';obtain ⟨rfl⟩:=Qc';obtain ⟨rfl⟩:=Qb';kernel_rfl
abbrev bq:List (Nat×List (Nat×Sh)):=[]
def lV (x:AA [.str,.int .i64,.int .i64,.int .i64]):Option (AA [.int .i64,.bool]):=fO prog (AL [(188,Yi 189),(190,JE)]) (AC bq) f142 [.str,.int .i64,.int .i64,.int .i64] [.int .i64,.bool] x
theorem iN (N:Nat) (a:L8) (b c d:Int) {Qa}[Qa':QA (some ((Ci a).fst,false,PUnit.unit)) Qa] {Qb}[Qb':QA (decide ((10:Int)=10)&&decide ((64:Int)=64)) Qb]:BV prog (AL [(188,Yi 189),(190,JE)]) (AC bq) f142 [.str,.int .i64,.int .i64,.int .i64] [.int .i64,.bool] N (a,b,c,d,())= (bif decide (fZ a>=0) then (gd [AY a&&Qb] Qa) else (gd [AY a&&Qb] (bif (Ci a).snd then (bif decide ((↑a.length:Int)<=b) then (bif decide ((Ci a).fst>=c) then (bif decide ((Ci a).fst<=d) then (some ((Ci a).fst,true,PUnit.unit)) else Qa) else Qa) else Qa) else Qa))):=by obtain ⟨rfl⟩:=Qb';obtain ⟨rfl⟩:=Qa';kernel_rfl
theorem tB (a:L8) (b c d:Int):lV (a,b,c,d,())=
 (bif decide (fZ a>=(0:Int)) then
  (gd [AY a&&(decide ((10:Int)=(10:Int))&&decide ((64:Int)=(64:Int)))] (some ((Ci a).fst,false,PUnit.unit)))
 else
  (gd [AY a&&(decide ((10:Int)=(10:Int))&&decide ((64:Int)=(64:Int)))] (bif (Ci a).snd then
   (bif decide ((↑a.length:Int)<=b) then
    (bif decide ((Ci a).fst>=c) then
     (bif decide ((Ci a).fst<=d) then
      (some ((Ci a).fst,true,PUnit.unit))
     else
      (some ((Ci a).fst,false,PUnit.unit)))
    else
     (some ((Ci a).fst,false,PUnit.unit)))
   else
    (some ((Ci a).fst,false,PUnit.unit)))
  else
   (some ((Ci a).fst,false,PUnit.unit))))):=iN AE a b c d
abbrev tD:List (Nat×List (Nat×Sh)):=[]
def z6 (x:AA [.str,.str]):Option (AA [.bool]):=fO prog (AL []) (AC tD) f138 [.str,.str] [.bool] x
theorem tE (N:Nat) (b a:L8):BV prog (AL []) (AC tD) f138 [.str,.str] [.bool] N (b,a,())=
 (bif decide ((↑b.length:Int)>=(↑a.length:Int)) then
  (bif List.take (↑a.length:Int).toNat b==a then
   (gd [decide ((↑a.length:Int)<=(↑b.length:Int))] (some (true,PUnit.unit)))
  else
   (gd [decide ((↑a.length:Int)<=(↑b.length:Int))] (some (false,PUnit.unit))))
 else
  (some (false,PUnit.unit))):=by kernel_rfl
theorem ehp (b a:L8):z6 (b,a,())=
 (bif decide ((↑b.length:Int)>=(↑a.length:Int)) then
  (bif List.take (↑a.length:Int).toNat b==a then
   (gd [decide ((↑a.length:Int)<=(↑b.length:Int))] (some (true,PUnit.unit)))
  else
   (gd [decide ((↑a.length:Int)<=(↑b.length:Int))] (some (false,PUnit.unit))))
 else
  (some (false,PUnit.unit))):=tE AE b a
abbrev tF:List (Nat×List (Nat×Sh)):=[]
def z7 (x:AA [.str,.str]):Option (AA [.str,.bool]):=fO prog (AL [(138,A0)]) (AC tF) f193 [.str,.str] [.str,.bool] x
theorem tG (N:Nat) (a b:L8):BV prog (AL [(138,A0)]) (AC tF) f193 [.str,.str] [.str,.bool] N (a,b,())=
 (bif Ax a b then
  (gd [decide ((↑b.length:Int)<=(↑a.length:Int))] (some (List.drop (↑b.length:Int).toNat a,true,PUnit.unit)))
 else
  (some (a,false,PUnit.unit))):=by kernel_rfl
theorem ecp (a b:L8):z7 (a,b,())=
 (bif Ax a b then
  (gd [decide ((↑b.length:Int)<=(↑a.length:Int))] (some (List.drop (↑b.length:Int).toNat a,true,PUnit.unit)))
 else
  (some (a,false,PUnit.unit))):=tG AE a b
abbrev Kf:List (Nat×List (Nat×Sh)):=[(2,[(0,(.one .sym)),(2,(.one .sym)),(3,(.one .sym))])]
def Eg (n:Nat) (t0:Int) (t2 t3:L8):Option (AA [.str]):=rH prog (AL []) (AC Kf) f57 [.str] n 0 [(0,sy (.int .u64 t0)),(2,sy (.string (bs t2))),(3,sy (.string (bs t3)))] []
def S2 (x:AA [.int .u64]):Option (AA [.str]):=fO prog (AL []) (AC Kf) f57 [.int .u64] [.str] x
theorem VZ (N:Nat) (a:Int):BV prog (AL []) (AC Kf) f57 [.int .u64] [.str] N (a,())=
 (Eg N (a) ([]) ([])):=by kernel_rfl
theorem br (a:Int):S2 (a,())=
 (Eg AE (a) ([]) ([])):=VZ AE a
theorem Va (n:Nat) (t0:Int) (t2 t3:L8) {Qa}[Qa':QA (IntKind.u8.wrap (IntKind.u64.wrap ((48:Int)+t0.tmod ((10:Int))))) Qa]:Eg (n+1) t0 t2 t3= (gd [decide ([UInt8.ofNat Qa.toNat].length+t3.length<=1099511627776)] (bif IntKind.u64.wrap (t0.tdiv ((10:Int)))==0 then (some ([UInt8.ofNat Qa.toNat]++t3,PUnit.unit)) else (Eg n (IntKind.u64.wrap (t0.tdiv ((10:Int)))) t2 ([UInt8.ofNat Qa.toNat]++t3)))):=by obtain ⟨rfl⟩:=Qa';kernel_rfl
abbrev Pf:List (Nat×List (Nat×Sh)):=[]
def S3 (x:AA [.int .i64]):Option (AA [.str]):=fO prog (AL [(57,Yj)]) (AC Pf) f31 [.int .i64] [.str] x
theorem Vb (N:Nat) (a:Int) {Qa}[Qa':QA (IntKind.u64.wrap ((0:Int)-(a+1))+1) Qa]:BV prog (AL [(57,Yj)]) (AC Pf) f31 [.int .i64] [.str] N (a,())= (bif decide (a<0) then (gd [decide (1+(KF (IntKind.u64.wrap Qa)).length<=1099511627776),decide (0<=IntKind.u64.wrap Qa)&&decide (IntKind.u64.wrap Qa<18446744073709551616),decide (Ad IntKind.i64 ((0:Int)-(a+1))),decide (Ad IntKind.i64 (a+1))] (some ([45]++KF (IntKind.u64.wrap Qa),PUnit.unit))) else (gd [decide (0<=IntKind.u64.wrap a)&&decide (IntKind.u64.wrap a<18446744073709551616)] (some (KF (IntKind.u64.wrap a),PUnit.unit)))):=by obtain ⟨rfl⟩:=Qa';kernel_rfl
theorem bt (a:Int):S3 (a,())=
 (bif decide (a<(0:Int)) then
  (gd [decide (1+(KF (IntKind.u64.wrap (IntKind.u64.wrap ((0:Int)-(a+(1:Int)))+(1:Int)))).length<=1099511627776),decide ((0:Int)<=IntKind.u64.wrap (IntKind.u64.wrap ((0:Int)-(a+(1:Int)))+(1:Int)))&&decide (IntKind.u64.wrap (IntKind.u64.wrap ((0:Int)-(a+(1:Int)))+(1:Int))<(18446744073709551616:Int)),decide (Ad IntKind.i64 ((0:Int)-(a+(1:Int)))),decide (Ad IntKind.i64 (a+(1:Int)))] (some ([45]++KF (IntKind.u64.wrap (IntKind.u64.wrap ((0:Int)-(a+(1:Int)))+(1:Int))),PUnit.unit)))
 else
  (gd [decide ((0:Int)<=IntKind.u64.wrap a)&&decide (IntKind.u64.wrap a<(18446744073709551616:Int))] (some (KF (IntKind.u64.wrap a),PUnit.unit)))):=Vb AE a
open Nice
theorem Y9 {c:UInt8}:Cf c=true↔(97<=c.toNat/\c.toNat<=122\/48<=c.toNat/\c.toNat<=57\/c.toNat=46\/c.toNat=45\/c.toNat=95\/c.toNat=47):=by
 unfold Cf;rw[decide_eq_true_iff]
theorem ZA {c:UInt8}:Cf c=false↔¬(97<=c.toNat/\c.toNat<=122\/48<=c.toNat/\c.toNat<=57\/c.toNat=46\/c.toNat=45\/c.toNat=95\/c.toNat=47):=by
 unfold Cf;rw[decide_eq_false_iff_not]
theorem z8 {α:Type} {n m:Int} {a b:α} (h:n=m):(bif n==m then a else b)=a:=by subst h;rw[show(n==n)=true from beq_self_eq_true n];rfl
theorem beF {α:Type} {n m:Int} {a b:α} (h:n≠m):(bif n==m then a else b)=b:=by rw[show(n==m)=false from beq_eq_false_iff_ne.2 h];rfl
theorem bnT {α:Type} {n m:Int} {a b:α} (h:n≠m):(bif n !=m then a else b)=a:=by rw[show(n !=m)=true from bne_iff_ne.2 h];rfl
theorem bnF {α:Type} {n m:Int} {a b:α} (h:n=m):(bif n !=m then a else b)=b:=by rw[show(n !=m)=false from by subst h;exact bne_self_eq_false n];rfl
theorem Pg (c:UInt8):(c.toNat=45/\Cf c=true)\/(c.toNat=46/\Cf c=true)\/(c.toNat=47/\Cf c=true)\/((48<=c.toNat/\c.toNat<=57)/\Cf c=true)\/(c.toNat=95/\Cf c=true)\/((97<=c.toNat/\c.toNat<=122)/\Cf c=true)\/
  (c.toNat<45/\Cf c=false)\/((57<c.toNat/\c.toNat<97/\c.toNat≠95)/\Cf c=false)\/(122<c.toNat/\Cf c=false):=by
 by_cases h:Cf c=true
 ·have:=Y9.1 h;rw[h];simp only[and_true,reduceCtorEq,and_false,or_false];omega
 ·have h:Cf c=false:=by simpa using h
  have:=ZA.1 h;rw[h];simp only[and_true,reduceCtorEq,and_false,false_or];omega
theorem iO (c:UInt8):bo (c,())=some (Cf c,()):=by
 rw[nZ];rcases Pg c with⟨h,e⟩|⟨h,e⟩|⟨h,e⟩|⟨h,e⟩|⟨h,e⟩|⟨h,e⟩|⟨h,e⟩|⟨h,e⟩|⟨h,e⟩<;>rw[e]<;>simp(disch:=omega) only[Au,Av,z8,beF]
theorem bu (t2:Bool) (s:L8) (i:s.length<=140737488355328):∀(a done:L8) (n:Nat),s=done++a->a.length<n->Ja n s t2 (s.length:Int) (done.length:Int)=some (a.all Cf&&(decide (1<=s.length)&&decide (s.length<=40)),())
 |[],done,n,b,e=>by
  obtain⟨m,rfl⟩:∃m,n=m+1:=⟨n-1,by omega⟩
  have:s.length=done.length:=by rw[b];simp
  rw[Xj,Av (by omega)];simp only[List.all_nil,Bool.true_and];by_cases d:1<=s.length
  ·rw[Au (by omega)];by_cases f:s.length<=40
   ·rw[Au (by omega)];simp[d,f]
   ·rw[Av (by omega)];simp[d,f]
  ·rw[Av (by omega)];simp[d]
 |c::a,done,n,b,e=>by
  obtain⟨m,rfl⟩:∃m,n=m+1:=⟨n-1,by omega⟩
  have j:s.length=done.length+(a.length+1):=by rw[b];simp
  simp only[List.length_cons] at e;have g:=bu t2 s i a (done++[c]) m (by simp[b]) (by omega);simp only[List.length_append,List.length_singleton,Int.natCast_add] at g;have k:s.getD done.length 0=c:=by rw[b,Dg]
  have l:=c.toNat_lt;rw[Xj];simp only[Int.toNat_natCast,k,UInt8.ofNat_toNat];rw[Au (by omega)];cases h:Cf c
  ·rw[cond_false];simp(disch:=omega) only[AP,BM,JD];simp[h]
  ·rw[cond_true];simp(disch:=omega) only[AP,BM,JD,AH];simp only[List.all_cons,h,Bool.true_and];exact g
theorem na (s:L8) (h:AY s=true):lT (s,())=some (isKey s,()):=by
 have h:s.length<=140737488355328:=of_decide_eq_true h;rw[s9];exact bu false s h s [] AE rfl (by unfold AE;omega)
theorem ABP (t2:Bool) (s:L8) (j:s.length<=140737488355328):∀(a done:L8) (n:Nat),s=done++a->a.length<n->Jb n s t2 (done.length:Int)=some (a.all Cf&&(decide (1<=s.length)&&decide (s.length<=40)),())
 |[],done,n,b,f=>by
  obtain⟨m,rfl⟩:∃m,n=m+1:=⟨n-1,by omega⟩
  have:s.length=done.length:=by rw[b];simp
  rw[Xk,Av (by omega)];simp only[List.all_nil,Bool.true_and];by_cases d:1<=s.length
  ·rw[Au (by omega)];by_cases g:s.length<=40
   ·rw[Au (by omega)];simp[d,g]
   ·rw[Av (by omega)];simp[d,g]
  ·rw[Av (by omega)];simp[d]
 |c::a,done,n,b,f=>by
  obtain⟨m,rfl⟩:∃m,n=m+1:=⟨n-1,by omega⟩
  have k:s.length=done.length+(a.length+1):=by rw[b];simp
  simp only[List.length_cons] at f;have i:=ABP t2 s j a (done++[c]) m (by simp[b]) (by omega);simp only[List.length_append,List.length_singleton,Int.natCast_add] at i;have l:s.getD done.length 0=c:=by rw[b,Dg]
  have o:=c.toNat_lt;rw[Xk];simp only[Int.toNat_natCast,l];rcases Pg c with⟨h,e⟩|⟨h,e⟩|⟨h,e⟩|⟨h,e⟩|⟨h,e⟩|⟨h,e⟩|⟨h,e⟩|⟨h,e⟩|⟨h,e⟩<;>simp(disch:=omega) only[Au,Av,bnT,bnF,AP,BM,AH]<;>simp only[List.all_cons,e,Bool.true_and,Bool.false_and]<;>first|rfl|exact i
theorem nb (s:L8) (h:AY s=true):lU (s,())=some (isKey s,()):=by
 have h:s.length<=140737488355328:=of_decide_eq_true h;rw[tA];exact ABP false s h s [] AE rfl (by unfold AE;omega)
theorem nc (s:L8) (a lo b:Int) (h:AY s=true):lV (s,a,lo,b,())=some ((AA5 s a lo b).1,(AA5 s a lo b).2,()):=by
 rw[tB];have f:(AY s&&(decide True&&decide True))=true:=by rw[h];rfl
 simp only[Ag f,BM,kQ,AA5];cases Cp s
 ·simp only[Bool.not_false,cond_true,Bool.false_and]
 ·simp only[Bool.not_true,cond_false,Bool.true_and];cases(Ci s).2
  ·simp only[cond_false,Bool.false_and]
  ·simp only[cond_true,Bool.true_and];by_cases c:(s.length:Int)<=a
   ·rw[Au c,decide_eq_true c,Bool.true_and];by_cases d:(Ci s).1>=lo
    ·rw[Au d,decide_eq_true d,Bool.true_and];by_cases e:(Ci s).1<=b
     ·rw[Au e,decide_eq_true e]
     ·rw[Av e,decide_eq_false e]
    ·rw[Av d,decide_eq_false d,Bool.false_and]
   ·rw[Av c,decide_eq_false c,Bool.false_and]
theorem yM (s p:L8):z6 (s,p,())=some (Ax s p,()):=by
 rw[ehp];unfold Ax;by_cases h:p.length<=s.length
 ·rw[Au (by omega),decide_eq_true h,Bool.true_and,AP (by omega),AP (by omega),BM,BM,Int.toNat_natCast];cases(s.take p.length==p)<;>rfl
 ·rw[Av (by omega),decide_eq_false h,Bool.false_and]
theorem Dr {s p:L8} (h:Ax s p=true):p.length<=s.length:=by
 unfold Ax at h;rw[Bool.and_eq_true,decide_eq_true_eq] at h;exact h.1
theorem yN (s p:L8):z7 (s,p,())=some ((A8 s p).1,(A8 s p).2,()):=by
 rw[ecp];unfold A8;cases a:Ax s p
 ·rfl
 ·have:=Dr a;rw[cond_true,cond_true,AP (by omega),BM,Int.toNat_natCast]
end Go.Proofs.YtkgejlchafionaaGreatDoor
namespace Go.Proofs
open Go.Shelf
def Tryz.laysC174_ren:Go.Shelf.Ren:=⟨λ|174=>190|247=>233|245=>234|287=>264|279=>265|280=>266|281=>267|282=>268|321=>287|322=>288|316=>289|171=>50|205=>290|243=>92|246=>90|283=>131|284=>132|285=>133|286=>134|129=>179|317=>178|318=>180|319=>181|320=>182|337=>224|338=>225|n=>n,λ|9=>9|3=>3|2=>2|75=>192|85=>247|4=>4|167=>298|5=>5|53=>119|175=>299|46=>211|168=>301|37=>156|0=>0|210=>316|21=>21|127=>242|145=>340|143=>338|171=>182|173=>185|212=>238|51=>239|20=>20|213=>240|232=>292|233=>293|80=>148|n=>n,λ|15=>5|16=>6|17=>0|18=>1|19=>2|n=>n⟩
theorem Tryz.laysC174:Go.Proofs.LaysC.n174 Tryz.prog Tryz.laysC174_ren:={
 mixed:=by kernel_rfl
 f129:=Tryz.func179.trans (congrArg some (by kernel_rfl))
 f171:=Tryz.func50.trans (congrArg some (by kernel_rfl))
 f174:=Tryz.func190.trans (congrArg some (by kernel_rfl))
 f205:=Tryz.func290.trans (congrArg some (by kernel_rfl))
 f243:=Tryz.func92.trans (congrArg some (by kernel_rfl))
 f245:=Tryz.func234.trans (congrArg some (by kernel_rfl))
 f246:=Tryz.func90.trans (congrArg some (by kernel_rfl))
 f247:=Tryz.func233.trans (congrArg some (by kernel_rfl))
 f279:=Tryz.func265.trans (congrArg some (by kernel_rfl))
 f280:=Tryz.func266.trans (congrArg some (by kernel_rfl))
 f281:=Tryz.func267.trans (congrArg some (by kernel_rfl))
 f282:=Tryz.func268.trans (congrArg some (by kernel_rfl))
 f283:=Tryz.func131.trans (congrArg some (by kernel_rfl))
 f284:=Tryz.func132.trans (congrArg some (by kernel_rfl))
 f285:=Tryz.func133.trans (congrArg some (by kernel_rfl))
 f286:=Tryz.func134.trans (congrArg some (by kernel_rfl))
 f287:=Tryz.func264.trans (congrArg some (by kernel_rfl))
 f316:=Tryz.func289.trans (congrArg some (by kernel_rfl))
 f317:=Tryz.func178.trans (congrArg some (by kernel_rfl))
 f318:=Tryz.func180.trans (congrArg some (by kernel_rfl))
 f319:=Tryz.func181.trans (congrArg some (by kernel_rfl))
 f320:=Tryz.func182.trans (congrArg some (by kernel_rfl))
 f321:=Tryz.func287.trans (congrArg some (by kernel_rfl))
 f322:=Tryz.func288.trans (congrArg some (by kernel_rfl))
 f337:=Tryz.func224.trans (congrArg some (by kernel_rfl))
 f338:=Tryz.func225.trans (congrArg some (by kernel_rfl))
 t0:=Tryz.underlying0
 a0:=Tryz.isAgg0
 z0:=Tryz.sizeOf0
 v0:=Tryz.zeroValue0
 t2:=Tryz.underlying2
 a2:=Tryz.isAgg2
 z2:=Tryz.sizeOf2
 v2:=Tryz.zeroValue2
 t3:=Tryz.underlying3
 a3:=Tryz.isAgg3
 z3:=Tryz.sizeOf3
 v3:=Tryz.zeroValue3
 t4:=Tryz.underlying4
 a4:=Tryz.isAgg4
 z4:=Tryz.sizeOf4
 v4:=Tryz.zeroValue4
 t5:=Tryz.underlying5
 a5:=Tryz.isAgg5
 z5:=Tryz.sizeOf5
 v5:=Tryz.zeroValue5
 t9:=Tryz.underlying9
 a9:=Tryz.isAgg9
 z9:=Tryz.sizeOf9
 v9:=Tryz.zeroValue9
 t20:=Tryz.underlying20
 a20:=Tryz.isAgg20
 z20:=Tryz.sizeOf20
 v20:=Tryz.zeroValue20
 t21:=Tryz.underlying21
 a21:=Tryz.isAgg21
 z21:=Tryz.sizeOf21
 v21:=Tryz.zeroValue21
 t37:=Tryz.underlying156
 a37:=Tryz.isAgg156
 z37:=Tryz.sizeOf156
 v37:=Tryz.zeroValue156
 t46:=Tryz.underlying211
 a46:=Tryz.isAgg211
 z46:=Tryz.sizeOf211
 v46:=Tryz.zeroValue211
 t51:=Tryz.underlying239
 a51:=Tryz.isAgg239
 z51:=Tryz.sizeOf239
 v51:=Tryz.zeroValue239
 t53:=Tryz.underlying119
 a53:=Tryz.isAgg119
 z53:=Tryz.sizeOf119
 v53:=Tryz.zeroValue119
 t75:=Tryz.underlying192
 a75:=Tryz.isAgg192
 z75:=Tryz.sizeOf192
 v75:=Tryz.zeroValue192
 t85:=Tryz.underlying247
 a85:=Tryz.isAgg247
 z85:=Tryz.sizeOf247
 v85:=Tryz.zeroValue247
 t127:=Tryz.underlying242
 a127:=Tryz.isAgg242
 z127:=Tryz.sizeOf242
 v127:=Tryz.zeroValue242
 t143:=Tryz.underlying338
 a143:=Tryz.isAgg338
 z143:=Tryz.sizeOf338
 v143:=Tryz.zeroValue338
 t145:=Tryz.underlying340
 a145:=Tryz.isAgg340
 z145:=Tryz.sizeOf340
 v145:=Tryz.zeroValue340
 t167:=Tryz.underlying298
 a167:=Tryz.isAgg298
 z167:=Tryz.sizeOf298
 v167:=Tryz.zeroValue298
 t168:=Tryz.underlying301
 a168:=Tryz.isAgg301
 z168:=Tryz.sizeOf301
 v168:=Tryz.zeroValue301
 t171:=Tryz.underlying182
 a171:=Tryz.isAgg182
 z171:=Tryz.sizeOf182
 v171:=Tryz.zeroValue182
 t173:=Tryz.underlying185
 a173:=Tryz.isAgg185
 z173:=Tryz.sizeOf185
 v173:=Tryz.zeroValue185
 t175:=Tryz.underlying299
 a175:=Tryz.isAgg299
 z175:=Tryz.sizeOf299
 v175:=Tryz.zeroValue299
 t210:=Tryz.underlying316
 a210:=Tryz.isAgg316
 z210:=Tryz.sizeOf316
 v210:=Tryz.zeroValue316
 t212:=Tryz.underlying238
 a212:=Tryz.isAgg238
 z212:=Tryz.sizeOf238
 v212:=Tryz.zeroValue238
 t213:=Tryz.underlying240
 a213:=Tryz.isAgg240
 z213:=Tryz.sizeOf240
 t232:=Tryz.underlying292
 a232:=Tryz.isAgg292
 z232:=Tryz.sizeOf292
 v232:=Tryz.zeroValue292
 t233:=Tryz.underlying293
 a233:=Tryz.isAgg293
 z233:=Tryz.sizeOf293
 v233:=Tryz.zeroValue293
 g15:=by kernel_rfl
 g16:=by kernel_rfl
 g17:=by kernel_rfl
 g18:=by kernel_rfl
 g19:=by kernel_rfl
 t80:=Tryz.underlying148
 a80:=Tryz.isAgg148
 z80:=Tryz.sizeOf148
 v80:=Tryz.zeroValue148
 i0:=by kernel_rfl
 i2:=by kernel_rfl
 i3:=by kernel_rfl
 i4:=by kernel_rfl
 i5:=by kernel_rfl
 i9:=by kernel_rfl
 i20:=by kernel_rfl
 i21:=by kernel_rfl
 i37:=by kernel_rfl
 i46:=by kernel_rfl
 i51:=by kernel_rfl
 i53:=by kernel_rfl
 i75:=by kernel_rfl
 i80:=by kernel_rfl
 i85:=by kernel_rfl
 i127:=by kernel_rfl
 i143:=by kernel_rfl
 i145:=by kernel_rfl
 i167:=by kernel_rfl
 i168:=by kernel_rfl
 i171:=by kernel_rfl
 i173:=by kernel_rfl
 i175:=by kernel_rfl
 i210:=by kernel_rfl
 i212:=by kernel_rfl
 i232:=by kernel_rfl
 i233:=by kernel_rfl
 m15:=by kernel_rfl
 m16:=by kernel_rfl
 m17:=by kernel_rfl
 m18:=by kernel_rfl
 m19:=by kernel_rfl
 c0:=by kernel_rfl
 c2:=by kernel_rfl
 c3:=by kernel_rfl
 c4:=by kernel_rfl
 c5:=by kernel_rfl
 c9:=by kernel_rfl
 c20:=by kernel_rfl
 c21:=by kernel_rfl
 c37:=by kernel_rfl
 c46:=by kernel_rfl
 c51:=by kernel_rfl
 c53:=by kernel_rfl
 c75:=by kernel_rfl
 c80:=by kernel_rfl
 c85:=by kernel_rfl
 c127:=by kernel_rfl
 c143:=by kernel_rfl
 c145:=by kernel_rfl
 c167:=by kernel_rfl
 c168:=by kernel_rfl
 c171:=by kernel_rfl
 c173:=by kernel_rfl
 c175:=by kernel_rfl
 c210:=by kernel_rfl
 c212:=by kernel_rfl
 c213:=by kernel_rfl
 c232:=by kernel_rfl
 c233:=by kernel_rfl}
open Go.RowKit in
theorem Tryz.strconv_ParseInt_10_at64_ok (s:ByteArray) (a:s.size<=9223372036854775806) (v:Int) (h:Lib.parseIntB 64 s.data.toList=.ok v) (w:World):
 Calls Tryz.prog 190 #[.string s,.int .i64 10,.int .i64 64] w λe w'=>e=.returned (.tuple #[.int .i64 v,.nilIface])/\(w'=w\/∃t,w'=Lib.bytesWorld w 5 t):=Any.strconv_ParseInt_10_at64_ok Tryz.laysC174 s a v h w
open Go.RowKit in
theorem Tryz.strconv_ParseInt_10_at64_syntax (s:ByteArray) (a:s.size<=281474976710656) (h:Lib.parseIntB 64 s.data.toList=Lib.NumEnd.syntax) (ev:Value) (w:World) (c:w.cell? ⟨5,0,none⟩=some ev) (b:ev=.nilIface\/∃d f,ev=.iface d f):
 Calls Tryz.prog 190 #[.string s,.int .i64 10,.int .i64 64] w λe w'=>∃N,e=.returned (.tuple #[.int .i64 (0),.iface 301 (.pointer (some ⟨N,0,none⟩))])/\w.heap.size<=N/\w'.heap[N]?=some (.cells #[.string ⟨#[80,97,114,115,101,73,110,116]⟩,.string s,ev] 316 (0,0))/\Below w.heap.size w w':=Any.strconv_ParseInt_10_at64_syntax Tryz.laysC174 s a h ev w c b
open Go.RowKit in
theorem Tryz.strconv_ParseInt_10_at64_range (s:ByteArray) (a:s.size<=281474976710656) (h:Lib.parseIntB 64 s.data.toList=.range) (ev:Value) (w:World) (c:w.cell? ⟨6,0,none⟩=some ev) (b:ev=.nilIface\/∃d f,ev=.iface d f):
 Calls Tryz.prog 190 #[.string s,.int .i64 10,.int .i64 64] w λe w'=>∃N,e=.returned (.tuple #[.int .i64 (Lib.intSat 64 s.data.toList),.iface 301 (.pointer (some ⟨N,0,none⟩))])/\w.heap.size<=N/\w'.heap[N]?=some (.cells #[.string ⟨#[80,97,114,115,101,73,110,116]⟩,.string s,ev] 316 (0,0))/\Below w.heap.size w w':=Any.strconv_ParseInt_10_at64_range Tryz.laysC174 s a h ev w c b
def Tryz.laysGw15_ren:Go.Shelf.Ren:=⟨λ|15=>188|20=>232|n=>n,λ|9=>9|23=>246|3=>3|4=>4|0=>0|21=>21|n=>n,λ|n=>n⟩
theorem Tryz.laysGw15:Go.Proofs.LaysGw.n15 Tryz.prog Tryz.laysGw15_ren:={
 mixed:=by kernel_rfl
 f15:=Tryz.func188.trans (congrArg some (by kernel_rfl))
 f20:=Tryz.func232.trans (congrArg some (by kernel_rfl))
 t0:=Tryz.underlying0
 a0:=Tryz.isAgg0
 z0:=Tryz.sizeOf0
 v0:=Tryz.zeroValue0
 i0:=by kernel_rfl
 t3:=Tryz.underlying3
 a3:=Tryz.isAgg3
 z3:=Tryz.sizeOf3
 v3:=Tryz.zeroValue3
 i3:=by kernel_rfl
 t4:=Tryz.underlying4
 a4:=Tryz.isAgg4
 z4:=Tryz.sizeOf4
 v4:=Tryz.zeroValue4
 i4:=by kernel_rfl
 t9:=Tryz.underlying9
 a9:=Tryz.isAgg9
 z9:=Tryz.sizeOf9
 v9:=Tryz.zeroValue9
 i9:=by kernel_rfl
 t21:=Tryz.underlying21
 a21:=Tryz.isAgg21
 z21:=Tryz.sizeOf21
 v21:=Tryz.zeroValue21
 i21:=by kernel_rfl
 t23:=Tryz.underlying246
 a23:=Tryz.isAgg246
 z23:=Tryz.sizeOf246
 v23:=Tryz.zeroValue246
 i23:=by kernel_rfl}
open Go.RowKit Go.Lib in
theorem Tryz.strings_IndexFunc (g:Nat) (a:Array Value) (b:∀args w,(callFunc g args).run Tryz.prog w=.ok (.enter g args) w) (p:Nat->Bool) (s:ByteArray) (w:World) (c:PredAt Tryz.prog g a encR p w):
 Calls Tryz.prog 188 #[.string s,.func (.func g) #[] a] w λe w'=>e=.returned (.int .i64 (Lib.idxFunc p true s))/\Below w.heap.size w w':=Any.strings_IndexFunc Tryz.laysGw15 g a b p s w c
open Go.Shelf
open Go.RowKit Go.Lib in
theorem Tryz.notDig (w:World):PredAt Tryz.prog 189 #[] encR Nice.notDig w:=λW r _=>by
 unfold FnGives;by_cases a:r<48<;>by_cases b:57<r
 all_goals
  have c:(r:Int)<(48:Int)↔r<48:=by omega
  have z2:(57:Int)<(r:Int)↔57<r:=by omega
  go_enter Tryz.func189,Tryz.ntmps215
  go_wp2
  all_goals first|(exfalso;omega)|(go_ret;exact⟨by simp[Nice.notDig,a,b],0,rfl⟩)
end Go.Proofs
namespace Go.Proofs.YtkgejlchafionaaGreatDoor
open Tryz
open Nice Go.RowKit
theorem iP:PC 190 JE:=Nk λfz w args x f y m=>by
 obtain⟨s,b,c,⟨⟩⟩:=x;simp only[JE,Bool.and_eq_true,decide_eq_true_eq] at m;obtain⟨o,rfl,rfl⟩:=m;have o:s.length<=140737488355328:=of_decide_eq_true o;obtain⟨_,_,z,A,i⟩:=Jr rfl y;obtain⟨_,_,rfl,B,j⟩:=Jr rfl i;obtain⟨_,C,rfl,D,k⟩:=Jr rfl j;obtain rfl:C=[]:=k;cases A;cases B;cases D
 have E:args=#[.string (bs s),.int .i64 10,.int .i64 64]:=Array.toList_inj.1 z;subst E;have fin:∀(n:Int) (ev:Value) (b:Bool) (w':World),ew b ev=true->Bx w w'->Ci s=(n,b)->∃vs,Ending.returned (.tuple #[.int .i64 n,ev])=.returned (De vs)/\Bc fz JE.rs (JE.g (s,10,64,())) vs/\Bx w w':=by
  intro n ev b w' F G q;refine⟨[.int .i64 n,ev],rfl,⟨_,_,rfl,.inr ⟨rfl,?_⟩,_,_,rfl,.inr ⟨rfl,?_⟩,rfl⟩,G⟩
  ·show [Value.int .i64 n]=[Value.int .i64 (Ci s).1];rw[q]
  ·exact⟨ev,rfl,by show ew (Ci s).2 ev=true;rw[q];exact F⟩
 have r:∀(p:Nat),(p,[er false])∈FP->∃u,w.cell? ⟨p,0,none⟩=some u/\(u=.nilIface\/∃H I,u=.iface H I):=λp J=>by
  obtain⟨u,d,K⟩:=f.1 _ J 0 (er false) rfl;exact⟨u,d,glE K⟩
 rcases h:Lib.parseIntB 64 s with v|_|_
 ·refine(Tryz.strconv_ParseInt_10_at64_ok (bs s) (by rw[Nj];omega) v (by rw[EU];exact h) w).mono ?_;rintro e w' ⟨rfl,L⟩;refine fin v .nilIface true w' rfl ?_ (by unfold Ci;rw[h]);rcases L with rfl|⟨t,rfl⟩
  ·exact E9 (Below.refl _ _)
  ·exact E9 (Lib.bytesWorld_below _ _ _)
 ·obtain⟨u,d,l⟩:=r 5 (by simp[FP]);refine(Tryz.strconv_ParseInt_10_at64_syntax (bs s) (by rw[Nj];omega) (by rw[EU];exact h) u w d l).mono ?_;rintro e w' ⟨N,rfl,_,_,a⟩;exact fin 0 _ false w' rfl (E9 a) (by unfold Ci;rw[h])
 ·obtain⟨u,d,l⟩:=r 6 (by simp[FP]);refine(Tryz.strconv_ParseInt_10_at64_range (bs s) (by rw[Nj];omega) (by rw[EU];exact h) u w d l).mono ?_;rintro e w' ⟨N,rfl,_,_,a⟩;rw[EU];exact fin _ _ false w' rfl (E9 a) (by unfold Ci;rw[h])
theorem ACA:PC 188 (Yi 189):=Nk λfz w args x c d l=>by
 obtain⟨s,u,⟨⟩⟩:=x;obtain⟨_,_,f,g,a⟩:=Jr rfl d;obtain⟨_,h,rfl,i,b⟩:=Jr rfl a;obtain rfl:h=[]:=b;cases g;cases i;have j:args=#[.string (bs s),.func (.func 189) #[] #[]]:=Array.toList_inj.1 f;subst j;refine(Tryz.strings_IndexFunc 189 #[] (enters_of func189 (by kernel_rfl) rfl) notDig (bs s) w (Tryz.notDig w)).mono ?_
 rintro e w' ⟨rfl,k⟩;exact⟨[_],rfl,⟨_,_,rfl,.inr ⟨rfl,rfl⟩,rfl⟩,E9 k⟩
open Nice
theorem bw {s:L8} {a lo b:Int} (h:(AA5 s a lo b).2=true):0<s.length:=by
 cases s with
 |nil=>simp[AA5,Ci,Lib.parseIntB] at h
 |cons c r=>simp
theorem Vc {q p:L8} (h:AY q=true):AY (A8 q p).1=true:=by
 have h:q.length<=140737488355328:=of_decide_eq_true h;refine decide_eq_true ?_;unfold A8;cases Ax q p
 ·exact h
 ·simp only[cond_true,List.length_drop];omega
theorem Ph:∀(f n:Nat) (a:L8),(KE f n a).length<=f+a.length
 |0,n,a=>by simp[KE]
 |f+1,n,a=>by
  simp only[KE]
  split
  ·simp;omega
  ·have:=Ph f (n/10) (UInt8.ofNat (48+n%10)::a);simp only[List.length_cons] at this;omega
theorem bx {n:Int} (a:0<=n) (b:n<18446744073709551616):IntKind.u64.wrap n=n:=by
 show n%18446744073709551616=n;exact Int.emod_eq_of_lt a b
theorem Pi (t2:L8):∀(f n:Nat) (u:Nat) (a:L8),u<18446744073709551616->u<10^f->a.length<=100-f->f<=20->0<f->f<n->Eg n (u:Int) t2 a=some (KE f u a,())
 |0,n,u,a,_,_,_,_,e,_=>absurd e (Nat.lt_irrefl 0)
 |f+1,n,u,a,k,b,l,o,_,p=>by
  obtain⟨m,rfl⟩:∃m,n=m+1:=⟨n-1,by omega⟩
  have g:(u:Int).tmod 10=((u%10:Nat):Int):=rfl;have i:(u:Int).tdiv 10=((u/10:Nat):Int):=rfl;have j:UInt8.ofNat (IntKind.u8.wrap (IntKind.u64.wrap ((48:Int)+((u%10:Nat):Int)))).toNat=UInt8.ofNat (48+u%10):=by
   rw[bx (by omega) (by omega),MW];congr 1;omega
  rw[Va];simp only[g,i,j,List.length_singleton];rw[AP (by omega),BM,bx (by omega) (by omega)];simp only[KE];by_cases h:u/10=0
  ·rw[if_pos h,z8 (by omega)];rfl
  ·rw[if_neg h,beF (by omega)];have c:0<f:=by
    rcases Nat.eq_zero_or_pos f with d|d
    ·subst d;simp at b;omega
    ·exact d
   exact Pi t2 f m (u/10) (UInt8.ofNat (48+u%10)::a) (by omega) (by rw[Nat.pow_succ] at b;omega) (by simp;omega) (by omega) c (by omega)
theorem ZB (u:Int) (h:(decide (0<=u)&&decide (u<18446744073709551616))=true):S2 (u,())=some (KF u,()):=by
 rw[Bool.and_eq_true,decide_eq_true_eq,decide_eq_true_eq] at h;obtain⟨n,rfl⟩:∃n:Nat,u=(n:Int):=⟨u.toNat,by omega⟩
 rw[br];have:=Pi [] 20 AE n [] (by omega) (by omega) (by simp) (by omega) (by omega) (by unfold AE;omega);simpa[KF] using this
theorem S4 (u:Int):(KF u).length<=20:=by
 have:=Ph 20 u.toNat [];simpa[KF] using this
theorem ZC (n:Int) (h:(decide (-9223372036854775808<=n)&&decide (n<=9223372036854775807))=true):S3 (n,())=some (Bp n,()):=by
 rw[Bool.and_eq_true,decide_eq_true_eq,decide_eq_true_eq] at h;rw[bt];unfold Bp;by_cases a:n<0
 ·rw[Au a,if_pos a];have b:IntKind.u64.wrap ((0:Int)-(n+1))=0-(n+1):=bx (by omega) (by omega);have e:IntKind.u64.wrap (IntKind.u64.wrap ((0:Int)-(n+1))+1)= -n:=by
   rw[b,bx (by omega) (by omega)];omega
  rw[e];have c:=S4 (-n);rw[AP (by omega),Ag (by rw[decide_eq_true (by omega),decide_eq_true (by omega)];rfl),AP (by rw[AH];omega),AP (by rw[AH];omega),BM];rfl
 ·rw[Av a,if_neg a,bx (by omega) (by omega),Ag (by rw[decide_eq_true (by omega),decide_eq_true (by omega)];rfl),BM]
open Nice
theorem tI (f:FuncId) (ts rs:List Ty):PC f (kR ts rs):=λfz w args x _ _ _ h=>by cases h
theorem iQ:PC 148 Ob:=(AN (AG (l:=[]) trivial) AM func148 (by kernel_rfl) (by decide)).nice λ⟨c,()⟩ _=>iO c
theorem M8:PC 100 Az:=(AN (AG (l:=[(148,Ob)]) ⟨iQ,trivial⟩) AM func100 (by kernel_rfl) (by decide)).nice λ⟨s,()⟩ h=>na s h
theorem Vd:PC 26 Az:=(AN (AG (l:=[]) trivial) AM func26 (by kernel_rfl) (by decide)).nice λ⟨s,()⟩ h=>nb s h
theorem bz:PC 142 PH:=(AN (AG (l:=[(188,Yi 189),(190,JE)]) ⟨ACA,iP,trivial⟩) AM func142 (by kernel_rfl) (by decide)).nice λ⟨s,a,b,c,()⟩ h=>nc s a b c h
theorem Ve:PC 138 A0:=(AN (AG (l:=[]) trivial) AM func138 (by kernel_rfl) (by decide)).nice λ⟨s,p,()⟩ _=>yM s p
theorem tJ:PC 193 EW:=(AN (AG (l:=[(138,A0)]) ⟨Ve,trivial⟩) AM func193 (by kernel_rfl) (by decide)).nice λ⟨s,p,()⟩ _=>yN s p
theorem nf:PC 57 Yj:=(AN (AG (l:=[]) trivial) AM func57 (by kernel_rfl) (by decide)).nice λ⟨u,()⟩ h=>ZB u h
theorem M9:PC 31 D6:=(AN (AG (l:=[(57,Yj)]) ⟨nf,trivial⟩) AM func31 (by kernel_rfl) (by decide)).nice λ⟨n,()⟩ h=>ZC n h
end Go.Proofs.YtkgejlchafionaaGreatDoor
namespace Go.Proofs
open Go.Shelf
def Tryz.lays145_ren:Go.Shelf.Ren:=⟨λ|145=>140|220=>186|219=>231|217=>260|225=>261|224=>262|267=>263|266=>285|314=>286|n=>n,λ|9=>9|4=>4|59=>196|3=>3|5=>5|46=>211|146=>312|51=>239|n=>n,λ|1=>3|n=>n⟩
theorem Tryz.lays145:Go.Proofs.Lays.n145 Tryz.prog Tryz.lays145_ren:={
 mixed:=by kernel_rfl
 f145:=Tryz.func140.trans (congrArg some (by kernel_rfl))
 f217:=Tryz.func260.trans (congrArg some (by kernel_rfl))
 f219:=Tryz.func231.trans (congrArg some (by kernel_rfl))
 f220:=Tryz.func186.trans (congrArg some (by kernel_rfl))
 f224:=Tryz.func262.trans (congrArg some (by kernel_rfl))
 f225:=Tryz.func261.trans (congrArg some (by kernel_rfl))
 f266:=Tryz.func285.trans (congrArg some (by kernel_rfl))
 f267:=Tryz.func263.trans (congrArg some (by kernel_rfl))
 f314:=Tryz.func286.trans (congrArg some (by kernel_rfl))
 t3:=Tryz.underlying3
 a3:=Tryz.isAgg3
 z3:=Tryz.sizeOf3
 v3:=Tryz.zeroValue3
 t4:=Tryz.underlying4
 a4:=Tryz.isAgg4
 z4:=Tryz.sizeOf4
 v4:=Tryz.zeroValue4
 t5:=Tryz.underlying5
 a5:=Tryz.isAgg5
 z5:=Tryz.sizeOf5
 v5:=Tryz.zeroValue5
 t9:=Tryz.underlying9
 a9:=Tryz.isAgg9
 z9:=Tryz.sizeOf9
 v9:=Tryz.zeroValue9
 t46:=Tryz.underlying211
 a46:=Tryz.isAgg211
 z46:=Tryz.sizeOf211
 v46:=Tryz.zeroValue211
 t51:=Tryz.underlying239
 a51:=Tryz.isAgg239
 z51:=Tryz.sizeOf239
 v51:=Tryz.zeroValue239
 t59:=Tryz.underlying196
 a59:=Tryz.isAgg196
 z59:=Tryz.sizeOf196
 v59:=Tryz.zeroValue196
 t146:=Tryz.underlying312
 a146:=Tryz.isAgg312
 z146:=Tryz.sizeOf312
 v146:=Tryz.zeroValue312
 g1:=by kernel_rfl}
open Go.RowKit Go.Lib in
theorem Tryz.strings_Cut (s a:ByteArray) (m:Int) (w:World) (b:s.size<4294967281) (c:w.cell? ⟨3,0,none⟩=some (.int .i64 m)):
 Calls Tryz.prog 140 #[.string s,.string a] w λe w'=>e=.returned (.tuple #[.string ⟨(Lib.cut s.data.toList a.data.toList).1.toArray⟩,.string ⟨(Lib.cut s.data.toList a.data.toList).2.1.toArray⟩,.bool (Lib.cut s.data.toList a.data.toList).2.2])/\∃n,w'=w.drewN n:=Any.strings_Cut Tryz.lays145 s a m w b c
def Tryz.lays146_ren:Go.Shelf.Ren:=⟨λ|146=>139|221=>185|268=>228|138=>229|143=>230|195=>257|197=>258|218=>259|219=>231|260=>284|217=>260|225=>261|224=>262|267=>263|266=>285|314=>286|n=>n,λ|9=>9|31=>92|3=>3|4=>4|0=>0|105=>295|21=>21|5=>5|46=>211|119=>334|139=>337|138=>336|146=>312|51=>239|n=>n,λ|1=>3|3=>7|4=>8|n=>n⟩
theorem Tryz.lays146:Go.Proofs.Lays.n146 Tryz.prog Tryz.lays146_ren:={
 mixed:=by kernel_rfl
 f138:=Tryz.func229.trans (congrArg some (by kernel_rfl))
 f143:=Tryz.func230.trans (congrArg some (by kernel_rfl))
 f146:=Tryz.func139.trans (congrArg some (by kernel_rfl))
 f195:=Tryz.func257.trans (congrArg some (by kernel_rfl))
 f197:=Tryz.func258.trans (congrArg some (by kernel_rfl))
 f217:=Tryz.func260.trans (congrArg some (by kernel_rfl))
 f218:=Tryz.func259.trans (congrArg some (by kernel_rfl))
 f219:=Tryz.func231.trans (congrArg some (by kernel_rfl))
 f221:=Tryz.func185.trans (congrArg some (by kernel_rfl))
 f224:=Tryz.func262.trans (congrArg some (by kernel_rfl))
 f225:=Tryz.func261.trans (congrArg some (by kernel_rfl))
 f260:=Tryz.func284.trans (congrArg some (by kernel_rfl))
 f266:=Tryz.func285.trans (congrArg some (by kernel_rfl))
 f267:=Tryz.func263.trans (congrArg some (by kernel_rfl))
 f268:=Tryz.func228.trans (congrArg some (by kernel_rfl))
 f314:=Tryz.func286.trans (congrArg some (by kernel_rfl))
 t0:=Tryz.underlying0
 a0:=Tryz.isAgg0
 z0:=Tryz.sizeOf0
 v0:=Tryz.zeroValue0
 t3:=Tryz.underlying3
 a3:=Tryz.isAgg3
 z3:=Tryz.sizeOf3
 v3:=Tryz.zeroValue3
 t4:=Tryz.underlying4
 a4:=Tryz.isAgg4
 z4:=Tryz.sizeOf4
 v4:=Tryz.zeroValue4
 t5:=Tryz.underlying5
 a5:=Tryz.isAgg5
 z5:=Tryz.sizeOf5
 v5:=Tryz.zeroValue5
 t9:=Tryz.underlying9
 a9:=Tryz.isAgg9
 z9:=Tryz.sizeOf9
 v9:=Tryz.zeroValue9
 t21:=Tryz.underlying21
 a21:=Tryz.isAgg21
 z21:=Tryz.sizeOf21
 v21:=Tryz.zeroValue21
 t31:=Tryz.underlying92
 a31:=Tryz.isAgg92
 z31:=Tryz.sizeOf92
 v31:=Tryz.zeroValue92
 t46:=Tryz.underlying211
 a46:=Tryz.isAgg211
 z46:=Tryz.sizeOf211
 v46:=Tryz.zeroValue211
 t51:=Tryz.underlying239
 a51:=Tryz.isAgg239
 z51:=Tryz.sizeOf239
 v51:=Tryz.zeroValue239
 t105:=Tryz.underlying295
 a105:=Tryz.isAgg295
 z105:=Tryz.sizeOf295
 v105:=Tryz.zeroValue295
 t119:=Tryz.underlying334
 a119:=Tryz.isAgg334
 z119:=Tryz.sizeOf334
 t138:=Tryz.underlying336
 a138:=Tryz.isAgg336
 z138:=Tryz.sizeOf336
 v138:=Tryz.zeroValue336
 t139:=Tryz.underlying337
 a139:=Tryz.isAgg337
 z139:=Tryz.sizeOf337
 v139:=Tryz.zeroValue337
 t146:=Tryz.underlying312
 a146:=Tryz.isAgg312
 z146:=Tryz.sizeOf312
 v146:=Tryz.zeroValue312
 g1:=by kernel_rfl
 g3:=by kernel_rfl
 g4:=by kernel_rfl}
open Go.RowKit Go.Lib in
theorem Tryz.strings_Split (s a:ByteArray) (m:Int) (w:World) (b:s.size<4294967281) (c:w.cell? ⟨3,0,none⟩=some (.int .i64 m)) (d:1<=a.size):
 Calls Tryz.prog 139 #[.string s,.string a] w λe w'=>
  e=.returned (.slice (some ⟨w.heap.size,0,none⟩) (Lib.countB s a+1) (Lib.countB s a+1))/\w'=w.alloc (.cells ((Lib.splitB a 0 (Lib.countB s a) s).map Value.string).toArray 9):=Any.strings_Split Tryz.lays146 (by kernel_rfl) s a m w b c d
end Go.Proofs
namespace Go.Proofs.YtkgejlchafionaaGreatDoor
open Tryz
open Nice
theorem kT {α:Type} (a b:α):(bif true then a else b)=a:=Eq.trans (cond_true a b) rfl
theorem kF {α:Type} (a b:α):(bif false then a else b)=b:=Eq.trans (cond_false a b) rfl
theorem kG {α:Type} (r:Option α):gd [] r=r:=Eq.trans BM rfl
open Nice
theorem ng (s p:L8) (h:AY s=true):lg (s,p,())=some (GX s p,()):=by
 have h:s.length<=140737488355328:=of_decide_eq_true h;rw[im,il];unfold GX;by_cases a:p.length<=s.length
 ·have e:((s.length:Int)-(p.length:Int)).toNat=s.length-p.length:=by omega
  rw[Au (by omega),decide_eq_true a,Bool.true_and,e];cases s.drop (s.length-p.length)==p
  ·rw[kF];simp(disch:=omega) only[AP,kG,AH]
  ·rw[kT];simp(disch:=omega) only[AP,kG,AH]
 ·rw[Av (by omega),decide_eq_false a,Bool.false_and]
theorem nh (s p:L8) (h:AY s=true):lh (s,p,())=some ((D3 s p).1,(D3 s p).2,()):=by
 have b:s.length<=140737488355328:=of_decide_eq_true h;rw[iq,ABl];unfold D3;cases a:GX s p
 ·simp only[kF]
  try rw[Ag h,kG]
 ·have c:p.length<=s.length:=by
   unfold GX at a;rw[Bool.and_eq_true,decide_eq_true_eq] at a;exact a.1
  have e:((s.length:Int)-(p.length:Int)).toNat=s.length-p.length:=by omega
  simp only[kT,e];simp(disch:=first|omega|exact h) only[AP,Ag,kG,AH]
theorem b0 (x:L8) (t4:Int) (len:Nat):∀(a done:List (L8)) (n:Nat),len=done.length+a.length->len<=1000->a.length<n->
  MP n (done++a) x t4 (len:Int) (done.length:Int)=some (ag x a (done.length:Int),())
 |[],done,n,b,d,e=>by
  obtain⟨m,rfl⟩:∃m,n=m+1:=⟨n-1,by omega⟩
  simp only[List.length_nil] at b;rw[X2,Av (by omega)];rfl
 |c::a,done,n,b,d,e=>by
  obtain⟨m,rfl⟩:∃m,n=m+1:=⟨n-1,by omega⟩
  simp only[List.length_cons] at b e;have f:=b0 x t4 len a (done++[c]) m (by simp;omega) d (by omega);simp only[List.append_assoc,List.singleton_append,List.length_append,List.length_singleton,Int.natCast_add] at f;rw[X2,Au (by omega)];simp only[Int.toNat_natCast,Dg,List.length_append,List.length_cons,ag]
  cases x==c
  ·simp only[kF];simp(disch:=omega) only[AP,kG,AH];exact f
  ·simp only[kT];simp(disch:=omega) only[AP,kG]
theorem ni (l:List (L8)) (x:L8) (h:decide (l.length<=1000)=true):ll (l,x,())=some (kV l x,()):=by
 have h:=of_decide_eq_true h;rw[iu,ir];exact b0 x 0 l.length l [] AE (by simp) h (by unfold AE;omega)
theorem Xl (x:L8):∀(l:List (L8)) (k:Int),0<=k->decide (ag x l k>=0)=CV l x
 |[],k,h=>by rfl
 |c::r,k,h=>by
  have a:=Xl x r (k+1) (by omega);unfold ag CV;simp only[List.any_cons];cases x==c
  ·simp only[kF,Bool.false_or];exact a
  ·simp only[kT,Bool.true_or];exact decide_eq_true h
theorem nk (l:List (L8)) (x:L8) (h:decide (l.length<=1000)=true):ABs (l,x,())=some (CV l x,()):=by
 rw[iw,iv];have e:decide (kV l x>=0)=CV l x:=Xl x l 0 (Int.le_refl 0);rw[e];cases CV l x<;>simp only[kT,kF]<;>rw[Ag h,kG]
theorem b8 (m p q:L8) (a:Cg) (b:L8) (h:B0 a=true):X0 ((m,p,q,a,b,()),())=some ((Bf a).1,(Bf a).2.1,(Bf a).2.2,()):=by
 unfold B0 at h;rw[Bool.and_eq_true,Bool.and_eq_true] at h;obtain⟨⟨e,c⟩,d⟩:=h;rw[Zp,Zo];unfold Bf;cases(An a FT).2
 ·simp only[kF];rw[Ag e,kG];cases(An a FU).2
  ·simp only[kF];rw[Ag c,kG]
  ·simp only[kT];have f:AY (A8 (An a FU).1 [34]).1=true:=by
    have d:(An a FU).1.length<=140737488355328:=of_decide_eq_true d;unfold A8;cases Ax (An a FU).1 [34]
    ·exact decide_eq_true d
    ·exact decide_eq_true (by show((An a FU).1.drop _).length<=_;rw[List.length_drop];omega)
   rw[Ag f,Ag c,kG];unfold Ua;cases(DT (D3 (A8 (An a FU).1 [34]).1 [34]).1).2<;>cases(A8 (An a FU).1 [34]).2<;>cases(D3 (A8 (An a FU).1 [34]).1 [34]).2<;>simp only[kT,kF,Bool.and_true,Bool.and_false]
 ·simp only[kT];rw[Ag e,kG];cases(An a FU).2
  ·simp only[kF];rw[Ag c,kG];cases(An a FT).1==[42]<;>simp only[kT,kF]
  ·simp only[kT];rw[Ag c,kG]
theorem b9 (a:Ak) (m p q:L8) (d:Cg) (b:L8) (h:(B0 d&&(AY q&&AY a.2.1))=true):
  X1 (a,(m,p,q,d,b,()),())=some ((CK a m q d b).1,(CK a m q d b).2,()):=by
 rw[Bool.and_eq_true,Bool.and_eq_true] at h;obtain⟨l,o,g⟩:=h;obtain⟨a0,k,a2,a3,a4,a5,v,w,z,a9,⟨⟩⟩:=a;dsimp only at g;rw[Zr,Zq];have i:=Vc (p:=GY) o;unfold CK;dsimp only;rw[Ag g,Ag g,kG,kG];cases isKey k
 ·simp only[kF]
 ·simp only[kT];cases m==Bq
  ·simp only[kF];simp only[Ag i,kG];unfold Og;generalize r:AA5 (A8 q GY).fst ((A8 q GY).fst.length:Int) 1 1099511627776=n;have f:n.2=true->0<(A8 q GY).1.length:=λh=>bw (by rw[r];exact h)
   generalize s:A8 q GY=c at *;have j:∀{α:Type} (x y:α),(bif ((c.1.getD 0 0).toNat:Int) !=48 then x else y)=bif c.1.getD 0 0==48 then y else x:=by
    intro α x y;by_cases h:c.1.getD 0 0=48
    ·rw[h];rfl
    ·rw[bnT (by intro e;exact h (UInt8.toNat.inj (show _=(48:UInt8).toNat by have:(48:UInt8).toNat=48:=rfl;omega))),show(c.1.getD 0 0==48)=false from by simpa using h];rfl
   simp only[j];cases hd:(m==Bl)<;>cases t:(q==[])<;>simp only[kT,kF]<;>
   ·cases u:n.2<;>cases A:c.2<;>try simp only[kT,kF,Bool.true_and,Bool.false_and]
    all_goals first
     |rfl
     |(have:=f u
       cases B:(c.1.getD 0 0==48)<;>simp(disch:=omega) only[kT,kF,AP,kG,Bool.not_true,Bool.not_false]<;>rfl)
  ·simp only[kT];rw[Ag l,Ag l,kG,kG];cases(Bf d).2.2<;>cases q==[]<;>simp only[kT,kF,Bool.true_and,Bool.false_and]<;>rfl
end Go.Proofs.YtkgejlchafionaaGreatDoor
namespace Nice
def Vf (s:List (L8)):Nat:=(CV s GZ).toNat+((CV s Ga).toNat+((CV s HA).toNat+(CV s Gb).toNat))
theorem iR (s:List (L8)):Vf s<=4:=by
 unfold Vf;cases CV s GZ<;>cases CV s Ga<;>cases CV s HA<;>cases CV s Gb<;>decide
theorem S5 (s:List (L8)) (x y:L8):CV (s++[x]) y=(CV s y||y==x):=by
 unfold CV;simp
theorem cA {s:List (L8)} {x:L8} (a:x=GZ\/x=Ga\/x=HA\/x=Gb) (h:CV s x=false):Vf s+1<=Vf (s++[x]):=by
 have key:∀y,(CV s y).toNat<=(CV (s++[x]) y).toNat:=λy=>by
  rw[S5];cases CV s y<;>cases y==x<;>decide
 have b:(CV (s++[x]) x).toNat=1:=by
  rw[S5,beq_self_eq_true,Bool.or_true];rfl
 have c:(CV s x).toNat=0:=by rw[h];rfl
 have d:=key GZ;have e:=key Ga;have f:=key HA;have g:=key Gb;unfold Vf;rcases a with rfl|rfl|rfl|rfl<;>omega
theorem Pj (c:UInt8):∀(n:Nat) (s:L8),s.length<=n->(Lib.split s [c]).length<=s.length+1/\∀p,p∈Lib.split s [c]->p.length<=s.length
 |n,s,h=>by
  cases b:C0 c s
  ·rw[LB c s b];refine⟨by simp,λp a=> ?_⟩;rw[List.mem_singleton] at a;subst a;exact Nat.le_refl _
  ·have e:=Yo c s b;rw[Od c s b];cases n with
   |zero=>omega
   |succ n=>
    obtain⟨d,i2⟩:=Pj c n (s.drop ((EI c s).length+1)) (by rw[List.length_drop];omega);rw[List.length_drop] at d i2;refine⟨by simp only[List.length_cons];omega,λp a=> ?_⟩;rcases List.mem_cons.1 a with rfl|a
    ·omega
    ·have:=i2 p a;omega
theorem iS (c:UInt8) (s:L8):(Lib.cut s [c]).1.length<=s.length/\(Lib.cut s [c]).2.1.length<=s.length:=by
 have:=UZ c s;rw[v7];cases C0 c s
 ·exact⟨Nat.le_refl _,Nat.zero_le _⟩
 ·exact⟨this,by show(s.drop _).length<=_;rw[List.length_drop];omega⟩
end Nice
namespace Go.Proofs.YtkgejlchafionaaGreatDoor
open Tryz
open Nice
def L0 (n:Nat) (a z:Ak) (t5:Bool) (seen b:List (L8)) (len k:Int):Option (AA [Ah,.bool]):=
 Fe n a.1 a.2.1 a.2.2.1 a.2.2.2.1 a.2.2.2.2.1 a.2.2.2.2.2.1 a.2.2.2.2.2.2.1 a.2.2.2.2.2.2.2.1 a.2.2.2.2.2.2.2.2.1 a.2.2.2.2.2.2.2.2.2.1 z.1 z.2.1 z.2.2.1 z.2.2.2.1 z.2.2.2.2.1 z.2.2.2.2.2.1 z.2.2.2.2.2.2.1 z.2.2.2.2.2.2.2.1 z.2.2.2.2.2.2.2.2.1 z.2.2.2.2.2.2.2.2.2.1 t5 seen b len k
theorem cB (z:Ak) (t5:Bool) (b:List (L8)) (y:b.length<=4294967296) (t:∀p,p∈b->Cs p=true/\AY (Ex p).2.1=true) (d:List (L8)):
  ∀(done:List (L8)) (n:Nat) (a:Ak) (seen:List (L8)),b=done++d->seen.length<=Vf seen->d.length<n->
  L0 n a z t5 seen b (b.length:Int) (done.length:Int)=some ((BJ d seen a).1,(BJ d seen a).2,()):=by
 induction d with
 |nil=>
  intro done n a seen f D A;obtain⟨m,rfl⟩:∃m,n=m+1:=⟨n-1,by omega⟩
  have E:b.length=done.length:=by rw[f];simp
  unfold L0;rw[Py,Av (by omega)];rfl
 |cons p d u=>
  intro done n a seen f D A;obtain⟨m,rfl⟩:∃m,n=m+1:=⟨n-1,by omega⟩
  simp only[List.length_cons] at A;have E:b.length=done.length+(d.length+1):=by rw[f];simp
  have h:=λF G v=>u (done++[p]) m F G (by rw[f];simp) v (by omega)
  simp only[List.length_append,List.length_singleton,Int.natCast_add] at h;have H:b.getD done.length Ty.str.dflt=p:=by rw[f];exact Dg _ _ _ _
  obtain⟨I,w⟩:=t p (by rw[f];simp);have B:=iR seen;obtain⟨a0,k,a2,a3,a4,a5,l,o,q,a9,⟨⟩⟩:=a;unfold L0;rw[Py,Au (by omega)];have C:(Cs p&&[61]==[61])=true:=by rw[I];rfl
  simp only[Int.toNat_natCast,H];simp(disch:=omega) only[AP,kG];rw[Ag C,Ag C,kG,kG];unfold BJ;have i:decide (seen.length<=1000)=true:=by rw[decide_eq_true_iff];omega
  have j:decide ((2*(seen.length+[(Ex p).1].length)+400)*16<=281474976710656)=true:=by
   rw[decide_eq_true_iff];simp only[List.length_singleton];omega
  try simp only[Ag i,kG]
  try simp only[Ag j]
  try simp only[Ag i,kG]
  clear j;generalize Ex p=c at w⊢
  try simp only[Ag w,kG]
  have J:decide (Ad .i64 ((done.length:Int)+1))=true:=by
   rw[decide_eq_true_iff,AH];omega
  try simp only[Ag J,Ag w,kG]
  have r:∀{x:L8},c.1=x->(x=GZ\/x=Ga\/x=HA\/x=Gb)->CV seen c.1=false->(seen++[c.1]).length<=Vf (seen++[c.1]):=by
   intro x K L g;have:=cA (s:=seen) (x:=c.1) (by rw[K];exact L) g;simp only[List.length_append,List.length_singleton];omega
  cases c.2.2
  ·simp only[kF]
  ·simp only[kT];cases g:CV seen c.1
   ·simp only[kF];unfold HE JJ;cases M:c.1==GZ
    ·simp only[kF];cases N:c.1==Ga
     ·simp only[kF];cases O:c.1==HA
      ·simp only[kF];cases B:c.1==Gb
       ·cases c.2.1==[]<;>cases isKey c.2.1<;>simp only[kT,kF]
       ·have e:=r (beq_iff_eq.1 B) (.inr (.inr (.inr rfl))) g;cases P:c.2.1==[49]<;>cases c.2.1==[]<;>cases isKey c.2.1<;>simp only[kT,kF]
        all_goals first
         |rfl
         |exact h (Di (a0,k,a2,a3,a4,a5,l,o,q,a9,()) 5) _ e
      ·have e:=r (beq_iff_eq.1 O) (.inr (.inr (.inl rfl))) g;simp only[kT];cases P:(AA5 c.2.1 2 1 20).2<;>cases c.2.1==[]<;>cases isKey c.2.1<;>simp only[kT,kF]
       all_goals first
        |rfl
        |exact h (FS (a0,k,a2,a3,a4,a5,l,o,q,a9,()) (AA5 c.2.1 2 1 20).1) _ e
     ·have e:=r (beq_iff_eq.1 N) (.inr (.inl rfl)) g;simp only[kT];cases c.2.1==[]<;>cases isKey c.2.1<;>simp only[kT,kF,Bool.true_or,Bool.false_or]
      all_goals first
       |rfl
       |exact h (Of (a0,k,a2,a3,a4,a5,l,o,q,a9,()) c.2.1) _ e
    ·have e:=r (beq_iff_eq.1 M) (.inl rfl) g;simp only[kT];cases c.2.1==[]<;>cases isKey c.2.1<;>simp only[kT,kF,Bool.true_or,Bool.false_or]
     all_goals first
      |rfl
      |exact h (Oe (a0,k,a2,a3,a4,a5,l,o,q,a9,()) c.2.1) _ e
   ·simp only[kT]
theorem cC (a:Ak) (q:L8) (h:Cs q=true):X3 (a,q,())=some ((Bk a q).1,(Bk a q).2,()):=by
 have e:q.length<4294967281:=of_decide_eq_true h;rw[Zt,Zs];unfold Bk;cases q==[]
 ·simp only[kF];have b:(Cs q&&[38]==[38])=true:=by rw[h];rfl
  rw[Ag b,kG];obtain⟨f,c⟩:=Pj 38 q.length q (Nat.le_refl _);have:=cB Dp false (Cr q) (by show(Lib.split q [38]).length<=_;omega) (λp d=>by
   have:=c p d;have:=(iS 61 p).2;exact⟨decide_eq_true (by omega),decide_eq_true (by show(Lib.cut p [61]).2.1.length<=_;omega)⟩) (Cr q) [] AE (FS (Di a 4) 20) [] rfl (Nat.zero_le _) (by show(Lib.split q [38]).length<_;unfold AE;omega)
  exact this
 ·rfl
end Go.Proofs.YtkgejlchafionaaGreatDoor
namespace Nice
theorem m00:(CL==CL)=true:=by decide
theorem m01:(CL==Aq)=false:=by decide
theorem m02:(CL==Bq)=false:=by decide
theorem m03:(CL==Bl)=false:=by decide
theorem m10:(Aq==CL)=false:=by decide
theorem m11:(Aq==Aq)=true:=by decide
theorem m12:(Aq==Bq)=false:=by decide
theorem m13:(Aq==Bl)=false:=by decide
theorem m20:(Bq==CL)=false:=by decide
theorem m21:(Bq==Aq)=false:=by decide
theorem m22:(Bq==Bq)=true:=by decide
theorem m23:(Bq==Bl)=false:=by decide
theorem m30:(Bl==CL)=false:=by decide
theorem m31:(Bl==Aq)=false:=by decide
theorem m32:(Bl==Bq)=false:=by decide
theorem m33:(Bl==Bl)=true:=by decide
theorem Dr {p w:L8} (h:Ax p w=true):w.length<=p.length:=by
 unfold Ax at h;rw[Bool.and_eq_true,decide_eq_true_eq] at h;exact h.1
theorem MH {m p q:L8} {c:Cg} {b:L8} (h:LU (m,p,q,c,b,())=true):B0 c=true/\Cs q=true/\AY q=true/\AY (p.drop 3)=true/\p.length<=140737488355328:=by
 unfold LU at h;rw[Bool.and_eq_true,Bool.and_eq_true] at h;obtain⟨e,d,a⟩:=h;have a:p.length<=140737488355328:=of_decide_eq_true a;have f:q.length<4294967281:=of_decide_eq_true d;exact⟨e,d,decide_eq_true (by omega),decide_eq_true (by rw[List.length_drop];omega),a⟩
end Nice
namespace Go.Proofs.YtkgejlchafionaaGreatDoor
open Tryz
open Nice
theorem cD (p q:L8) (a:Cg) (b:L8) (h:LU (CL,p,q,a,b,())=true):Xx ((CL,p,q,a,b,()),())=some ((F5 (CL,p,q,a,b,())).1,(F5 (CL,p,q,a,b,())).2,()):=by
 obtain⟨e,d,c,f,l⟩:=MH h;have hall:(B0 a&&(AY q&&AY (p.drop 3)))=true:=by rw[e,c,f];rfl
 rw[Zj,Zi];unfold F5 GL GM;simp only[m00,m01,m02,m03,Bool.or_false,Bool.false_or,kT];have g:Lx false=((0:Int),[],(0:Int),[],(0:Int),[],[],[],(0:Int),false,()):=rfl;have i:Ff (p.drop 3) false=((0:Int),p.drop 3,(0:Int),[],(0:Int),[],[],[],(0:Int),false,()):=rfl
 have j:Dp=((0:Int),[],(0:Int),[],(0:Int),[],[],[],(0:Int),false,()):=rfl;simp only[g,i,j];cases p==oW
 ·cases p==Gc
  ·simp only[kF,Bool.or_false];cases k:Ax p Gc
   ·simp only[Bool.not_false,kT,kF]
   ·have m:3<=p.length:=Dr k;simp only[Bool.not_true,kT,kF];rw[AP (by omega),kG];cases(CK ((0:Int),p.drop 3,(0:Int),[],(0:Int),[],[],[],(0:Int),false,()) CL q a b).2<;>cases b==[]<;>simp only[kT,kF,Bool.not_true,Bool.not_false,Bool.and_true,Bool.and_false]<;>rw[Ag hall,kG]
  ·simp only[kT,kF,Bool.or_true];cases(Bk ((0:Int),[],(0:Int),[],(0:Int),[],[],[],(0:Int),false,()) q).2<;>cases b==[]<;>simp only[kT,kF,Bool.not_true,Bool.not_false,Bool.and_true,Bool.and_false]<;>rw[Ag d,kG]
 ·simp only[kT,Bool.true_or];cases(Bk ((0:Int),[],(0:Int),[],(0:Int),[],[],[],(0:Int),false,()) q).2<;>cases b==[]<;>simp only[kT,kF,Bool.not_true,Bool.not_false,Bool.and_true,Bool.and_false]<;>rw[Ag d,kG]
theorem ZD (p q:L8) (a:Cg) (b:L8) (h:LU (Aq,p,q,a,b,())=true):Tb ((Aq,p,q,a,b,()),())=some ((F5 (Aq,p,q,a,b,())).1,(F5 (Aq,p,q,a,b,())).2,()):=by
 obtain⟨e,d,c,f,l⟩:=MH h;have hall:(B0 a&&(AY q&&AY (p.drop 3)))=true:=by rw[e,c,f];rfl
 rw[V5,V4];unfold F5 GL GM;simp only[m10,m11,m12,m13,Bool.or_true,Bool.or_false,Bool.false_or,kT];have g:Lx true=((0:Int),[],(0:Int),[],(0:Int),[],[],[],(0:Int),true,()):=rfl;have i:Ff (p.drop 3) true=((0:Int),p.drop 3,(0:Int),[],(0:Int),[],[],[],(0:Int),true,()):=rfl
 have j:Dp=((0:Int),[],(0:Int),[],(0:Int),[],[],[],(0:Int),false,()):=rfl;simp only[g,i,j];cases p==oW
 ·cases p==Gc
  ·simp only[kF,Bool.or_false];cases k:Ax p Gc
   ·simp only[Bool.not_false,kT,kF]
   ·have m:3<=p.length:=Dr k;simp only[Bool.not_true,kT,kF];rw[AP (by omega),kG];cases(CK ((0:Int),p.drop 3,(0:Int),[],(0:Int),[],[],[],(0:Int),true,()) Aq q a b).2<;>cases b==[]<;>simp only[kT,kF,Bool.not_true,Bool.not_false,Bool.and_true,Bool.and_false]<;>rw[Ag hall,kG]
  ·simp only[kT,kF,Bool.or_true];cases(Bk ((0:Int),[],(0:Int),[],(0:Int),[],[],[],(0:Int),true,()) q).2<;>cases b==[]<;>simp only[kT,kF,Bool.not_true,Bool.not_false,Bool.and_true,Bool.and_false]<;>rw[Ag d,kG]
 ·simp only[kT,Bool.true_or];cases(Bk ((0:Int),[],(0:Int),[],(0:Int),[],[],[],(0:Int),true,()) q).2<;>cases b==[]<;>simp only[kT,kF,Bool.not_true,Bool.not_false,Bool.and_true,Bool.and_false]<;>rw[Ag d,kG]
theorem cE (p q:L8) (a:Cg) (b:L8) (h:LU (Bq,p,q,a,b,())=true):Xy ((Bq,p,q,a,b,()),())=some ((F5 (Bq,p,q,a,b,())).1,(F5 (Bq,p,q,a,b,())).2,()):=by
 obtain⟨d,k,c,e,l⟩:=MH h;have hall:(B0 a&&(AY q&&AY (p.drop 3)))=true:=by rw[d,c,e];rfl
 rw[Zl,Zk];unfold F5 GL GM;simp only[m20,m21,m22,m23,Bool.or_true,Bool.true_or,Bool.or_false,kT,kF];have f:Lx false=((0:Int),[],(0:Int),[],(0:Int),[],[],[],(0:Int),false,()):=rfl;have g:Ff (p.drop 3) false=((0:Int),p.drop 3,(0:Int),[],(0:Int),[],[],[],(0:Int),false,()):=rfl
 have i:Dp=((0:Int),[],(0:Int),[],(0:Int),[],[],[],(0:Int),false,()):=rfl;simp only[g,i];cases p==oW
 ·cases p==Gc
  ·simp only[kF,Bool.or_false];cases j:Ax p Gc
   ·simp only[Bool.not_false,kT,kF]
   ·have m:3<=p.length:=Dr j;simp only[Bool.not_true,kT,kF];rw[AP (by omega),kG];cases(CK ((0:Int),p.drop 3,(0:Int),[],(0:Int),[],[],[],(0:Int),false,()) Bq q a b).2<;>cases b==[]<;>simp only[kT,kF,Bool.not_true,Bool.not_false,Bool.and_true]<;>rw[Ag hall,kG]
  ·simp only[kT,kF,Bool.or_true]
   skip
 ·simp only[kT,Bool.true_or]
  skip
theorem cF (p q:L8) (a:Cg) (b:L8) (h:LU (Bl,p,q,a,b,())=true):Xz ((Bl,p,q,a,b,()),())=some ((F5 (Bl,p,q,a,b,())).1,(F5 (Bl,p,q,a,b,())).2,()):=by
 obtain⟨d,k,c,e,l⟩:=MH h;have hall:(B0 a&&(AY q&&AY (p.drop 3)))=true:=by rw[d,c,e];rfl
 rw[Zn,Zm];unfold F5 GL GM;simp only[m30,m31,m32,m33,Bool.or_true,Bool.or_false,Bool.false_or,kT,kF];have f:Lx false=((0:Int),[],(0:Int),[],(0:Int),[],[],[],(0:Int),false,()):=rfl;have g:Ff (p.drop 3) false=((0:Int),p.drop 3,(0:Int),[],(0:Int),[],[],[],(0:Int),false,()):=rfl
 have i:Dp=((0:Int),[],(0:Int),[],(0:Int),[],[],[],(0:Int),false,()):=rfl;simp only[g,i];cases p==oW
 ·cases p==Gc
  ·simp only[kF,Bool.or_false];cases j:Ax p Gc
   ·simp only[Bool.not_false,kT,kF]
   ·have m:3<=p.length:=Dr j;simp only[Bool.not_true,kT,kF];rw[AP (by omega),kG];cases(CK ((0:Int),p.drop 3,(0:Int),[],(0:Int),[],[],[],(0:Int),false,()) Bl q a b).2<;>cases b==[]<;>simp only[kT,kF,Bool.not_true,Bool.not_false,Bool.and_true,Bool.and_false]<;>rw[Ag hall,kG]
  ·simp only[kT,kF,Bool.or_true]
   skip
 ·simp only[kT,Bool.true_or]
  skip
theorem nm (m p q:L8) (a:Cg) (b:L8) (_:LU (m,p,q,a,b,())=true) (c:(m==CL)=false) (d:(m==Aq)=false) (e:(m==Bq)=false) (f:(m==Bl)=false):ld ((m,p,q,a,b,()),())=some ((F5 (m,p,q,a,b,())).1,(F5 (m,p,q,a,b,())).2,()):=by
 rw[ik,ij];unfold F5;simp only[c,d,e,f,Bool.or_false,kT,kF,Bool.not_false];cases p==oW<;>cases p==Gc<;>simp only[kT,kF,Bool.or_true,Bool.or_false];cases Ax p Gc<;>simp only[kT,kF,Bool.not_false,Bool.not_true]
end Go.Proofs.YtkgejlchafionaaGreatDoor
namespace Go.Proofs
open Go.Shelf
def Tryz.laysNm216_ren:Go.Shelf.Ren:=⟨λ|16=>203|n=>n,λ|24=>92|9=>9|4=>4|n=>n,λ|n=>n⟩
theorem Tryz.laysNm216:Go.Proofs.Lays2.n16 Tryz.prog Tryz.laysNm216_ren:={
 mixed:=by kernel_rfl
 f16:=Tryz.func203.trans (congrArg some (by kernel_rfl))
 t4:=Tryz.underlying4
 a4:=Tryz.isAgg4
 z4:=Tryz.sizeOf4
 v4:=Tryz.zeroValue4
 t9:=Tryz.underlying9
 a9:=Tryz.isAgg9
 z9:=Tryz.sizeOf9
 v9:=Tryz.zeroValue9
 t24:=Tryz.underlying92
 a24:=Tryz.isAgg92
 z24:=Tryz.sizeOf92
 v24:=Tryz.zeroValue92
 i9:=by kernel_rfl}
open Go.RowKit Go.Lib in
theorem Tryz.slices_Clone_string (b off n c:Nat) (a:List ByteArray) (w:World) (f:n<=a.length) (d:n*16<=140737488355328) (g:∀j,j<a.length->w.cell? ⟨b,off+j,none⟩=some (.string (a.getD j ByteArray.empty))):
 Calls Tryz.prog 203 #[.slice (some ⟨b,off,none⟩) n c] w λe w'=>∃v',e=.returned v'/\w'.ownsRow w.heap.size 9 1 v' n ((a.take n).map (Value.string))/\v'≠ .slice none 0 0/\Below w.heap.size w w':=Any.slices_Clone_string Tryz.laysNm216 b off n c a w f d g
open Go.RowKit Go.Lib in
theorem Tryz.slices_Clone_string_nil (n c:Nat) (w:World):
 Calls Tryz.prog 203 #[.slice none n c] w λe w'=>e=.returned (.slice none 0 0)/\w'=w:=Any.slices_Clone_string_nil Tryz.laysNm216 n c w
open Go.RowKit Go.Lib in
theorem Tryz.slices_Clone_string_zero (a:Addr) (c:Nat) (w:World):
 Calls Tryz.prog 203 #[.slice (some a) 0 c] w λe w'=>∃v',e=.returned v'/\w'.ownsRow w.heap.size 9 1 v' 0 []/\v'≠ .slice none 0 0/\Below w.heap.size w w':=Any.slices_Clone_string_zero Tryz.laysNm216 a c w
open Go.Shelf
def Tryz.lays156_ren:Go.Shelf.Ren:=⟨λ|156=>91|165=>135|166=>136|169=>137|240=>183|241=>184|276=>226|277=>227|n=>n,λ|31=>92|9=>9|3=>3|4=>4|0=>0|20=>20|72=>189|76=>193|70=>187|37=>156|75=>192|127=>242|164=>271|5=>5|80=>148|n=>n,λ|n=>n⟩
theorem Tryz.lays156:Go.Proofs.Lays.n156 Tryz.prog Tryz.lays156_ren:={
 mixed:=by kernel_rfl
 f156:=Tryz.func91.trans (congrArg some (by kernel_rfl))
 f165:=Tryz.func135.trans (congrArg some (by kernel_rfl))
 f166:=Tryz.func136.trans (congrArg some (by kernel_rfl))
 f169:=Tryz.func137.trans (congrArg some (by kernel_rfl))
 f240:=Tryz.func183.trans (congrArg some (by kernel_rfl))
 f241:=Tryz.func184.trans (congrArg some (by kernel_rfl))
 f276:=Tryz.func226.trans (congrArg some (by kernel_rfl))
 f277:=Tryz.func227.trans (congrArg some (by kernel_rfl))
 t0:=Tryz.underlying0
 a0:=Tryz.isAgg0
 z0:=Tryz.sizeOf0
 v0:=Tryz.zeroValue0
 t3:=Tryz.underlying3
 a3:=Tryz.isAgg3
 z3:=Tryz.sizeOf3
 v3:=Tryz.zeroValue3
 t4:=Tryz.underlying4
 a4:=Tryz.isAgg4
 z4:=Tryz.sizeOf4
 v4:=Tryz.zeroValue4
 t9:=Tryz.underlying9
 a9:=Tryz.isAgg9
 z9:=Tryz.sizeOf9
 v9:=Tryz.zeroValue9
 t20:=Tryz.underlying20
 a20:=Tryz.isAgg20
 z20:=Tryz.sizeOf20
 v20:=Tryz.zeroValue20
 t31:=Tryz.underlying92
 a31:=Tryz.isAgg92
 z31:=Tryz.sizeOf92
 v31:=Tryz.zeroValue92
 t37:=Tryz.underlying156
 a37:=Tryz.isAgg156
 z37:=Tryz.sizeOf156
 v37:=Tryz.zeroValue156
 t70:=Tryz.underlying187
 a70:=Tryz.isAgg187
 z70:=Tryz.sizeOf187
 v70:=Tryz.zeroValue187
 t72:=Tryz.underlying189
 a72:=Tryz.isAgg189
 z72:=Tryz.sizeOf189
 v72:=Tryz.zeroValue189
 t75:=Tryz.underlying192
 a75:=Tryz.isAgg192
 z75:=Tryz.sizeOf192
 v75:=Tryz.zeroValue192
 t76:=Tryz.underlying193
 a76:=Tryz.isAgg193
 z76:=Tryz.sizeOf193
 v76:=Tryz.zeroValue193
 t127:=Tryz.underlying242
 a127:=Tryz.isAgg242
 z127:=Tryz.sizeOf242
 v127:=Tryz.zeroValue242
 t164:=Tryz.underlying271
 a164:=Tryz.isAgg271
 z164:=Tryz.sizeOf271
 v164:=Tryz.zeroValue271}
theorem Tryz.Builder_Extra_156:Builder.Extra Tryz.prog Tryz.lays156_ren:={
 sizeBuilder:=by kernel_rfl
 liesBuilder:=by kernel_rfl
 t5:=Tryz.underlying5
 a5:=Tryz.isAgg5
 z5:=Tryz.sizeOf5
 v5:=Tryz.zeroValue5
 infoByte:=by kernel_rfl
 cellsByte:=by kernel_rfl
 sizeByte:=by kernel_rfl
 neB5:=by decide}
open Go.RowKit in
theorem Tryz.strings_Join_none (a:Option Addr) (c:Nat) (b:ByteArray) (w:World):
 Calls Tryz.prog 91 #[.slice a 0 c,.string b] w λe w'=>e=.returned (.string ⟨#[]⟩)/\w'=w:=Any.strings_Join_none Tryz.lays156 Tryz.Builder_Extra_156 a c b w
open Go.RowKit in
theorem Tryz.strings_Join (h o c:Nat) (d:List ByteArray) (a:ByteArray) (w:World) (b:∀(j:Nat) x,d[j]?=some x->w.cell? ⟨h,o+j,none⟩=some (.string x)) (i:h<w.heap.size) (hN:d.length<=140737488355328) (f:d.length<=c) (g:(Lib.join (d.map (·.data.toList)) a.data.toList).length<=140737488355328):
 Calls Tryz.prog 91 #[.slice (some ⟨h,o,none⟩) d.length c,.string a] w λe w'=>e=.returned (.string ⟨(Lib.join (d.map (·.data.toList)) a.data.toList).toArray⟩)/\Below w.heap.size w w':=Any.strings_Join Tryz.lays156 Tryz.Builder_Extra_156 h o c d a w b i hN f g
def Tryz.laysM171_ren:Go.Shelf.Ren:=⟨λ|171=>50|243=>92|246=>90|283=>131|284=>132|285=>133|286=>134|129=>179|317=>178|318=>180|319=>181|320=>182|337=>224|338=>225|n=>n,λ|3=>3|9=>9|2=>2|4=>4|171=>182|0=>0|53=>119|37=>156|5=>5|173=>185|212=>238|51=>239|20=>20|213=>240|46=>211|232=>292|233=>293|n=>n,λ|17=>0|18=>1|19=>2|n=>n⟩
theorem Tryz.laysM171:Go.Proofs.LaysM.n171 Tryz.prog Tryz.laysM171_ren:={
 mixed:=by kernel_rfl
 f129:=Tryz.func179.trans (congrArg some (by kernel_rfl))
 f171:=Tryz.func50.trans (congrArg some (by kernel_rfl))
 f243:=Tryz.func92.trans (congrArg some (by kernel_rfl))
 f246:=Tryz.func90.trans (congrArg some (by kernel_rfl))
 f283:=Tryz.func131.trans (congrArg some (by kernel_rfl))
 f284:=Tryz.func132.trans (congrArg some (by kernel_rfl))
 f285:=Tryz.func133.trans (congrArg some (by kernel_rfl))
 f286:=Tryz.func134.trans (congrArg some (by kernel_rfl))
 f317:=Tryz.func178.trans (congrArg some (by kernel_rfl))
 f318:=Tryz.func180.trans (congrArg some (by kernel_rfl))
 f319:=Tryz.func181.trans (congrArg some (by kernel_rfl))
 f320:=Tryz.func182.trans (congrArg some (by kernel_rfl))
 f337:=Tryz.func224.trans (congrArg some (by kernel_rfl))
 f338:=Tryz.func225.trans (congrArg some (by kernel_rfl))
 t0:=Tryz.underlying0
 a0:=Tryz.isAgg0
 z0:=Tryz.sizeOf0
 v0:=Tryz.zeroValue0
 t2:=Tryz.underlying2
 a2:=Tryz.isAgg2
 z2:=Tryz.sizeOf2
 v2:=Tryz.zeroValue2
 t3:=Tryz.underlying3
 a3:=Tryz.isAgg3
 z3:=Tryz.sizeOf3
 v3:=Tryz.zeroValue3
 t4:=Tryz.underlying4
 a4:=Tryz.isAgg4
 z4:=Tryz.sizeOf4
 v4:=Tryz.zeroValue4
 t5:=Tryz.underlying5
 a5:=Tryz.isAgg5
 z5:=Tryz.sizeOf5
 v5:=Tryz.zeroValue5
 t9:=Tryz.underlying9
 a9:=Tryz.isAgg9
 z9:=Tryz.sizeOf9
 v9:=Tryz.zeroValue9
 t20:=Tryz.underlying20
 a20:=Tryz.isAgg20
 z20:=Tryz.sizeOf20
 v20:=Tryz.zeroValue20
 t37:=Tryz.underlying156
 a37:=Tryz.isAgg156
 z37:=Tryz.sizeOf156
 v37:=Tryz.zeroValue156
 t46:=Tryz.underlying211
 a46:=Tryz.isAgg211
 z46:=Tryz.sizeOf211
 v46:=Tryz.zeroValue211
 t51:=Tryz.underlying239
 a51:=Tryz.isAgg239
 z51:=Tryz.sizeOf239
 v51:=Tryz.zeroValue239
 t53:=Tryz.underlying119
 a53:=Tryz.isAgg119
 z53:=Tryz.sizeOf119
 v53:=Tryz.zeroValue119
 t171:=Tryz.underlying182
 a171:=Tryz.isAgg182
 z171:=Tryz.sizeOf182
 v171:=Tryz.zeroValue182
 t173:=Tryz.underlying185
 a173:=Tryz.isAgg185
 z173:=Tryz.sizeOf185
 v173:=Tryz.zeroValue185
 t212:=Tryz.underlying238
 a212:=Tryz.isAgg238
 z212:=Tryz.sizeOf238
 v212:=Tryz.zeroValue238
 t213:=Tryz.underlying240
 a213:=Tryz.isAgg240
 z213:=Tryz.sizeOf240
 t232:=Tryz.underlying292
 a232:=Tryz.isAgg292
 z232:=Tryz.sizeOf292
 v232:=Tryz.zeroValue292
 t233:=Tryz.underlying293
 a233:=Tryz.isAgg293
 z233:=Tryz.sizeOf293
 v233:=Tryz.zeroValue293
 g17:=by kernel_rfl
 g18:=by kernel_rfl
 g19:=by kernel_rfl
 i0:=by kernel_rfl
 i2:=by kernel_rfl
 i3:=by kernel_rfl
 i4:=by kernel_rfl
 i5:=by kernel_rfl
 i9:=by kernel_rfl
 i20:=by kernel_rfl
 i37:=by kernel_rfl
 i46:=by kernel_rfl
 i51:=by kernel_rfl
 i53:=by kernel_rfl
 i171:=by kernel_rfl
 i173:=by kernel_rfl
 i212:=by kernel_rfl
 i232:=by kernel_rfl
 i233:=by kernel_rfl
 m17:=by kernel_rfl
 m18:=by kernel_rfl
 m19:=by kernel_rfl}
open Go.RowKit Go.Sort Go.Lib in
theorem Tryz.strconv_Itoa (n:Int) (b: -9223372036854775808<=n) (c:n<=9223372036854775807) (w:World) (a:Lib.TabIs Tryz.prog w "internal/strconv.uint64pow10" .u64 Lib.pow10Tab):
 Calls Tryz.prog 50 #[.int .i64 n] w λe w'=>e=.returned (.string ⟨(Lib.itoa n).toArray⟩)/\∃k os,w'=grow (w.drewN k) os:=Any.strconv_Itoa Tryz.laysM171 n b c w a
def Tryz.laysM173_ren:Go.Shelf.Ren:=⟨λ|173=>48|246=>90|283=>131|284=>132|285=>133|286=>134|129=>179|317=>178|318=>180|319=>181|320=>182|337=>224|338=>225|n=>n,λ|2=>2|3=>3|9=>9|4=>4|171=>182|0=>0|53=>119|37=>156|5=>5|173=>185|212=>238|51=>239|20=>20|213=>240|46=>211|232=>292|233=>293|n=>n,λ|17=>0|18=>1|19=>2|n=>n⟩
theorem Tryz.laysM173:Go.Proofs.LaysM.n173 Tryz.prog Tryz.laysM173_ren:={
 mixed:=by kernel_rfl
 f129:=Tryz.func179.trans (congrArg some (by kernel_rfl))
 f173:=Tryz.func48.trans (congrArg some (by kernel_rfl))
 f246:=Tryz.func90.trans (congrArg some (by kernel_rfl))
 f283:=Tryz.func131.trans (congrArg some (by kernel_rfl))
 f284:=Tryz.func132.trans (congrArg some (by kernel_rfl))
 f285:=Tryz.func133.trans (congrArg some (by kernel_rfl))
 f286:=Tryz.func134.trans (congrArg some (by kernel_rfl))
 f317:=Tryz.func178.trans (congrArg some (by kernel_rfl))
 f318:=Tryz.func180.trans (congrArg some (by kernel_rfl))
 f319:=Tryz.func181.trans (congrArg some (by kernel_rfl))
 f320:=Tryz.func182.trans (congrArg some (by kernel_rfl))
 f337:=Tryz.func224.trans (congrArg some (by kernel_rfl))
 f338:=Tryz.func225.trans (congrArg some (by kernel_rfl))
 t0:=Tryz.underlying0
 a0:=Tryz.isAgg0
 z0:=Tryz.sizeOf0
 v0:=Tryz.zeroValue0
 t2:=Tryz.underlying2
 a2:=Tryz.isAgg2
 z2:=Tryz.sizeOf2
 v2:=Tryz.zeroValue2
 t3:=Tryz.underlying3
 a3:=Tryz.isAgg3
 z3:=Tryz.sizeOf3
 v3:=Tryz.zeroValue3
 t4:=Tryz.underlying4
 a4:=Tryz.isAgg4
 z4:=Tryz.sizeOf4
 v4:=Tryz.zeroValue4
 t5:=Tryz.underlying5
 a5:=Tryz.isAgg5
 z5:=Tryz.sizeOf5
 v5:=Tryz.zeroValue5
 t9:=Tryz.underlying9
 a9:=Tryz.isAgg9
 z9:=Tryz.sizeOf9
 v9:=Tryz.zeroValue9
 t20:=Tryz.underlying20
 a20:=Tryz.isAgg20
 z20:=Tryz.sizeOf20
 v20:=Tryz.zeroValue20
 t37:=Tryz.underlying156
 a37:=Tryz.isAgg156
 z37:=Tryz.sizeOf156
 v37:=Tryz.zeroValue156
 t46:=Tryz.underlying211
 a46:=Tryz.isAgg211
 z46:=Tryz.sizeOf211
 v46:=Tryz.zeroValue211
 t51:=Tryz.underlying239
 a51:=Tryz.isAgg239
 z51:=Tryz.sizeOf239
 v51:=Tryz.zeroValue239
 t53:=Tryz.underlying119
 a53:=Tryz.isAgg119
 z53:=Tryz.sizeOf119
 v53:=Tryz.zeroValue119
 t171:=Tryz.underlying182
 a171:=Tryz.isAgg182
 z171:=Tryz.sizeOf182
 v171:=Tryz.zeroValue182
 t173:=Tryz.underlying185
 a173:=Tryz.isAgg185
 z173:=Tryz.sizeOf185
 v173:=Tryz.zeroValue185
 t212:=Tryz.underlying238
 a212:=Tryz.isAgg238
 z212:=Tryz.sizeOf238
 v212:=Tryz.zeroValue238
 t213:=Tryz.underlying240
 a213:=Tryz.isAgg240
 z213:=Tryz.sizeOf240
 t232:=Tryz.underlying292
 a232:=Tryz.isAgg292
 z232:=Tryz.sizeOf292
 v232:=Tryz.zeroValue292
 t233:=Tryz.underlying293
 a233:=Tryz.isAgg293
 z233:=Tryz.sizeOf293
 v233:=Tryz.zeroValue293
 g17:=by kernel_rfl
 g18:=by kernel_rfl
 g19:=by kernel_rfl
 i0:=by kernel_rfl
 i2:=by kernel_rfl
 i3:=by kernel_rfl
 i4:=by kernel_rfl
 i5:=by kernel_rfl
 i9:=by kernel_rfl
 i20:=by kernel_rfl
 i37:=by kernel_rfl
 i46:=by kernel_rfl
 i51:=by kernel_rfl
 i53:=by kernel_rfl
 i171:=by kernel_rfl
 i173:=by kernel_rfl
 i212:=by kernel_rfl
 i232:=by kernel_rfl
 i233:=by kernel_rfl
 m17:=by kernel_rfl
 m18:=by kernel_rfl
 m19:=by kernel_rfl}
open Go.RowKit Go.Sort Go.Lib in
theorem Tryz.strconv_FormatInt_10 (n:Int) (b: -9223372036854775808<=n) (c:n<=9223372036854775807) (w:World) (a:Lib.TabIs Tryz.prog w "internal/strconv.uint64pow10" .u64 Lib.pow10Tab):
 Calls Tryz.prog 48 #[.int .i64 n,.int .i64 10] w λe w'=>e=.returned (.string ⟨(Lib.itoa n).toArray⟩)/\∃k os,w'=grow (w.drewN k) os:=Any.strconv_FormatInt_10 Tryz.laysM173 n b c w a
