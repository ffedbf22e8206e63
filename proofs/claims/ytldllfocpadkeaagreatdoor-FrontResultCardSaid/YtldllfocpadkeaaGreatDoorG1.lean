/-
  Part of the proof: Nice NiceK QV LScan PAsk PSplit NiceW WordsC PScan NiceS PHeads NiceM LM1 LM2. No condition.
-/
import Derived.Test.YtldllfocpadkeaaGreatDoorEng11
import Derived.Shelf.Strconv.AtoiAll
import Derived.Shelf.GgClosure.StringsIndexFuncTop
import Derived.Shelf.Strconv.ParseIntPublic10
import Derived.Test.YtldllfocpadkeaaGreatDoorSym
import Derived.Lib.ParseIntBCases
import Derived.Lib.SplitLaws
import Derived.Lib.TrimByte
import Derived.Lib.Case
import Derived.Lib.AtoiAllCases
namespace Nice
open Go Go.Eng
def lo (c:UInt8):UInt8:=if 65≤c∧c≤90 then c+32 else c
def lower (s:List UInt8):List UInt8:=s.map lo
def lowerP (s:List UInt8):Bool:=decide (s.length≤140737488355328)
def isCap (c:UInt8):Bool:=decide (65≤c∧c≤90)
def isDig (c:UInt8):Bool:=decide (48≤c∧c≤57)
def valueN:List (List UInt8×List UInt8×Unit)→List UInt8→List UInt8×Bool
 |[],_=>([],false)
 |h::r,n=>bif lower h.1==lower n then(h.2.1,true) else valueN r n
def valueP (l:List (List UInt8×List UInt8×Unit)) (n:List UInt8):Bool:=decide (l.length≤140737488355328)&&(lowerP n&&l.all fun h=>lowerP h.1)
def atoiN (s:List UInt8):Int×Bool:=match Lib.atoiAll s with
 | .ok v=>(v,true)
 |Lib.NumEnd.syntax=>(0,false)
 | .range=>(Lib.atoiSat s,false)
def allDig (s:List UInt8):Bool:=s.all isDig
def numV (s:List UInt8):Nat:=s.foldl (fun n c=>n*10+(c.toNat-48)) 0
def scanNum (s:List UInt8):Int×Bool:=bif allDig s then((atoiN s).1,(atoiN s).2&&decide (s.length≤6)) else(0,false)
def clen:List UInt8:=[99,111,110,116,101,110,116,45,108,101,110,103,116,104]
def tenc:List UInt8:=[116,114,97,110,115,102,101,114,45,101,110,99,111,100,105,110,103]
def scanLen (l:List (List UInt8×List UInt8×Unit)):Int:=bif (scanNum (valueN l clen).1).2 then(scanNum (valueN l clen).1).1 else 0
def cut (s:List UInt8) (n:Int):List UInt8:=s.take n.toNat
theorem cdT {α:Type} {p:Prop} [Decidable p] {a b:α} (h:p):(bif decide p then a else b)=a:=by simp[h]
theorem cdF {α:Type} {p:Prop} [Decidable p] {a b:α} (h:¬p):(bif decide p then a else b)=b:=by simp[h]
theorem gd_nil {α:Type} {r:Option α}:gd [] r=r:=rfl
theorem gdT {α:Type} {p:Prop} [Decidable p] {l:List Bool} {r:Option α} (h:p):gd (decide p::l) r=gd l r:=by simp[gd,h]
theorem gdB {α:Type} {b:Bool} {l:List Bool} {r:Option α} (h:b=true):gd (b::l) r=gd l r:=by simp[gd,h]
theorem inK_i64 {n:Int}:inK .i64 n↔ -9223372036854775808≤n∧n≤9223372036854775807:=Iff.rfl
theorem inK_u8 {n:Int}:inK .u8 n↔0≤n∧n≤255:=Iff.rfl
theorem wrap_u8 {n:Int}:IntKind.u8.wrap n=n%256:=rfl
theorem getD_mid {α:Type} (a b:List α) (x d:α):(a++x::b).getD a.length d=x:=by simp
theorem set_mid {α:Type} (a b:List α) (x y:α):(a++x::b).set a.length y=a++y::b:=by simp
theorem le8 {a c:UInt8}:a≤c↔a.toNat≤c.toNat:=UInt8.le_iff_toNat_le
theorem isCap_iff {c:UInt8}:isCap c=true↔65≤c.toNat∧c.toNat≤90:=by
 unfold isCap;rw[decide_eq_true_iff,le8,le8];rfl
theorem isDig_iff {c:UInt8}:isDig c=true↔48≤c.toNat∧c.toNat≤57:=by
 unfold isDig;rw[decide_eq_true_iff,le8,le8];rfl
theorem lo_up {c:UInt8} (h1:65≤c.toNat) (h2:c.toNat≤90):lo c=UInt8.ofNat (c.toNat+32):=by
 unfold lo;rw[if_pos ⟨le8.2 h1,le8.2 h2⟩];apply UInt8.toNat.inj;simp
theorem lo_not {c:UInt8} (h:¬(65≤c.toNat∧c.toNat≤90)):lo c=c:=by
 unfold lo;rw[if_neg];rintro⟨h1,h2⟩;exact h ⟨le8.1 h1,le8.1 h2⟩
abbrev HeadT:Ty:=.pair .str (.pair .str .unit)
abbrev ReqT:Ty:=.pair .str (.pair .str (.pair .str (.pair (.slice HeadT) (.pair .str .unit))))
noncomputable def trueS:PSpec:=⟨[],[.bool],fun _=>true,fun _=>(true,())⟩
noncomputable def lowerS:PSpec:=⟨[.str],[.str],fun x=>lowerP x.1,fun x=>(lower x.1,())⟩
noncomputable def capS:PSpec:=⟨[.byte],[.bool],fun _=>true,fun x=>(isCap x.1,())⟩
noncomputable def valueS:PSpec:=⟨[ReqT,.str],[.str,.bool],fun x=>valueP x.1.2.2.2.1 x.2.1,fun x=>((valueN x.1.2.2.2.1 x.2.1).1,(valueN x.1.2.2.2.1 x.2.1).2,())⟩
noncomputable def cutS:PSpec:=⟨[.str,.int .i64],[.str],fun x=>decide (0≤x.2.1),fun x=>(cut x.1 x.2.1,())⟩
end Nice
namespace Nice
open Go Go.Eng
def keyCh (c:UInt8):Bool:=decide (97≤c.toNat∧c.toNat≤122∨48≤c.toNat∧c.toNat≤57∨c.toNat=46∨c.toNat=45∨c.toNat=95∨c.toNat=47)
def isKey (s:List UInt8):Bool:=s.all keyCh&&(decide (1≤s.length)&&decide (s.length≤40))
def bndS (s:List UInt8):Bool:=decide (s.length≤140737488355328)
def notDig (r:Nat):Bool:=decide (r<48)||decide (57<r)
def idxF (s:List UInt8):Int:=Lib.idxFunc notDig true (bs s)
def intN (s:List UInt8):Int×Bool:=match Lib.parseIntB 64 s with
 | .ok v=>(v,true)
 |Lib.NumEnd.syntax=>(0,false)
 | .range=>(Lib.intSat 64 s,false)
def numN (s:List UInt8) (most lo hi:Int):Int×Bool:=((intN s).1,allDig s&&((intN s).2&&(decide ((s.length:Int)≤most)&&(decide ((intN s).1≥lo)&&decide ((intN s).1≤hi)))))
def hasPre (s p:List UInt8):Bool:=decide (p.length≤s.length)&&s.take p.length==p
def hasSuf (s p:List UInt8):Bool:=decide (p.length≤s.length)&&s.drop (s.length-p.length)==p
def cutPre (s p:List UInt8):List UInt8×Bool:=bif hasPre s p then(s.drop p.length,true) else(s,false)
def cutSuf (s p:List UInt8):List UInt8×Bool:=bif hasSuf s p then(s.take (s.length-p.length),true) else(s,false)
def digsF:Nat→Nat→List UInt8→List UInt8
 |0,_,acc=>acc
 |f+1,n,acc=>if n/10=0 then UInt8.ofNat (48+n%10)::acc else digsF f (n/10) (UInt8.ofNat (48+n%10)::acc)
def digs (u:Int):List UInt8:=digsF 20 u.toNat []
def digits (n:Int):List UInt8:=if n<0 then 45::digs (-n) else digs n
def vPre:List UInt8:=[118,101,114,115,105,111,110,61]
def zAsk:Int×List UInt8×Int×List UInt8×Int×List UInt8×List UInt8×List UInt8×Int×Bool×Unit:=(0,[],0,[],0,[],[],[],0,false,())
theorem decode_ascii {s:ByteArray} {i:Nat} (h:(s.get! i).toNat<128):Utf8.decode s i=((s.get! i).toNat,1):=by
 unfold Utf8.decode;simp only[Nat.add_zero];rw[if_pos (show(s.get! i).toNat<0x80 from h)]
theorem decode_high {s:ByteArray} {i:Nat} (h:128≤(s.get! i).toNat):57<(Utf8.decode s i).1:=by
 unfold Utf8.decode;simp only[Nat.add_zero];rw[if_neg (show ¬(s.get! i).toNat<0x80 by omega)];have hr:57<Utf8.runeError:=by decide
 have hge:∀(c:Nat) (b:Bool) (k:Nat),c≥k→57<k→57<c:=fun c b k h1 h2=>by omega
 repeat' split
 all_goals first
  |exact hr
  |(rename_i h1;simp only[Bool.and_eq_true,decide_eq_true_eq] at h1;omega)
  |(rename_i h1;have h1:=of_decide_eq_true h1;omega)
  |(rename_i h1;omega)
theorem idx_l (s:ByteArray):∀(f pos:Nat),s.size-pos≤f→decide (Lib.idxFuncFrom notDig true s f pos≥0)= !((s.data.toList.drop pos).all isDig)
 |0,pos,h=>by
  have:s.data.toList.drop pos=[]:=List.drop_eq_nil_of_le (by show s.data.toList.length≤pos;have:s.data.toList.length=s.size:=rfl;omega);rw[this];simp[Lib.idxFuncFrom]
 |f+1,pos,h=>by
  unfold Lib.idxFuncFrom;by_cases hp:pos<s.size
  ·rw[if_pos hp];have hp':pos<s.data.toList.length:=hp;have hd:s.data.toList.drop pos=s.get! pos::s.data.toList.drop (pos+1):=by
    rw[List.drop_eq_getElem_cons hp'];congr 1;show _=s.data[pos]!;rw[getElem!_pos s.data pos hp];rfl
   rw[hd];simp only[List.all_cons];by_cases ha:(s.get! pos).toNat<128
   ·rw[decode_ascii ha];by_cases hdg:48≤(s.get! pos).toNat∧(s.get! pos).toNat≤57
    ·rw[if_neg (by simp only[notDig,Bool.or_eq_true,decide_eq_true_eq];omega),isDig_iff.2 hdg,Bool.true_and];exact idx_l s f (pos+1) (by omega)
    ·have:isDig (s.get! pos)=false:=by cases hb:isDig (s.get! pos);rfl;exact absurd (isDig_iff.1 hb) hdg
     rw[if_pos (by simp only[notDig,Bool.or_eq_true,decide_eq_true_eq];omega),this];simp
   ·have:=decode_high (s:=s) (i:=pos) (by omega);have hd:isDig (s.get! pos)=false:=by cases hb:isDig (s.get! pos);rfl;have:=isDig_iff.1 hb;omega
    rw[if_pos (by simp only[notDig,Bool.or_eq_true,decide_eq_true_eq];omega),hd];simp
  ·rw[if_neg hp];have:s.data.toList.drop pos=[]:=List.drop_eq_nil_of_le (by have:s.data.toList.length=s.size:=rfl;omega);rw[this];rfl
theorem idxF_ge (s:List UInt8):decide (idxF s≥0)= !allDig s:=by
 have:=idx_l (bs s) (bs s).size 0 (by omega);simpa[idxF,Lib.idxFunc,allDig,bs] using this
abbrev AskT:Ty:=.pair (.int .i64) (.pair .str (.pair (.int .i64) (.pair .str (.pair (.int .i64) (.pair .str (.pair .str (.pair .str (.pair (.int .i64) (.pair .bool .unit)))))))))
noncomputable def noS (ts rs:List Ty):PSpec:=⟨ts,rs,fun _=>false,fun _=>dfltL rs⟩
noncomputable def keyChS:PSpec:=⟨[.byte],[.bool],fun _=>true,fun x=>(keyCh x.1,())⟩
noncomputable def isKeyS:PSpec:=⟨[.str],[.bool],fun x=>bndS x.1,fun x=>(isKey x.1,())⟩
noncomputable def idxFS (f:Nat):PSpec:=⟨[.str,.fn f],[.int .i64],fun _=>true,fun x=>(idxF x.1,())⟩
noncomputable def parseS:PSpec:=⟨[.str,.int .i64,.int .i64],[.int .i64,.err],fun x=>bndS x.1&&(decide (x.2.1=10)&&decide (x.2.2.1=64)),fun x=>((intN x.1).1,(intN x.1).2,())⟩
noncomputable def numS:PSpec:=⟨[.str,.int .i64,.int .i64,.int .i64],[.int .i64,.bool],fun x=>bndS x.1,fun x=>((numN x.1 x.2.1 x.2.2.1 x.2.2.2.1).1,(numN x.1 x.2.1 x.2.2.1 x.2.2.2.1).2,())⟩
noncomputable def hasPreS:PSpec:=⟨[.str,.str],[.bool],fun _=>true,fun x=>(hasPre x.1 x.2.1,())⟩
noncomputable def cutPreS:PSpec:=⟨[.str,.str],[.str,.bool],fun _=>true,fun x=>((cutPre x.1 x.2.1).1,(cutPre x.1 x.2.1).2,())⟩
noncomputable def digsS:PSpec:=⟨[.int .u64],[.str],fun x=>decide (0≤x.1)&&decide (x.1<18446744073709551616),fun x=>(digs x.1,())⟩
noncomputable def digitsS:PSpec:=⟨[.int .i64],[.str],fun x=>decide (-9223372036854775808≤x.1)&&decide (x.1≤9223372036854775807),fun x=>(digits x.1,())⟩
end Nice
namespace Go.Proofs.YtldllfocpadkeaaGreatDoor
open Go Go.Eng Nice
set_option maxRecDepth 1000000
abbrev shcap:List (Nat×List (Nat×Sh)):=[]
noncomputable def ocap (x:DenL [.byte]):Option (DenL [.bool]):=fO Tryz.prog (envS []) (shOf shcap) Tryz.f163 [.byte] [.bool] x
theorem ecap_g (N:Nat) (x0:UInt8):fON Tryz.prog (envS []) (shOf shcap) Tryz.f163 [.byte] [.bool] N (x0,())=
  (bif decide ((↑x0.toNat:Int)≥(65:Int)) then
 (bif decide ((↑x0.toNat:Int)≤(90:Int)) then
 (some (true,()))
 else
 (some (false,())))
  else
 (some (false,()))):=by kernel_rfl
theorem ocap_g (x:DenL [.byte]):ocap x=fON Tryz.prog (envS []) (shOf shcap) Tryz.f163 [.byte] [.bool] heads0 x:=rfl
abbrev shslower:List (Nat×List (Nat×Sh)):=[(3,[(2,(.one .sym)),(3,(.one (.vec .byte 5))),(8,(.one (.same 0))),(9,(.one .sym)),(10,(.one .sym))])]
noncomputable def hslower_0 (n:Nat) (t2:List UInt8) (t3:List (Ty.Den .byte)) (t9:Int) (t10:Int):Option (DenL [.str]):=rH Tryz.prog (envS [(163,capS)]) (shOf shslower) Tryz.f128 [.str] n 0 [(2,sy (.string (bs t2))),(3,dt 10),(8,dt 10),(9,sy (.int .i64 t9)),(10,sy (.int .i64 t10))] [.vec .byte t3 5]
noncomputable def oslower (x:DenL [.str]):Option (DenL [.str]):=fO Tryz.prog (envS [(163,capS)]) (shOf shslower) Tryz.f128 [.str] [.str] x
theorem eslower_g (N:Nat) (x0:List UInt8):fON Tryz.prog (envS [(163,capS)]) (shOf shslower) Tryz.f128 [.str] [.str] N (x0,())=
 (hslower_0 N ([]) (x0) ((↑x0.length:Int)) ((0:Int))):=by kernel_rfl
theorem oslower_g (x:DenL [.str]):oslower x=fON Tryz.prog (envS [(163,capS)]) (shOf shslower) Tryz.f128 [.str] [.str] heads0 x:=rfl
theorem eslower_0 (n:Nat) (t2:List UInt8) (t3:List (Ty.Den .byte)) (t9:Int) (t10:Int):hslower_0 (n+1) t2 t3 t9 t10=
  (bif decide (t10<t9) then
 (gd [decide (t10.toNat<t3.length),decide ((0:Int)≤t10),decide (t10<(↑t3.length:Int))] (bif isCap (UInt8.ofNat (↑(UInt8.toNat (t3.getD t10.toNat Ty.byte.dflt)):Int).toNat) then
 (gd [decide (inK .i64 (t10+(1:Int))),decide (t10.toNat<t3.length),decide (inK .u8 (IntKind.u8.wrap (IntKind.u8.wrap ((↑(UInt8.toNat (t3.getD t10.toNat Ty.byte.dflt)):Int)+(97:Int))-(65:Int)))),decide ((0:Int)≤t10),decide (t10<(↑t3.length:Int)),decide (inK .u8 (↑(UInt8.toNat (t3.getD t10.toNat Ty.byte.dflt)):Int))] (hslower_0 n (t2) (t3.set t10.toNat (UInt8.ofNat (IntKind.u8.wrap (IntKind.u8.wrap ((↑(UInt8.toNat (t3.getD t10.toNat Ty.byte.dflt)):Int)+(97:Int))-(65:Int))).toNat)) (t9) (t10+(1:Int))))
 else
 (gd [decide (inK .i64 (t10+(1:Int))),decide (inK .u8 (↑(UInt8.toNat (t3.getD t10.toNat Ty.byte.dflt)):Int))] (hslower_0 n (t2) (t3) (t9) (t10+(1:Int))))))
  else
 (some (t3,()))):=by kernel_rfl
abbrev shsval:List (Nat×List (Nat×Sh)):=[(2,[(1,(.one .sym)),(4,(.one .sym)),(5,(.one .sym)),(9,(.one (.dat (.pair .str (.pair .str .unit))))),(10,(.one .sym)),(11,(.one .sym))])]
noncomputable def hsval_0 (n:Nat) (t1:List UInt8) (t4:List UInt8) (t5:Bool) (t9:List (Ty.Den (.pair .str (.pair .str .unit)))) (t10:Int) (t11:Int):Option (DenL [.str,.bool]):=rH Tryz.prog (envS [(128,lowerS)]) (shOf shsval) Tryz.f84 [.str,.bool] n 0 [(1,sy (.string (bs t1))),(4,sy (.string (bs t4))),(5,.bool t5),(9,dt 10),(10,sy (.int .i64 t10)),(11,sy (.int .i64 t11))] [.dat (.pair .str (.pair .str .unit)) t9]
noncomputable def osval (x:DenL [ReqT,.str]):Option (DenL [.str,.bool]):=fO Tryz.prog (envS [(128,lowerS)]) (shOf shsval) Tryz.f84 [ReqT,.str] [.str,.bool] x
theorem esval_g (N:Nat) (x0:Ty.Den ReqT) (x1:List UInt8):fON Tryz.prog (envS [(128,lowerS)]) (shOf shsval) Tryz.f84 [ReqT,.str] [.str,.bool] N (x0,x1,())=
 (hsval_0 N (x1) ([]) (false) (x0.snd.snd.snd.fst) ((↑(List.length x0.snd.snd.snd.fst):Int)) ((0:Int))):=by kernel_rfl
theorem osval_g (x:DenL [ReqT,.str]):osval x=fON Tryz.prog (envS [(128,lowerS)]) (shOf shsval) Tryz.f84 [ReqT,.str] [.str,.bool] heads0 x:=rfl
theorem esval_0 (n:Nat) (t1:List UInt8) (t4:List UInt8) (t5:Bool) (t9:List (Ty.Den (.pair .str (.pair .str .unit)))) (t10:Int) (t11:Int):hsval_0 (n+1) t1 t4 t5 t9 t10 t11=
  (bif decide (t11<t10) then
 (gd [decide (t11.toNat<t9.length),decide ((0:Int)≤t11),decide (t11<(↑t9.length:Int))] (bif lower (t9.getD t11.toNat (HeadT).dflt).fst==lower t1 then
 (gd [lowerP t1,lowerP (t9.getD t11.toNat (HeadT).dflt).fst] (some ((t9.getD t11.toNat (HeadT).dflt).snd.fst,true,())))
 else
 (gd [decide (inK .i64 (t11+(1:Int))),lowerP t1,lowerP (t9.getD t11.toNat (HeadT).dflt).fst] (hsval_0 n (t1) (t4) (t5) (t9) (t10) (t11+(1:Int))))))
  else
 (some ([],false,()))):=by kernel_rfl
abbrev shcut:List (Nat×List (Nat×Sh)):=[]
noncomputable def ocut (x:DenL [.str,.int .i64]):Option (DenL [.str]):=fO Tryz.prog (envS []) (shOf shcut) Tryz.f28 [.str,.int .i64] [.str] x
theorem ecut_g (N:Nat) (x0:List UInt8) (x1:Int):fON Tryz.prog (envS []) (shOf shcut) Tryz.f28 [.str,.int .i64] [.str] N (x0,x1,())=
 (gd [decide ((0:Int)≤min (↑x0.length:Int) x1),decide (min (↑x0.length:Int) x1≤(↑x0.length:Int))] (some (List.take (min (↑x0.length:Int) x1).toNat x0,()))):=by kernel_rfl
theorem ocut_g (x:DenL [.str,.int .i64]):ocut x=fON Tryz.prog (envS []) (shOf shcut) Tryz.f28 [.str,.int .i64] [.str] heads0 x:=rfl
end Go.Proofs.YtldllfocpadkeaaGreatDoor
namespace Go.Proofs.YtldllfocpadkeaaGreatDoor
open Go Go.Eng Nice
set_option maxRecDepth 100000
theorem cap_n (c:UInt8):ocap (c,())=some (isCap c,()):=by
 rw[ocap_g,ecap_g];by_cases h1:65≤c.toNat
 ·by_cases h2:c.toNat≤90
  ·rw[isCap_iff.2 ⟨h1,h2⟩];simp(disch:=omega) only[cdT]
  ·rw[show isCap c=false by cases hb:isCap c;rfl;exact absurd (isCap_iff.1 hb).2 h2];simp(disch:=omega) only[cdT,cdF]
 ·rw[show isCap c=false by cases hb:isCap c;rfl;exact absurd (isCap_iff.1 hb).1 h1];simp(disch:=omega) only[cdT,cdF]
theorem slower_l (t2:List UInt8) (len:Nat):∀(rest done:List UInt8) (n:Nat),len=done.length+rest.length→len≤140737488355328→rest.length<n→hslower_0 n t2 (done++rest) (len:Int) (done.length:Int)=some (done++rest.map lo,())
 |[],done,n,he,hl,hn=>by
  obtain⟨m,rfl⟩:∃m,n=m+1:=⟨n-1,by omega⟩
  simp only[List.length_nil] at he;rw[eslower_0,cdF (by omega)];simp
 |c::rest,done,n,he,hl,hn=>by
  obtain⟨m,rfl⟩:∃m,n=m+1:=⟨n-1,by omega⟩
  simp only[List.length_cons] at he hn;have hc:=c.toNat_lt;have ih:=fun x=>slower_l t2 len rest (done++[x]) m (by simp;omega) hl (by omega)
  simp only[List.append_assoc,List.singleton_append,List.length_append,List.length_singleton,Int.natCast_add] at ih;rw[eslower_0];simp only[List.length_append,List.length_cons,Int.toNat_natCast,getD_mid,set_mid,UInt8.ofNat_toNat];cases hb:isCap c
  ·have h0:¬(65≤c.toNat∧c.toNat≤90):=fun h=>by rw[isCap_iff.2 h] at hb;cases hb
   simp(disch:=omega) only[cdT,gdT,gd_nil,inK_i64,inK_u8,cond_false];have:=ih c;simpa[lo_not h0] using this
  ·obtain⟨h1,h2⟩:=isCap_iff.1 hb;simp(disch:=omega) only[cdT,gdT,gd_nil,inK_i64,inK_u8,cond_true,wrap_u8];have e:UInt8.ofNat ((((c.toNat:Int)+97)%256-65)%256).toNat=lo c:=by rw[lo_up h1 h2];congr 1;omega
   rw[e];exact ih _
theorem slower_n (s:List UInt8) (h:lowerP s=true):oslower (s,())=some (lower s,()):=by
 have h:s.length≤140737488355328:=of_decide_eq_true h;rw[oslower_g,eslower_g];exact slower_l [] s.length s [] heads0 (by simp) h (by unfold heads0;omega)
theorem sval_l (t1:List UInt8) (t4:List UInt8) (t5:Bool) (h1:lowerP t1=true) (len:Nat):∀(rest done:List (List UInt8×List UInt8×Unit)) (n:Nat),len=done.length+rest.length→len≤140737488355328→rest.all (fun h=>lowerP h.1)=true→rest.length<n→
  hsval_0 n t1 t4 t5 (done++rest) (len:Int) (done.length:Int)=some ((valueN rest t1).1,(valueN rest t1).2,())
 |[],done,n,he,hl,ha,hn=>by
  obtain⟨m,rfl⟩:∃m,n=m+1:=⟨n-1,by omega⟩
  simp only[List.length_nil] at he;rw[esval_0,cdF (by omega)];rfl
 |c::rest,done,n,he,hl,ha,hn=>by
  obtain⟨m,rfl⟩:∃m,n=m+1:=⟨n-1,by omega⟩
  simp only[List.length_cons] at he hn;simp only[List.all_cons,Bool.and_eq_true] at ha;have ih:=sval_l t1 t4 t5 h1 len rest (done++[c]) m (by simp;omega) hl ha.2 (by omega);simp only[List.append_assoc,List.singleton_append,List.length_append,List.length_singleton,Int.natCast_add] at ih;rw[esval_0];simp only[List.length_append,List.length_cons,Int.toNat_natCast,getD_mid]
  simp(disch:=omega) only[cdT,gdT,gd_nil];cases hb:lower c.1==lower t1
  ·simp(disch:=first|omega|assumption|exact ha.1) only[gdT,gdB,gd_nil,inK_i64,cond_false];simp only[valueN,hb,cond_false];exact ih
  ·simp(disch:=first|omega|assumption|exact ha.1) only[gdB,gd_nil,cond_true];simp only[valueN,hb,cond_true]
theorem sval_n (r:Ty.Den ReqT) (s:List UInt8) (h:valueP r.2.2.2.1 s=true):osval (r,s,())=some ((valueN r.2.2.2.1 s).1,(valueN r.2.2.2.1 s).2,()):=by
 unfold valueP at h;simp only[Bool.and_eq_true,decide_eq_true_eq] at h;rw[osval_g,esval_g];exact sval_l s [] false h.2.1 _ r.2.2.2.1 [] heads0 (by simp) h.1 h.2.2 (by unfold heads0;omega)
theorem cut_n (s:List UInt8) (n:Int) (h:0≤n):ocut (s,n,())=some (cut s n,()):=by
 rw[ocut_g,ecut_g];rw[gdT (by omega),gdT (Int.min_le_left _ _),gd_nil];have:List.take (min (s.length:Int) n).toNat s=cut s n:=by
  unfold cut;by_cases hn:n≤s.length
  ·rw[Int.min_eq_right hn]
  ·rw[Int.min_eq_left (by omega),List.take_of_length_le (by simp),List.take_of_length_le (by omega)]
 rw[this]
theorem numV_snoc (s:List UInt8) (c:UInt8):numV (s++[c])=numV s*10+(c.toNat-48):=by simp[numV]
theorem allDig_snoc {s:List UInt8} {c:UInt8} (h1:allDig s=true) (h2:isDig c=true):allDig (s++[c])=true:=by simp only[allDig,List.all_append,List.all_cons,List.all_nil,Bool.and_true,Bool.and_eq_true] at h1⊢;exact⟨h1,h2⟩
end Go.Proofs.YtldllfocpadkeaaGreatDoor
namespace Nice
open Go Go.Eng
def valF (a:Nat) (s:List UInt8):Nat:=s.foldl (fun n c=>n*10+(c.toNat-48)) a
theorem valF_ge:∀(s:List UInt8) (a:Nat),a≤valF a s
 |[],a=>Nat.le_refl _
 |c::r,a=>by
  have:=valF_ge r (a*10+(c.toNat-48));show a≤valF (a*10+(c.toNat-48)) r;omega
theorem parse_dig64:∀(s:List UInt8) (a:Nat),allDig s=true→a≤18446744073709551615→
  (valF a s≤18446744073709551615→Lib.parseUintM 18446744073709551615 a s=.ok (valF a s))∧(18446744073709551615<valF a s→Lib.parseUintM 18446744073709551615 a s=.range)
 |[],a,_,ha=>⟨fun _=>rfl,fun h=>by simp only[valF,List.foldl_nil] at h;omega⟩
 |c::r,a,h,ha=>by
  simp only[allDig,List.all_cons,Bool.and_eq_true] at h;have hd:=isDig_iff.1 h.1;have hv:valF a (c::r)=valF (a*10+(c.toNat-48)) r:=rfl;have hg:=valF_ge r (a*10+(c.toNat-48));rw[hv];simp only[Lib.parseUintM,if_pos hd];by_cases h1:1844674407370955162≤a
  ·rw[if_pos h1];exact⟨fun h=>by omega,fun _=>rfl⟩
  ·rw[if_neg h1];by_cases h2:18446744073709551615<a*10+(c.toNat-48)
   ·rw[if_pos h2];exact⟨fun h=>by omega,fun _=>rfl⟩
   ·rw[if_neg h2];exact parse_dig64 r _ h.2 (by omega)
theorem intN_dig {s:List UInt8} (h:allDig s=true) (h1:s≠[]):(numV s<9223372036854775808→intN s=((numV s:Int),true))∧(9223372036854775808≤numV s→(intN s).2=false):=by
 cases s with
 |nil=>exact absurd rfl h1
 |cons c r=>
  have hd:48≤c.toNat∧c.toNat≤57:=by
   simp only[allDig,List.all_cons,Bool.and_eq_true] at h;exact isDig_iff.1 h.1
  obtain⟨p1,p2⟩:=parse_dig64 (c::r) 0 h (by omega);have hv:valF 0 (c::r)=numV (c::r):=rfl;rw[hv] at p1 p2;have e43:¬(c.toNat=43∨c.toNat=45):=by omega
  have eB:Lib.parseUintB 64 (c::r)=Lib.parseUintM 18446744073709551615 0 (c::r):=by
   unfold Lib.parseUintB;rw[if_neg (by simp)]
  have e45:¬c.toNat=45:=by omega
  by_cases hr:numV (c::r)≤18446744073709551615
  ·have e:Lib.parseIntB 64 (c::r)=if 9223372036854775808≤numV (c::r) then .range else .ok (numV (c::r):Int):=by
    rw[Lib.parseIntB_plain 64 c r (by omega) (by omega),eB,p1 hr];rfl
   constructor
   ·intro hlt;unfold intN;rw[e,if_neg (by omega)]
   ·intro hge;unfold intN;rw[e,if_pos hge]
  ·have e:Lib.parseIntB 64 (c::r)=.range:=by
    rw[Lib.parseIntB_plain 64 c r (by omega) (by omega),eB,p2 (by omega)];rfl
   constructor
   ·intro hlt;omega
   ·intro _;unfold intN;rw[e]
end Nice
namespace Nice
open Go Go.Eng
def upTo (c:UInt8):List UInt8→List UInt8
 |[]=>[]
 |b::r=>bif b==c then [] else b::upTo c r
def hasB (c:UInt8) (s:List UInt8):Bool:=s.any (· ==c)
theorem upTo_len (c:UInt8):∀s,(upTo c s).length≤s.length
 |[]=>Nat.le_refl _
 |b::r=>by
  unfold upTo;cases b==c
  ·simpa using upTo_len c r
  ·simp
theorem upTo_lt (c:UInt8):∀s,hasB c s=true→(upTo c s).length<s.length
 |[],h=>by cases h
 |b::r,h=>by
  unfold upTo;simp only[hasB,List.any_cons] at h;cases hb:b==c
  ·rw[hb,Bool.false_or] at h;simpa using upTo_lt c r h
  ·simp
theorem upTo_take (c:UInt8):∀s,s.take (upTo c s).length=upTo c s
 |[]=>rfl
 |b::r=>by
  unfold upTo;cases b==c
  ·simp[upTo_take c r]
  ·rfl
theorem index1 (c:UInt8):∀s,Lib.index s [c]=bif hasB c s then((upTo c s).length:Int) else -1
 |[]=>rfl
 |b::r=>by
  have ih:=index1 c r;rw[Lib.index];simp only[hasB,List.any_cons] at ih⊢;unfold upTo;by_cases hb:b=c
  ·subst hb;simp[List.isPrefixOf]
  ·have h1:(b==c)=false:=by simpa using hb
   have h2:([c]:List UInt8).isPrefixOf (b::r)=false:=by simp[List.isPrefixOf,Ne.symm hb]
   rw[h1,h2,ih];cases r.any (· ==c)
   ·rfl
   ·simp only[cond_true,Bool.or_true,cond_false,List.length_cons];have:(((upTo c r).length:Int)== -1)=false:=by
     rw[beq_eq_false_iff_ne];omega
    rw[this];simp
theorem cut1 (c:UInt8) (s:List UInt8):Lib.cut s [c]=bif hasB c s then(upTo c s,s.drop ((upTo c s).length+1),true) else(s,[],false):=by
 unfold Lib.cut;rw[index1];cases hasB c s
 ·rfl
 ·simp only[cond_true];rw[if_pos (Int.natCast_nonneg _),Int.toNat_natCast,upTo_take];rfl
theorem split1_no (c:UInt8) (s:List UInt8) (h:hasB c s=false):Lib.split s [c]=[s]:=by
 have hi:Lib.index s [c]= -1:=by rw[index1,h];rfl
 unfold Lib.split;rw[Lib.count_miss hi];rfl
theorem split1_yes (c:UInt8) (s:List UInt8) (h:hasB c s=true):Lib.split s [c]=upTo c s::Lib.split (s.drop ((upTo c s).length+1)) [c]:=by
 have hi:Lib.index s [c]=((upTo c s).length:Nat):=by rw[index1,h];rfl
 have hc:Lib.count s [c]=1+Lib.count (s.drop ((upTo c s).length+1)) [c]:=by
  rw[Lib.count_hit (by simp) hi];rfl
 unfold Lib.split;rw[hc,Nat.add_comm,Lib.splitK];rw[hi];have:(((upTo c s).length:Int)== -1)=false:=by rw[beq_eq_false_iff_ne];omega
 rw[this];simp only[Bool.false_eq_true,if_false,Int.toNat_natCast,Nat.add_zero,List.length_singleton];rw[upTo_take]
abbrev AskD:Type:=Int×List UInt8×Int×List UInt8×Int×List UInt8×List UInt8×List UInt8×Int×Bool×Unit
def wPre:List UInt8:=[112,114,101,102,105,120]
def wAft:List UInt8:=[97,102,116,101,114]
def wMax:List UInt8:=[109,97,120]
def wVer:List UInt8:=[118,101,114,115,105,111,110,115]
def eqS (s:List UInt8):List UInt8:=s++[61]
def keyB (v:List UInt8):Bool:=v==[]||isKey v
def setPre (a:AskD) (v:List UInt8):AskD:=(a.1,a.2.1,a.2.2.1,a.2.2.2.1,a.2.2.2.2.1,a.2.2.2.2.2.1,v,a.2.2.2.2.2.2.2)
def setAft (a:AskD) (v:List UInt8):AskD:=(a.1,a.2.1,a.2.2.1,a.2.2.2.1,a.2.2.2.2.1,a.2.2.2.2.2.1,a.2.2.2.2.2.2.1,v,a.2.2.2.2.2.2.2.2)
def setMax (a:AskD) (n:Int):AskD:=(a.1,a.2.1,a.2.2.1,a.2.2.2.1,a.2.2.2.2.1,a.2.2.2.2.2.1,a.2.2.2.2.2.2.1,a.2.2.2.2.2.2.2.1,n,a.2.2.2.2.2.2.2.2.2)
def setKind (a:AskD) (n:Int):AskD:=(n,a.2)
end Nice
namespace Nice
open Go Go.Eng
abbrev HeadDW:Type:=List UInt8×List UInt8×Unit
abbrev AnsD:Type:=Int×List HeadDW×List UInt8×Unit
abbrev AnsT:Ty:=.pair (.int .i64) (.pair (.slice HeadT) (.pair .str .unit))
def wordsN (n:Int):List UInt8:=bif n==200 then [79,75] else bif n==204 then [78,111,32,67,111,110,116,101,110,116] else bif n==400 then [66,97,100,32,82,101,113,117,101,115,116] else bif n==404 then [78,111,116,32,70,111,117,110,100] else bif n==405 then [77,101,116,104,111,100,32,78,111,116,32,65,108,108,111,119,101,100] else bif n==412 then [80,114,101,99,111,110,100,105,116,105,111,110,32,70,97,105,108,101,100] else bif n==413 then [67,111,110,116,101,110,116,32,84,111,111,32,76,97,114,103,101] else bif n==414 then [85,82,73,32,84,111,111,32,76,111,110,103] else bif n==431 then [82,101,113,117,101,115,116,32,72,101,97,100,101,114,32,70,105,101,108,100,115,32,84,111,111,32,76,97,114,103,101] else bif n==503 then [83,101,114,118,105,99,101,32,85,110,97,118,97,105,108,97,98,108,101] else bif n==507 then [73,110,115,117,102,102,105,99,105,101,110,116,32,83,116,111,114,97,103,101] else []
def tokB (c:UInt8):Bool:=decide (65≤c.toNat∧c.toNat≤90∨97≤c.toNat∧c.toNat≤122∨48≤c.toNat∧c.toNat≤57∨c.toNat=45)
def prB (c:UInt8):Bool:=decide (32≤c.toNat∧c.toNat≤126)
def kindB (k:Nat) (c:UInt8):Bool:=bif Nat.beq k 113 then tokB c else bif Nat.beq k 115 then prB c else isDig c
def runLN (k:Nat) (s:List UInt8):Int:=((s.takeWhile (kindB k)).length:Int)
def kindP (k:Nat):Bool:=Nat.beq k 113||(Nat.beq k 115||Nat.beq k 341)
def ascP (s:List UInt8):Bool:=s.all (fun c=>decide (c.toNat<128))&&bndS s
def lowN (s:List UInt8):List UInt8:=lower s
def resN (s:List UInt8):Bool:=lower s==clen
def trim1 (s:List UInt8):List UInt8:=Lib.trimB s 32
def headB (h:HeadDW):Bool:=(decide (1≤h.1.length∧h.1.length≤30)&&(h.1.all tokB&& !(lower h.1==clen)))&&(decide (h.2.1.length≤100)&&(h.2.1.all prB&&trim1 h.2.1==h.2.1))
def headPW (h:HeadDW):Bool:=bndS h.1&&bndS h.2.1
def idxHN (l:List HeadDW):Int:=bif l.any (fun h=> !headB h) then((l.takeWhile headB).length:Int) else -1
def anyN (l:List HeadDW):Bool:=l.any fun h=> !headB h
def headsPW (l:List HeadDW):Bool:=decide (l.length≤140737488355328)&&l.all headPW
def amayB (a:AnsD):Bool:= !(wordsN a.1==[])&&(decide (a.2.1.length≤10)&&(!anyN a.2.1&&(decide (a.2.2.1.length≤20000)&&(!(a.1==204)||a.2.2.1==[]))))
def aputP (a:AnsD):Bool:=headsPW a.2.1
noncomputable def wordsS:PSpec:=⟨[.int .i64],[.str],fun _=>true,fun x=>(wordsN x.1,())⟩
noncomputable def tokBS:PSpec:=⟨[.byte],[.bool],fun _=>true,fun x=>(tokB x.1,())⟩
noncomputable def prBS:PSpec:=⟨[.byte],[.bool],fun _=>true,fun x=>(prB x.1,())⟩
noncomputable def runS:PSpec:=⟨[.str,.fv],[.int .i64],fun x=>bndS x.1&&kindP x.2.1,fun x=>(runLN x.2.1 x.1,())⟩
noncomputable def lowAS:PSpec:=⟨[.str],[.str],fun x=>ascP x.1,fun x=>(lowN x.1,())⟩
noncomputable def resS:PSpec:=⟨[.str],[.bool],fun x=>ascP x.1,fun x=>(resN x.1,())⟩
noncomputable def trim1S:PSpec:=⟨[.str,.str],[.str],fun x=>bndS x.1&&x.2.1==[32],fun x=>(trim1 x.1,())⟩
noncomputable def mayHS:PSpec:=⟨[HeadT],[.bool],fun x=>headPW x.1,fun x=>(headB x.1,())⟩
noncomputable def anyS (f:Nat):PSpec:=⟨[.slice HeadT,.fn f],[.bool],fun x=>headsPW x.1,fun x=>(anyN x.1,())⟩
noncomputable def notHS:PSpec:=⟨[HeadT],[.bool],fun x=>headPW x.1,fun x=>(!headB x.1,())⟩
noncomputable def idxHS (f:Nat):PSpec:=⟨[.slice HeadT,.fn f],[.int .i64],fun x=>headsPW x.1,fun x=>(idxHN x.1,())⟩
noncomputable def amayAS:PSpec:=⟨[AnsT],[.bool],fun x=>aputP x.1,fun x=>(amayB x.1,())⟩
end Nice
namespace Nice
open Go Go.Eng
def wordsO (n:Int):Option (DenL [.str]):=(bif n==200 then some ([79,75],()) else bif n==204 then some ([78,111,32,67,111,110,116,101,110,116],()) else bif n==400 then some ([66,97,100,32,82,101,113,117,101,115,116],()) else bif n==404 then some ([78,111,116,32,70,111,117,110,100],()) else bif n==405 then some ([77,101,116,104,111,100,32,78,111,116,32,65,108,108,111,119,101,100],()) else bif n==412 then some ([80,114,101,99,111,110,100,105,116,105,111,110,32,70,97,105,108,101,100],()) else bif n==413 then some ([67,111,110,116,101,110,116,32,84,111,111,32,76,97,114,103,101],()) else bif n==414 then some ([85,82,73,32,84,111,111,32,76,111,110,103],()) else bif n==431 then some ([82,101,113,117,101,115,116,32,72,101,97,100,101,114,32,70,105,101,108,100,115,32,84,111,111,32,76,97,114,103,101],()) else bif n==503 then some ([83,101,114,118,105,99,101,32,85,110,97,118,97,105,108,97,98,108,101],()) else bif n==507 then some ([73,110,115,117,102,102,105,99,105,101,110,116,32,83,116,111,114,97,103,101],()) else some ([],()))
end Nice
namespace Go.Proofs.YtldllfocpadkeaaGreatDoor
open Go Go.Eng Nice
set_option maxRecDepth 1000000
noncomputable def owords (x:DenL [.int .i64]):Option (DenL [.str]):=fO Tryz.prog (envS []) (shOf []) Tryz.f68 [.int .i64] [.str] x
theorem ewords (n:Int):owords (n,())=wordsO n:=by kernel_rfl
theorem words_nn (n:Int):owords (n,())=some (wordsN n,()):=by
 rw[ewords];unfold wordsO wordsN;cases n==200<;>cases n==204<;>cases n==400<;>cases n==404<;>cases n==405<;>cases n==412<;>cases n==413<;>cases n==414<;>cases n==431<;>cases n==503<;>cases n==507<;>rfl
theorem words_c:PC 68 wordsS:=(pureO (envS_ok (l:=[]) trivial) gl_ne Tryz.func68 (by kernel_rfl) (by decide)).nice fun⟨n,()⟩ _=>words_nn n
end Go.Proofs.YtldllfocpadkeaaGreatDoor
namespace Nice
open Go Go.Eng
theorem hide {α:Type} (x:α):∃y,y=x:=⟨x,rfl⟩
noncomputable def hid {α:Type} (x:α):α:=Classical.choose (hide x)
abbrev HeadD:=List UInt8×List UInt8×Unit
abbrev ReqD:=List UInt8×List UInt8×List UInt8×List HeadD×List UInt8×Unit
abbrev ScanD:=Int×Int×Int×Int×List UInt8×ReqD×Int×List ReqD×Unit
def isVis (c:UInt8):Bool:=decide (33≤c.toNat∧c.toNat≤126∧c.toNat≠35)
def isTok (c:UInt8):Bool:=decide (65≤c.toNat∧c.toNat≤90∨97≤c.toNat∧c.toNat≤122∨48≤c.toNat∧c.toNat≤57∨c.toNat=45)
def isSp (c:UInt8):Bool:=c==32||c==9
def trimL (s:List UInt8):List UInt8:=s.dropWhile isSp
def trimR (s:List UInt8):List UInt8:=(s.reverse.dropWhile isSp).reverse
end Nice
namespace Nice
open Go Go.Eng
def mHeads:List HeadD→Nat→Option Nat
 |[],k=>some k
 |h::r,k=>bif lower h.1==tenc then none else bif lower h.1==clen then(bif (scanNum h.2.1).2 then mHeads r (k+1) else none) else mHeads r k
end Nice
namespace Nice
open Go Go.Eng
def verB:List UInt8:=[72,84,84,80,47,49,46,49]
def hdN (su li at':Int) (tx m p q:List UInt8) (hs:List HeadD) (b:List UInt8) (le:Int) (ou:List ReqD):ScanD×Int:=
 match mHeads hs 0 with
 |none=>((8,su,li,at',tx,(m,p,q,hs,b,()),le,ou,()),400)
 |some k=>
  if 1<k then((8,su,li,at',tx,(m,p,q,hs,b,()),le,ou,()),400)
  else if scanLen hs>300 then((8,su,li,at',tx,(m,p,q,hs,b,()),scanLen hs,ou,()),413)
  else if scanLen hs=0 then((0,su,li,at',tx,([],[],[],[],[],()),scanLen hs,ou++[(m,p,q,hs,b,())],()),0)
  else((9,su,li,at',tx,(m,p,q,hs,b,()),scanLen hs,ou,()),0)
end Nice
namespace Nice
open Go Go.Eng
inductive Out1 where
 |more
 |bad (e:Int)
 |whole (m p q:List UInt8) (r:List UInt8)
inductive Out2 where
 |more
 |bad (e:Int)
 |head (h:HeadD) (r:List UInt8)
 |fin (r:List UInt8)
abbrev LD:=Int×Int×List UInt8×List UInt8×List UInt8×List UInt8
def a1 (st at':Int) (tx m p q:List UInt8) (c:UInt8):Option LD:=
 if st=0 then
  (if isCap c=true∧tx.length<10 then some (0,at',tx++[c],m,p,q)
   else if c.toNat=32∧0<tx.length then some (1,at',[],tx,p,q) else none)
 else if st=1 then
  (if tx.length=0∧c.toNat≠47 then none
   else if c.toNat=63 then some (2,at',[],m,tx,q)
   else if c.toNat=32 then some (3,at',[],m,tx,q)
   else if isVis c=true then some (1,at',tx++[c],m,p,q) else none)
 else if st=2 then
  (if c.toNat=32 then some (3,at',[],m,p,tx)
   else if isVis c=true then some (2,at',tx++[c],m,p,q) else none)
 else if at'=8 then none
 else if c.toNat=(verB.getD at'.toNat 0).toNat then some (3,at'+1,tx,m,p,q) else none
def r1 (st at':Int) (tx m p q:List UInt8) (i:Nat):List UInt8→Out1
 |[]=>.more
 |c::r=>
  if c.toNat=13 then
   (if st=3∧at'=8 then(match r with|[]=>.more|d::r'=>if d.toNat=10 then .whole m p q r' else .bad 400) else .bad 400)
  else if 200≤i then .bad 414
  else match a1 st at' tx m p q c with
   |none=>.bad 400
   |some (st',at2,tx',m',p',q')=>r1 st' at2 tx' m' p' q' (i+1) r
def a2 (st:Int) (nm tx:List UInt8) (c:UInt8):Option (Int×List UInt8×List UInt8):=
 if st=5 then(if c.toNat=58∧0<tx.length then some (6,tx,[]) else if isTok c=true then some (5,nm,tx++[c]) else none)
 else if 32≤c.toNat∧c.toNat≤126∨c.toNat=9 then some (6,nm,tx++[c]) else none
def r2 (nh:Nat) (st:Int) (nm tx:List UInt8) (i:Nat):List UInt8→Out2
 |[]=>.more
 |c::r=>
  if c.toNat=13 then
   (if st=5 then(if i=0 then(match r with|[]=>.more|d::r'=>if d.toNat=10 then .fin r' else .bad 400) else .bad 400)
    else(match r with|[]=>.more|d::r'=>if d.toNat=10 then .head (nm,trimL (trimR tx),()) r' else .bad 400))
  else if 120≤i then .bad 431
  else if i=0∧10≤nh then .bad 431
  else match a2 st nm tx c with
   |none=>.bad 400
   |some (st',nm',tx')=>r2 nh st' nm' tx' (i+1) r
end Nice
