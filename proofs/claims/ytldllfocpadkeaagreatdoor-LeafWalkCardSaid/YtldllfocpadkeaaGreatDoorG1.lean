/-
  Part of the proof: Nice NiceK QV LScan PAsk PFl NiceT PSplit NiceC QT LT NiceW. No condition.
-/
import Derived.Test.YtldllfocpadkeaaGreatDoorEng11
import Derived.Shelf.Strconv.AtoiAll
import Derived.Shelf.GgClosure.StringsIndexFuncTop
import Derived.Shelf.Strconv.ParseIntPublic10
import Derived.Test.YtldllfocpadkeaaGreatDoorSym
import Derived.Lib.ParseIntBCases
import Derived.Lib.SplitLaws
import Derived.Lib.TrimByte
import Derived.Lib.Case
namespace Nice
open Go Go.Eng
def lo (c:UInt8):UInt8:=if 65≤c∧c≤90 then c+32 else c
def lower (s:List UInt8):List UInt8:=s.map lo
def lowerP (s:List UInt8):Bool:=decide (s.length≤140737488355328)
def isCap (c:UInt8):Bool:=decide (65≤c∧c≤90)
def isDig (c:UInt8):Bool:=decide (48≤c∧c≤57)
def valueN:List (List UInt8×List UInt8×Unit)→List UInt8→List UInt8×Bool
 |[],_=>([],false)
 |h::r,n=>bif lower h.1==lower n then(h.2.1,true) else valueN r n
def valueP (l:List (List UInt8×List UInt8×Unit)) (n:List UInt8):Bool:=decide (l.length≤140737488355328)&&(lowerP n&&l.all fun h=>lowerP h.1)
def allDig (s:List UInt8):Bool:=s.all isDig
def numV (s:List UInt8):Nat:=s.foldl (fun n c=>n*10+(c.toNat-48)) 0
def cut (s:List UInt8) (n:Int):List UInt8:=s.take n.toNat
theorem cdT {α:Type} {p:Prop} [Decidable p] {a b:α} (h:p):(bif decide p then a else b)=a:=by simp[h]
theorem cdF {α:Type} {p:Prop} [Decidable p] {a b:α} (h:¬p):(bif decide p then a else b)=b:=by simp[h]
theorem gd_nil {α:Type} {r:Option α}:gd [] r=r:=rfl
theorem gdT {α:Type} {p:Prop} [Decidable p] {l:List Bool} {r:Option α} (h:p):gd (decide p::l) r=gd l r:=by simp[gd,h]
theorem gdB {α:Type} {b:Bool} {l:List Bool} {r:Option α} (h:b=true):gd (b::l) r=gd l r:=by simp[gd,h]
theorem inK_i64 {n:Int}:inK .i64 n↔ -9223372036854775808≤n∧n≤9223372036854775807:=Iff.rfl
theorem inK_u8 {n:Int}:inK .u8 n↔0≤n∧n≤255:=Iff.rfl
theorem wrap_u8 {n:Int}:IntKind.u8.wrap n=n%256:=rfl
theorem getD_mid {α:Type} (a b:List α) (x d:α):(a++x::b).getD a.length d=x:=by simp
theorem set_mid {α:Type} (a b:List α) (x y:α):(a++x::b).set a.length y=a++y::b:=by simp
theorem le8 {a c:UInt8}:a≤c↔a.toNat≤c.toNat:=UInt8.le_iff_toNat_le
theorem isCap_iff {c:UInt8}:isCap c=true↔65≤c.toNat∧c.toNat≤90:=by
 unfold isCap;rw[decide_eq_true_iff,le8,le8];rfl
theorem isDig_iff {c:UInt8}:isDig c=true↔48≤c.toNat∧c.toNat≤57:=by
 unfold isDig;rw[decide_eq_true_iff,le8,le8];rfl
theorem lo_up {c:UInt8} (h1:65≤c.toNat) (h2:c.toNat≤90):lo c=UInt8.ofNat (c.toNat+32):=by
 unfold lo;rw[if_pos ⟨le8.2 h1,le8.2 h2⟩];apply UInt8.toNat.inj;simp
theorem lo_not {c:UInt8} (h:¬(65≤c.toNat∧c.toNat≤90)):lo c=c:=by
 unfold lo;rw[if_neg];rintro⟨h1,h2⟩;exact h ⟨le8.1 h1,le8.1 h2⟩
abbrev HeadT:Ty:=.pair .str (.pair .str .unit)
abbrev ReqT:Ty:=.pair .str (.pair .str (.pair .str (.pair (.slice HeadT) (.pair .str .unit))))
noncomputable def trueS:PSpec:=⟨[],[.bool],fun _=>true,fun _=>(true,())⟩
noncomputable def lowerS:PSpec:=⟨[.str],[.str],fun x=>lowerP x.1,fun x=>(lower x.1,())⟩
noncomputable def capS:PSpec:=⟨[.byte],[.bool],fun _=>true,fun x=>(isCap x.1,())⟩
noncomputable def valueS:PSpec:=⟨[ReqT,.str],[.str,.bool],fun x=>valueP x.1.2.2.2.1 x.2.1,fun x=>((valueN x.1.2.2.2.1 x.2.1).1,(valueN x.1.2.2.2.1 x.2.1).2,())⟩
noncomputable def cutS:PSpec:=⟨[.str,.int .i64],[.str],fun x=>decide (0≤x.2.1),fun x=>(cut x.1 x.2.1,())⟩
end Nice
namespace Nice
open Go Go.Eng
def keyCh (c:UInt8):Bool:=decide (97≤c.toNat∧c.toNat≤122∨48≤c.toNat∧c.toNat≤57∨c.toNat=46∨c.toNat=45∨c.toNat=95∨c.toNat=47)
def isKey (s:List UInt8):Bool:=s.all keyCh&&(decide (1≤s.length)&&decide (s.length≤40))
def bndS (s:List UInt8):Bool:=decide (s.length≤140737488355328)
def notDig (r:Nat):Bool:=decide (r<48)||decide (57<r)
def idxF (s:List UInt8):Int:=Lib.idxFunc notDig true (bs s)
def intN (s:List UInt8):Int×Bool:=match Lib.parseIntB 64 s with
 | .ok v=>(v,true)
 |Lib.NumEnd.syntax=>(0,false)
 | .range=>(Lib.intSat 64 s,false)
def numN (s:List UInt8) (most lo hi:Int):Int×Bool:=((intN s).1,allDig s&&((intN s).2&&(decide ((s.length:Int)≤most)&&(decide ((intN s).1≥lo)&&decide ((intN s).1≤hi)))))
def hasPre (s p:List UInt8):Bool:=decide (p.length≤s.length)&&s.take p.length==p
def hasSuf (s p:List UInt8):Bool:=decide (p.length≤s.length)&&s.drop (s.length-p.length)==p
def cutPre (s p:List UInt8):List UInt8×Bool:=bif hasPre s p then(s.drop p.length,true) else(s,false)
def cutSuf (s p:List UInt8):List UInt8×Bool:=bif hasSuf s p then(s.take (s.length-p.length),true) else(s,false)
def digsF:Nat→Nat→List UInt8→List UInt8
 |0,_,acc=>acc
 |f+1,n,acc=>if n/10=0 then UInt8.ofNat (48+n%10)::acc else digsF f (n/10) (UInt8.ofNat (48+n%10)::acc)
def digs (u:Int):List UInt8:=digsF 20 u.toNat []
def digits (n:Int):List UInt8:=if n<0 then 45::digs (-n) else digs n
def vPre:List UInt8:=[118,101,114,115,105,111,110,61]
def zAsk:Int×List UInt8×Int×List UInt8×Int×List UInt8×List UInt8×List UInt8×Int×Bool×Unit:=(0,[],0,[],0,[],[],[],0,false,())
theorem decode_ascii {s:ByteArray} {i:Nat} (h:(s.get! i).toNat<128):Utf8.decode s i=((s.get! i).toNat,1):=by
 unfold Utf8.decode;simp only[Nat.add_zero];rw[if_pos (show(s.get! i).toNat<0x80 from h)]
theorem decode_high {s:ByteArray} {i:Nat} (h:128≤(s.get! i).toNat):57<(Utf8.decode s i).1:=by
 unfold Utf8.decode;simp only[Nat.add_zero];rw[if_neg (show ¬(s.get! i).toNat<0x80 by omega)];have hr:57<Utf8.runeError:=by decide
 have hge:∀(c:Nat) (b:Bool) (k:Nat),c≥k→57<k→57<c:=fun c b k h1 h2=>by omega
 repeat' split
 all_goals first
  |exact hr
  |(rename_i h1;simp only[Bool.and_eq_true,decide_eq_true_eq] at h1;omega)
  |(rename_i h1;have h1:=of_decide_eq_true h1;omega)
  |(rename_i h1;omega)
theorem idx_l (s:ByteArray):∀(f pos:Nat),s.size-pos≤f→decide (Lib.idxFuncFrom notDig true s f pos≥0)= !((s.data.toList.drop pos).all isDig)
 |0,pos,h=>by
  have:s.data.toList.drop pos=[]:=List.drop_eq_nil_of_le (by show s.data.toList.length≤pos;have:s.data.toList.length=s.size:=rfl;omega);rw[this];simp[Lib.idxFuncFrom]
 |f+1,pos,h=>by
  unfold Lib.idxFuncFrom;by_cases hp:pos<s.size
  ·rw[if_pos hp];have hp':pos<s.data.toList.length:=hp;have hd:s.data.toList.drop pos=s.get! pos::s.data.toList.drop (pos+1):=by
    rw[List.drop_eq_getElem_cons hp'];congr 1;show _=s.data[pos]!;rw[getElem!_pos s.data pos hp];rfl
   rw[hd];simp only[List.all_cons];by_cases ha:(s.get! pos).toNat<128
   ·rw[decode_ascii ha];by_cases hdg:48≤(s.get! pos).toNat∧(s.get! pos).toNat≤57
    ·rw[if_neg (by simp only[notDig,Bool.or_eq_true,decide_eq_true_eq];omega),isDig_iff.2 hdg,Bool.true_and];exact idx_l s f (pos+1) (by omega)
    ·have:isDig (s.get! pos)=false:=by cases hb:isDig (s.get! pos);rfl;exact absurd (isDig_iff.1 hb) hdg
     rw[if_pos (by simp only[notDig,Bool.or_eq_true,decide_eq_true_eq];omega),this];simp
   ·have:=decode_high (s:=s) (i:=pos) (by omega);have hd:isDig (s.get! pos)=false:=by cases hb:isDig (s.get! pos);rfl;have:=isDig_iff.1 hb;omega
    rw[if_pos (by simp only[notDig,Bool.or_eq_true,decide_eq_true_eq];omega),hd];simp
  ·rw[if_neg hp];have:s.data.toList.drop pos=[]:=List.drop_eq_nil_of_le (by have:s.data.toList.length=s.size:=rfl;omega);rw[this];rfl
theorem idxF_ge (s:List UInt8):decide (idxF s≥0)= !allDig s:=by
 have:=idx_l (bs s) (bs s).size 0 (by omega);simpa[idxF,Lib.idxFunc,allDig,bs] using this
abbrev AskT:Ty:=.pair (.int .i64) (.pair .str (.pair (.int .i64) (.pair .str (.pair (.int .i64) (.pair .str (.pair .str (.pair .str (.pair (.int .i64) (.pair .bool .unit)))))))))
noncomputable def noS (ts rs:List Ty):PSpec:=⟨ts,rs,fun _=>false,fun _=>dfltL rs⟩
noncomputable def keyChS:PSpec:=⟨[.byte],[.bool],fun _=>true,fun x=>(keyCh x.1,())⟩
noncomputable def isKeyS:PSpec:=⟨[.str],[.bool],fun x=>bndS x.1,fun x=>(isKey x.1,())⟩
noncomputable def idxFS (f:Nat):PSpec:=⟨[.str,.fn f],[.int .i64],fun _=>true,fun x=>(idxF x.1,())⟩
noncomputable def parseS:PSpec:=⟨[.str,.int .i64,.int .i64],[.int .i64,.err],fun x=>bndS x.1&&(decide (x.2.1=10)&&decide (x.2.2.1=64)),fun x=>((intN x.1).1,(intN x.1).2,())⟩
noncomputable def numS:PSpec:=⟨[.str,.int .i64,.int .i64,.int .i64],[.int .i64,.bool],fun x=>bndS x.1,fun x=>((numN x.1 x.2.1 x.2.2.1 x.2.2.2.1).1,(numN x.1 x.2.1 x.2.2.1 x.2.2.2.1).2,())⟩
noncomputable def hasPreS:PSpec:=⟨[.str,.str],[.bool],fun _=>true,fun x=>(hasPre x.1 x.2.1,())⟩
noncomputable def cutPreS:PSpec:=⟨[.str,.str],[.str,.bool],fun _=>true,fun x=>((cutPre x.1 x.2.1).1,(cutPre x.1 x.2.1).2,())⟩
end Nice
namespace Go.Proofs.YtldllfocpadkeaaGreatDoor
open Go Go.Eng Nice
set_option maxRecDepth 1000000
abbrev shcap:List (Nat×List (Nat×Sh)):=[]
noncomputable def ocap (x:DenL [.byte]):Option (DenL [.bool]):=fO Tryz.prog (envS []) (shOf shcap) Tryz.f163 [.byte] [.bool] x
theorem ecap_g (N:Nat) (x0:UInt8):fON Tryz.prog (envS []) (shOf shcap) Tryz.f163 [.byte] [.bool] N (x0,())=
  (bif decide ((↑x0.toNat:Int)≥(65:Int)) then
 (bif decide ((↑x0.toNat:Int)≤(90:Int)) then
 (some (true,()))
 else
 (some (false,())))
  else
 (some (false,()))):=by kernel_rfl
theorem ocap_g (x:DenL [.byte]):ocap x=fON Tryz.prog (envS []) (shOf shcap) Tryz.f163 [.byte] [.bool] heads0 x:=rfl
abbrev shslower:List (Nat×List (Nat×Sh)):=[(3,[(2,(.one .sym)),(3,(.one (.vec .byte 5))),(8,(.one (.same 0))),(9,(.one .sym)),(10,(.one .sym))])]
noncomputable def hslower_0 (n:Nat) (t2:List UInt8) (t3:List (Ty.Den .byte)) (t9:Int) (t10:Int):Option (DenL [.str]):=rH Tryz.prog (envS [(163,capS)]) (shOf shslower) Tryz.f128 [.str] n 0 [(2,sy (.string (bs t2))),(3,dt 10),(8,dt 10),(9,sy (.int .i64 t9)),(10,sy (.int .i64 t10))] [.vec .byte t3 5]
noncomputable def oslower (x:DenL [.str]):Option (DenL [.str]):=fO Tryz.prog (envS [(163,capS)]) (shOf shslower) Tryz.f128 [.str] [.str] x
theorem eslower_g (N:Nat) (x0:List UInt8):fON Tryz.prog (envS [(163,capS)]) (shOf shslower) Tryz.f128 [.str] [.str] N (x0,())=
 (hslower_0 N ([]) (x0) ((↑x0.length:Int)) ((0:Int))):=by kernel_rfl
theorem oslower_g (x:DenL [.str]):oslower x=fON Tryz.prog (envS [(163,capS)]) (shOf shslower) Tryz.f128 [.str] [.str] heads0 x:=rfl
theorem eslower_0 (n:Nat) (t2:List UInt8) (t3:List (Ty.Den .byte)) (t9:Int) (t10:Int):hslower_0 (n+1) t2 t3 t9 t10=
  (bif decide (t10<t9) then
 (gd [decide (t10.toNat<t3.length),decide ((0:Int)≤t10),decide (t10<(↑t3.length:Int))] (bif isCap (UInt8.ofNat (↑(UInt8.toNat (t3.getD t10.toNat Ty.byte.dflt)):Int).toNat) then
 (gd [decide (inK .i64 (t10+(1:Int))),decide (t10.toNat<t3.length),decide (inK .u8 (IntKind.u8.wrap (IntKind.u8.wrap ((↑(UInt8.toNat (t3.getD t10.toNat Ty.byte.dflt)):Int)+(97:Int))-(65:Int)))),decide ((0:Int)≤t10),decide (t10<(↑t3.length:Int)),decide (inK .u8 (↑(UInt8.toNat (t3.getD t10.toNat Ty.byte.dflt)):Int))] (hslower_0 n (t2) (t3.set t10.toNat (UInt8.ofNat (IntKind.u8.wrap (IntKind.u8.wrap ((↑(UInt8.toNat (t3.getD t10.toNat Ty.byte.dflt)):Int)+(97:Int))-(65:Int))).toNat)) (t9) (t10+(1:Int))))
 else
 (gd [decide (inK .i64 (t10+(1:Int))),decide (inK .u8 (↑(UInt8.toNat (t3.getD t10.toNat Ty.byte.dflt)):Int))] (hslower_0 n (t2) (t3) (t9) (t10+(1:Int))))))
  else
 (some (t3,()))):=by kernel_rfl
abbrev shsval:List (Nat×List (Nat×Sh)):=[(2,[(1,(.one .sym)),(4,(.one .sym)),(5,(.one .sym)),(9,(.one (.dat (.pair .str (.pair .str .unit))))),(10,(.one .sym)),(11,(.one .sym))])]
noncomputable def hsval_0 (n:Nat) (t1:List UInt8) (t4:List UInt8) (t5:Bool) (t9:List (Ty.Den (.pair .str (.pair .str .unit)))) (t10:Int) (t11:Int):Option (DenL [.str,.bool]):=rH Tryz.prog (envS [(128,lowerS)]) (shOf shsval) Tryz.f84 [.str,.bool] n 0 [(1,sy (.string (bs t1))),(4,sy (.string (bs t4))),(5,.bool t5),(9,dt 10),(10,sy (.int .i64 t10)),(11,sy (.int .i64 t11))] [.dat (.pair .str (.pair .str .unit)) t9]
noncomputable def osval (x:DenL [ReqT,.str]):Option (DenL [.str,.bool]):=fO Tryz.prog (envS [(128,lowerS)]) (shOf shsval) Tryz.f84 [ReqT,.str] [.str,.bool] x
theorem esval_g (N:Nat) (x0:Ty.Den ReqT) (x1:List UInt8):fON Tryz.prog (envS [(128,lowerS)]) (shOf shsval) Tryz.f84 [ReqT,.str] [.str,.bool] N (x0,x1,())=
 (hsval_0 N (x1) ([]) (false) (x0.snd.snd.snd.fst) ((↑(List.length x0.snd.snd.snd.fst):Int)) ((0:Int))):=by kernel_rfl
theorem osval_g (x:DenL [ReqT,.str]):osval x=fON Tryz.prog (envS [(128,lowerS)]) (shOf shsval) Tryz.f84 [ReqT,.str] [.str,.bool] heads0 x:=rfl
theorem esval_0 (n:Nat) (t1:List UInt8) (t4:List UInt8) (t5:Bool) (t9:List (Ty.Den (.pair .str (.pair .str .unit)))) (t10:Int) (t11:Int):hsval_0 (n+1) t1 t4 t5 t9 t10 t11=
  (bif decide (t11<t10) then
 (gd [decide (t11.toNat<t9.length),decide ((0:Int)≤t11),decide (t11<(↑t9.length:Int))] (bif lower (t9.getD t11.toNat (HeadT).dflt).fst==lower t1 then
 (gd [lowerP t1,lowerP (t9.getD t11.toNat (HeadT).dflt).fst] (some ((t9.getD t11.toNat (HeadT).dflt).snd.fst,true,())))
 else
 (gd [decide (inK .i64 (t11+(1:Int))),lowerP t1,lowerP (t9.getD t11.toNat (HeadT).dflt).fst] (hsval_0 n (t1) (t4) (t5) (t9) (t10) (t11+(1:Int))))))
  else
 (some ([],false,()))):=by kernel_rfl
abbrev shcut:List (Nat×List (Nat×Sh)):=[]
noncomputable def ocut (x:DenL [.str,.int .i64]):Option (DenL [.str]):=fO Tryz.prog (envS []) (shOf shcut) Tryz.f28 [.str,.int .i64] [.str] x
theorem ecut_g (N:Nat) (x0:List UInt8) (x1:Int):fON Tryz.prog (envS []) (shOf shcut) Tryz.f28 [.str,.int .i64] [.str] N (x0,x1,())=
 (gd [decide ((0:Int)≤min (↑x0.length:Int) x1),decide (min (↑x0.length:Int) x1≤(↑x0.length:Int))] (some (List.take (min (↑x0.length:Int) x1).toNat x0,()))):=by kernel_rfl
theorem ocut_g (x:DenL [.str,.int .i64]):ocut x=fON Tryz.prog (envS []) (shOf shcut) Tryz.f28 [.str,.int .i64] [.str] heads0 x:=rfl
end Go.Proofs.YtldllfocpadkeaaGreatDoor
namespace Go.Proofs.YtldllfocpadkeaaGreatDoor
open Go Go.Eng Nice
set_option maxRecDepth 100000
theorem cap_n (c:UInt8):ocap (c,())=some (isCap c,()):=by
 rw[ocap_g,ecap_g];by_cases h1:65≤c.toNat
 ·by_cases h2:c.toNat≤90
  ·rw[isCap_iff.2 ⟨h1,h2⟩];simp(disch:=omega) only[cdT]
  ·rw[show isCap c=false by cases hb:isCap c;rfl;exact absurd (isCap_iff.1 hb).2 h2];simp(disch:=omega) only[cdT,cdF]
 ·rw[show isCap c=false by cases hb:isCap c;rfl;exact absurd (isCap_iff.1 hb).1 h1];simp(disch:=omega) only[cdT,cdF]
theorem slower_l (t2:List UInt8) (len:Nat):∀(rest done:List UInt8) (n:Nat),len=done.length+rest.length→len≤140737488355328→rest.length<n→hslower_0 n t2 (done++rest) (len:Int) (done.length:Int)=some (done++rest.map lo,())
 |[],done,n,he,hl,hn=>by
  obtain⟨m,rfl⟩:∃m,n=m+1:=⟨n-1,by omega⟩
  simp only[List.length_nil] at he;rw[eslower_0,cdF (by omega)];simp
 |c::rest,done,n,he,hl,hn=>by
  obtain⟨m,rfl⟩:∃m,n=m+1:=⟨n-1,by omega⟩
  simp only[List.length_cons] at he hn;have hc:=c.toNat_lt;have ih:=fun x=>slower_l t2 len rest (done++[x]) m (by simp;omega) hl (by omega)
  simp only[List.append_assoc,List.singleton_append,List.length_append,List.length_singleton,Int.natCast_add] at ih;rw[eslower_0];simp only[List.length_append,List.length_cons,Int.toNat_natCast,getD_mid,set_mid,UInt8.ofNat_toNat];cases hb:isCap c
  ·have h0:¬(65≤c.toNat∧c.toNat≤90):=fun h=>by rw[isCap_iff.2 h] at hb;cases hb
   simp(disch:=omega) only[cdT,gdT,gd_nil,inK_i64,inK_u8,cond_false];have:=ih c;simpa[lo_not h0] using this
  ·obtain⟨h1,h2⟩:=isCap_iff.1 hb;simp(disch:=omega) only[cdT,gdT,gd_nil,inK_i64,inK_u8,cond_true,wrap_u8];have e:UInt8.ofNat ((((c.toNat:Int)+97)%256-65)%256).toNat=lo c:=by rw[lo_up h1 h2];congr 1;omega
   rw[e];exact ih _
theorem slower_n (s:List UInt8) (h:lowerP s=true):oslower (s,())=some (lower s,()):=by
 have h:s.length≤140737488355328:=of_decide_eq_true h;rw[oslower_g,eslower_g];exact slower_l [] s.length s [] heads0 (by simp) h (by unfold heads0;omega)
theorem sval_l (t1:List UInt8) (t4:List UInt8) (t5:Bool) (h1:lowerP t1=true) (len:Nat):∀(rest done:List (List UInt8×List UInt8×Unit)) (n:Nat),len=done.length+rest.length→len≤140737488355328→rest.all (fun h=>lowerP h.1)=true→rest.length<n→
  hsval_0 n t1 t4 t5 (done++rest) (len:Int) (done.length:Int)=some ((valueN rest t1).1,(valueN rest t1).2,())
 |[],done,n,he,hl,ha,hn=>by
  obtain⟨m,rfl⟩:∃m,n=m+1:=⟨n-1,by omega⟩
  simp only[List.length_nil] at he;rw[esval_0,cdF (by omega)];rfl
 |c::rest,done,n,he,hl,ha,hn=>by
  obtain⟨m,rfl⟩:∃m,n=m+1:=⟨n-1,by omega⟩
  simp only[List.length_cons] at he hn;simp only[List.all_cons,Bool.and_eq_true] at ha;have ih:=sval_l t1 t4 t5 h1 len rest (done++[c]) m (by simp;omega) hl ha.2 (by omega);simp only[List.append_assoc,List.singleton_append,List.length_append,List.length_singleton,Int.natCast_add] at ih;rw[esval_0];simp only[List.length_append,List.length_cons,Int.toNat_natCast,getD_mid]
  simp(disch:=omega) only[cdT,gdT,gd_nil];cases hb:lower c.1==lower t1
  ·simp(disch:=first|omega|assumption|exact ha.1) only[gdT,gdB,gd_nil,inK_i64,cond_false];simp only[valueN,hb,cond_false];exact ih
  ·simp(disch:=first|omega|assumption|exact ha.1) only[gdB,gd_nil,cond_true];simp only[valueN,hb,cond_true]
theorem sval_n (r:Ty.Den ReqT) (s:List UInt8) (h:valueP r.2.2.2.1 s=true):osval (r,s,())=some ((valueN r.2.2.2.1 s).1,(valueN r.2.2.2.1 s).2,()):=by
 unfold valueP at h;simp only[Bool.and_eq_true,decide_eq_true_eq] at h;rw[osval_g,esval_g];exact sval_l s [] false h.2.1 _ r.2.2.2.1 [] heads0 (by simp) h.1 h.2.2 (by unfold heads0;omega)
theorem cut_n (s:List UInt8) (n:Int) (h:0≤n):ocut (s,n,())=some (cut s n,()):=by
 rw[ocut_g,ecut_g];rw[gdT (by omega),gdT (Int.min_le_left _ _),gd_nil];have:List.take (min (s.length:Int) n).toNat s=cut s n:=by
  unfold cut;by_cases hn:n≤s.length
  ·rw[Int.min_eq_right hn]
  ·rw[Int.min_eq_left (by omega),List.take_of_length_le (by simp),List.take_of_length_le (by omega)]
 rw[this]
theorem numV_snoc (s:List UInt8) (c:UInt8):numV (s++[c])=numV s*10+(c.toNat-48):=by simp[numV]
theorem allDig_snoc {s:List UInt8} {c:UInt8} (h1:allDig s=true) (h2:isDig c=true):allDig (s++[c])=true:=by simp only[allDig,List.all_append,List.all_cons,List.all_nil,Bool.and_true,Bool.and_eq_true] at h1⊢;exact⟨h1,h2⟩
end Go.Proofs.YtldllfocpadkeaaGreatDoor
namespace Nice
open Go Go.Eng
def valF (a:Nat) (s:List UInt8):Nat:=s.foldl (fun n c=>n*10+(c.toNat-48)) a
theorem valF_ge:∀(s:List UInt8) (a:Nat),a≤valF a s
 |[],a=>Nat.le_refl _
 |c::r,a=>by
  have:=valF_ge r (a*10+(c.toNat-48));show a≤valF (a*10+(c.toNat-48)) r;omega
theorem parse_dig64:∀(s:List UInt8) (a:Nat),allDig s=true→a≤18446744073709551615→
  (valF a s≤18446744073709551615→Lib.parseUintM 18446744073709551615 a s=.ok (valF a s))∧(18446744073709551615<valF a s→Lib.parseUintM 18446744073709551615 a s=.range)
 |[],a,_,ha=>⟨fun _=>rfl,fun h=>by simp only[valF,List.foldl_nil] at h;omega⟩
 |c::r,a,h,ha=>by
  simp only[allDig,List.all_cons,Bool.and_eq_true] at h;have hd:=isDig_iff.1 h.1;have hv:valF a (c::r)=valF (a*10+(c.toNat-48)) r:=rfl;have hg:=valF_ge r (a*10+(c.toNat-48));rw[hv];simp only[Lib.parseUintM,if_pos hd];by_cases h1:1844674407370955162≤a
  ·rw[if_pos h1];exact⟨fun h=>by omega,fun _=>rfl⟩
  ·rw[if_neg h1];by_cases h2:18446744073709551615<a*10+(c.toNat-48)
   ·rw[if_pos h2];exact⟨fun h=>by omega,fun _=>rfl⟩
   ·rw[if_neg h2];exact parse_dig64 r _ h.2 (by omega)
theorem intN_dig {s:List UInt8} (h:allDig s=true) (h1:s≠[]):(numV s<9223372036854775808→intN s=((numV s:Int),true))∧(9223372036854775808≤numV s→(intN s).2=false):=by
 cases s with
 |nil=>exact absurd rfl h1
 |cons c r=>
  have hd:48≤c.toNat∧c.toNat≤57:=by
   simp only[allDig,List.all_cons,Bool.and_eq_true] at h;exact isDig_iff.1 h.1
  obtain⟨p1,p2⟩:=parse_dig64 (c::r) 0 h (by omega);have hv:valF 0 (c::r)=numV (c::r):=rfl;rw[hv] at p1 p2;have e43:¬(c.toNat=43∨c.toNat=45):=by omega
  have eB:Lib.parseUintB 64 (c::r)=Lib.parseUintM 18446744073709551615 0 (c::r):=by
   unfold Lib.parseUintB;rw[if_neg (by simp)]
  have e45:¬c.toNat=45:=by omega
  by_cases hr:numV (c::r)≤18446744073709551615
  ·have e:Lib.parseIntB 64 (c::r)=if 9223372036854775808≤numV (c::r) then .range else .ok (numV (c::r):Int):=by
    rw[Lib.parseIntB_plain 64 c r (by omega) (by omega),eB,p1 hr];rfl
   constructor
   ·intro hlt;unfold intN;rw[e,if_neg (by omega)]
   ·intro hge;unfold intN;rw[e,if_pos hge]
  ·have e:Lib.parseIntB 64 (c::r)=.range:=by
    rw[Lib.parseIntB_plain 64 c r (by omega) (by omega),eB,p2 (by omega)];rfl
   constructor
   ·intro hlt;omega
   ·intro _;unfold intN;rw[e]
end Nice
namespace Nice
open Go Go.Eng
def finW (x:Nat):Bool:=match FloatKind.f64.decode x with
 | .nan _ _=>false
 |_=>true
def truncW (x:Nat):Nat:=FloatKind.f64.encode ((FloatKind.f64.decode x).integral .zero)
def wholeW (x a b:Nat):Bool:=fRel .geq .f64 x a&&(fRel .leq .f64 x b&&fRel .eql .f64 x (truncW x))
theorem log_le {n k:Nat} (h1:1≤n) (h2:n<2^(k+1)):n.log2≤k:=by
 have:=(Nat.log2_lt (by omega:n≠0)).2 h2;omega
theorem cut_zero (way:Ieee.Toward) (n:Nat):way.cut false n 0=n:=by
 unfold Ieee.Toward.cut;have e:(1<<<min 0 (n.log2+2):Nat)=1:=by rw[Nat.zero_min];rfl
 simp only[e,Nat.div_one,Nat.mod_one,Nat.mul_zero];cases way<;>simp
theorem word_false (f:Ieee.Format) (x:Nat):f.word false x=x:=rfl
theorem nearest_pos {n:Nat} (h1:1≤n) (h2:n<2^53):FloatKind.f64.nearest (n:Int)=(n.log2+1022)*2^52+n*2^(52-n.log2):=by
 have hL:=log_le h1 h2;have hlo:=Nat.log2_self_le (by omega:n≠0);have hhi:=(Nat.log2_lt (by omega:n≠0)).1 (Nat.lt_succ_self n.log2);have e0:decide ((n:Int)<0)=false:=by rw[decide_eq_false_iff_not];omega
 show Ieee.Format.nearest Ieee.double (decide ((n:Int)<0)) (n:Int).natAbs 0=_;rw[e0,Int.natAbs_natCast];unfold Ieee.Format.nearest;rw[if_neg (by omega)];have hlp:Ieee.double.leastPlace= -1074:=by decide
 have hmax:max ((0:Int)+n.log2-(Ieee.double.fractionBits:Nat)) Ieee.double.leastPlace=(n.log2:Int)-52:=by
  rw[hlp];show max ((0:Int)+n.log2-52) (-1074)=_;omega
 simp only[hmax];rw[hlp];have e1:((n.log2:Int)-52-0).toNat=0:=by omega
 have e2:((0:Int)-((n.log2:Int)-52)).toNat=52-n.log2:=by omega
 have e3:((n.log2:Int)-52- -1074).toNat=n.log2+1022:=by omega
 rw[e1,e2,e3,cut_zero,Nat.shiftLeft_eq];have hb:Ieee.double.binade=2^52:=rfl;have hi:Ieee.double.infRung=2047*2^52:=by decide
 rw[hb,hi];have hk:n*2^(52-n.log2)<2^53:=by
  calc n*2^(52-n.log2)<2^(n.log2+1)*2^(52-n.log2):=Nat.mul_lt_mul_of_pos_right hhi (Nat.two_pow_pos _)
   _=2^53:=by rw[←Nat.pow_add];congr 1;omega
 rw[word_false];apply Nat.min_eq_left;omega
theorem decode_nearest {n:Nat} (h1:1≤n) (h2:n<2^53):FloatKind.f64.decode (FloatKind.f64.nearest (n:Int))=.number false (n*2^(52-n.log2)) ((n.log2:Int)-52):=by
 have hL:=log_le h1 h2;have hlo:=Nat.log2_self_le (by omega:n≠0);have hhi:=(Nat.log2_lt (by omega:n≠0)).1 (Nat.lt_succ_self n.log2);rw[nearest_pos h1 h2];have hk:n*2^(52-n.log2)<2^53:=by
  calc n*2^(52-n.log2)<2^(n.log2+1)*2^(52-n.log2):=Nat.mul_lt_mul_of_pos_right hhi (Nat.two_pow_pos _)
   _=2^53:=by rw[←Nat.pow_add];congr 1;omega
 have hg:2^52≤n*2^(52-n.log2):=by
  calc 2^52=2^n.log2*2^(52-n.log2):=by rw[←Nat.pow_add];congr 1;omega
   _≤n*2^(52-n.log2):=Nat.mul_le_mul_right _ hlo
 generalize n*2^(52-n.log2)=m at hk hg⊢;have hs:Ieee.double.signWeight=2^63:=rfl;have hb:Ieee.double.binade=2^52:=rfl;have hi:Ieee.double.infRung=2047*2^52:=by decide
 have hlp:Ieee.double.leastPlace= -1074:=by decide
 show Ieee.Format.read Ieee.double ((n.log2+1022)*2^52+m)=_;unfold Ieee.Format.read;simp only[hs,hb,hi,hlp];have q1:((n.log2+1022)*2^52+m)/2^63%2=0:=by omega
 have q2:((n.log2+1022)*2^52+m)%2^63=(n.log2+1022)*2^52+m:=by omega
 rw[q1,q2,if_neg (by omega),if_pos (by omega)];have q3:2^52+((n.log2+1022)*2^52+m)%2^52=m:=by omega
 have q4:((n.log2+1022)*2^52+m)/2^52-1=n.log2+1022:=by omega
 rw[q3,q4];have q5:(-1074:Int)+((n.log2+1022:Nat):Int)=(n.log2:Int)-52:=by omega
 rw[q5];rfl
theorem trunc_nearest {n:Nat} (h1:1≤n) (h2:n<2^53):truncW (FloatKind.f64.nearest (n:Int))=FloatKind.f64.nearest (n:Int):=by
 have hL:=log_le h1 h2;unfold truncW;rw[decode_nearest h1 h2];unfold Ieee.Datum.integral Ieee.Toward.cut;have e1:((n.log2:Int)-52).toNat=0:=by omega
 have e2:(-((n.log2:Int)-52)).toNat=52-n.log2:=by omega
 simp only[e1,e2,Nat.shiftLeft_zero,Bool.toNat_false,Nat.add_zero];have hg:(1<<<min (52-n.log2) ((n*2^(52-n.log2)).log2+2):Nat)=2^(52-n.log2):=by
  rw[Nat.shiftLeft_eq,Nat.one_mul,Nat.min_eq_left];have:2^(52-n.log2)≤n*2^(52-n.log2):=Nat.le_mul_of_pos_left _ h1;have:=(Nat.le_log2 (Nat.ne_of_gt (Nat.lt_of_lt_of_le (Nat.two_pow_pos _) this))).2 this;omega
 rw[hg,Nat.mul_div_cancel _ (Nat.two_pow_pos _)];have e0:decide ((n:Int)<0)=false:=by rw[decide_eq_false_iff_not];omega
 show _=Ieee.Format.nearest Ieee.double (decide ((n:Int)<0)) (n:Int).natAbs 0;rw[e0,Int.natAbs_natCast];rfl
theorem order_self (s:Bool) (m:Nat) (i:Int):Ieee.Datum.order (.number s m i) (.number s m i)=some .eq:=by
 unfold Ieee.Datum.order;simp
theorem whole_n {n:Nat} (h:n<65536):finW (FloatKind.f64.nearest (n:Int))=true∧wholeW (FloatKind.f64.nearest (n:Int)) 0 4679237813814689792=decide (n<65521):=by
 rcases Nat.eq_zero_or_pos n with rfl|h1
 ·decide
 have h2:n<2^53:=by omega
 have hd:=decode_nearest h1 h2;have hL:n.log2≤15:=log_le h1 (by omega);refine⟨by unfold finW;rw[hd],?_⟩;have hz:FloatKind.f64.decode 0=.number false 0 (-1074):=by decide
 have hw:FloatKind.f64.decode 4679237813814689792=.number false (65520*2^37) (-37):=by decide
 have o1:FloatKind.f64.format.order (FloatKind.f64.nearest (n:Int)) 0=some .gt:=by
  show Ieee.Datum.order (FloatKind.f64.decode (FloatKind.f64.nearest (n:Int))) (FloatKind.f64.decode 0)=_;rw[hd,hz];unfold Ieee.Datum.order Ieee.signed;have hm:min ((n.log2:Int)-52) (-1074)= -1074:=by omega
  simp only[hm,Bool.false_eq_true,if_false,Nat.shiftLeft_eq,Nat.zero_mul];congr 1;rw[Int.compare_eq_gt];have:0<n*2^(52-n.log2)*2^((n.log2:Int)-52- -1074).toNat:=Nat.mul_pos (Nat.mul_pos h1 (Nat.two_pow_pos _)) (Nat.two_pow_pos _);omega
 have o2:FloatKind.f64.format.order (FloatKind.f64.nearest (n:Int)) 4679237813814689792=some (compare n 65520):=by
  show Ieee.Datum.order (FloatKind.f64.decode (FloatKind.f64.nearest (n:Int))) (FloatKind.f64.decode 4679237813814689792)=_;rw[hd,hw];unfold Ieee.Datum.order Ieee.signed;have hm:min ((n.log2:Int)-52) (-37)=(n.log2:Int)-52:=by omega
  have e1:((n.log2:Int)-52-((n.log2:Int)-52)).toNat=0:=by omega
  have e2:((-37:Int)-((n.log2:Int)-52)).toNat=15-n.log2:=by omega
  simp only[hm,e1,e2,Bool.false_eq_true,if_false,Nat.shiftLeft_eq,Nat.pow_zero,Nat.mul_one];have e3:65520*2^37*2^(15-n.log2)=65520*2^(52-n.log2):=by
   rw[Nat.mul_assoc,←Nat.pow_add];congr 2;omega
  rw[e3];congr 1;have hp:=Nat.two_pow_pos (52-n.log2);generalize 2^(52-n.log2)=q at hp;rcases Nat.lt_trichotomy n 65520 with hlt|heq|hgt
  ·rw[Nat.compare_eq_lt.2 hlt,Int.compare_eq_lt];exact Int.ofNat_lt.2 (Nat.mul_lt_mul_of_pos_right hlt hp)
  ·rw[Nat.compare_eq_eq.2 heq,Int.compare_eq_eq,heq]
  ·rw[Nat.compare_eq_gt.2 hgt,Int.compare_eq_gt];exact Int.ofNat_lt.2 (Nat.mul_lt_mul_of_pos_right hgt hp)
 have o3:FloatKind.f64.format.order (FloatKind.f64.nearest (n:Int)) (FloatKind.f64.nearest (n:Int))=some .eq:=by
  show Ieee.Datum.order (FloatKind.f64.decode (FloatKind.f64.nearest (n:Int))) (FloatKind.f64.decode (FloatKind.f64.nearest (n:Int)))=_;rw[hd,order_self]
 unfold wholeW fRel;simp only[trunc_nearest h1 h2,o1,o2,o3];rcases Nat.lt_trichotomy n 65520 with hlt|heq|hgt
 ·rw[Nat.compare_eq_lt.2 hlt,decide_eq_true (by omega:n<65521)];rfl
 ·rw[Nat.compare_eq_eq.2 heq,decide_eq_true (by omega:n<65521)];rfl
 ·rw[Nat.compare_eq_gt.2 hgt,decide_eq_false (by omega:¬n<65521)];rfl
end Nice
namespace Nice
open Go Go.Eng
def isHx (c:UInt8):Bool:=decide (48≤c.toNat∧c.toNat≤57∨97≤c.toNat∧c.toNat≤102)
def hx (c:UInt8):Int:=bif decide (c.toNat≤57) then(c.toNat:Int)-48 else(c.toNat:Int)-87
def rdF:List UInt8→Nat→Int→Int→Option (Int×Int)
 |[],_,a,b=>some (a,b)
 |c::r,i,a,b=>bif isHx c then(bif decide (i<4) then rdF r (i+1) (a*16+hx c) b else rdF r (i+1) a (b*16+hx c)) else none
def rdZ (s:List UInt8):Option (Int×Int):=bif decide (s.length=8) then(match rdF s 0 0 0 with
 |some z=>bif decide (z.1<65521)&&decide (z.2<65521) then some z else none
 |none=>none) else none
def gRead (s:List UInt8):(Nat×Nat)×Bool:=match rdZ s with
 |some z=>((FloatKind.f64.nearest z.1,FloatKind.f64.nearest z.2),true)
 |none=>((0,0),false)
def rRead (s:List UInt8):(Int×Int×Unit)×Bool:=match rdZ s with
 |some z=>((z.1,z.2,()),true)
 |none=>((0,0,()),false)
def mayW (a b:Nat):Bool:=wholeW a 0 4679237813814689792&&wholeW b 0 4679237813814689792
noncomputable def archS:PSpec:=⟨[.f64],[.f64],fun x=>finW x.1,fun x=>(truncW x.1,())⟩
noncomputable def wholeS:PSpec:=⟨[.f64,.f64,.f64],[.bool],fun x=>finW x.1,fun x=>(wholeW x.1 x.2.1 x.2.2.1,())⟩
noncomputable def mayS:PSpec:=⟨[.cx],[.bool],fun x=>finW x.1.1&&finW x.1.2,fun x=>(mayW x.1.1 x.1.2,())⟩
noncomputable def gReadS:PSpec:=⟨[.str],[.cx,.bool],fun _=>true,fun x=>((gRead x.1).1,(gRead x.1).2,())⟩
end Nice
namespace Nice
open Go Go.Eng
def upTo (c:UInt8):List UInt8→List UInt8
 |[]=>[]
 |b::r=>bif b==c then [] else b::upTo c r
def hasB (c:UInt8) (s:List UInt8):Bool:=s.any (· ==c)
theorem upTo_len (c:UInt8):∀s,(upTo c s).length≤s.length
 |[]=>Nat.le_refl _
 |b::r=>by
  unfold upTo;cases b==c
  ·simpa using upTo_len c r
  ·simp
theorem upTo_lt (c:UInt8):∀s,hasB c s=true→(upTo c s).length<s.length
 |[],h=>by cases h
 |b::r,h=>by
  unfold upTo;simp only[hasB,List.any_cons] at h;cases hb:b==c
  ·rw[hb,Bool.false_or] at h;simpa using upTo_lt c r h
  ·simp
theorem upTo_take (c:UInt8):∀s,s.take (upTo c s).length=upTo c s
 |[]=>rfl
 |b::r=>by
  unfold upTo;cases b==c
  ·simp[upTo_take c r]
  ·rfl
theorem index1 (c:UInt8):∀s,Lib.index s [c]=bif hasB c s then((upTo c s).length:Int) else -1
 |[]=>rfl
 |b::r=>by
  have ih:=index1 c r;rw[Lib.index];simp only[hasB,List.any_cons] at ih⊢;unfold upTo;by_cases hb:b=c
  ·subst hb;simp[List.isPrefixOf]
  ·have h1:(b==c)=false:=by simpa using hb
   have h2:([c]:List UInt8).isPrefixOf (b::r)=false:=by simp[List.isPrefixOf,Ne.symm hb]
   rw[h1,h2,ih];cases r.any (· ==c)
   ·rfl
   ·simp only[cond_true,Bool.or_true,cond_false,List.length_cons];have:(((upTo c r).length:Int)== -1)=false:=by
     rw[beq_eq_false_iff_ne];omega
    rw[this];simp
theorem cut1 (c:UInt8) (s:List UInt8):Lib.cut s [c]=bif hasB c s then(upTo c s,s.drop ((upTo c s).length+1),true) else(s,[],false):=by
 unfold Lib.cut;rw[index1];cases hasB c s
 ·rfl
 ·simp only[cond_true];rw[if_pos (Int.natCast_nonneg _),Int.toNat_natCast,upTo_take];rfl
theorem split1_no (c:UInt8) (s:List UInt8) (h:hasB c s=false):Lib.split s [c]=[s]:=by
 have hi:Lib.index s [c]= -1:=by rw[index1,h];rfl
 unfold Lib.split;rw[Lib.count_miss hi];rfl
theorem split1_yes (c:UInt8) (s:List UInt8) (h:hasB c s=true):Lib.split s [c]=upTo c s::Lib.split (s.drop ((upTo c s).length+1)) [c]:=by
 have hi:Lib.index s [c]=((upTo c s).length:Nat):=by rw[index1,h];rfl
 have hc:Lib.count s [c]=1+Lib.count (s.drop ((upTo c s).length+1)) [c]:=by
  rw[Lib.count_hit (by simp) hi];rfl
 unfold Lib.split;rw[hc,Nat.add_comm,Lib.splitK];rw[hi];have:(((upTo c s).length:Int)== -1)=false:=by rw[beq_eq_false_iff_ne];omega
 rw[this];simp only[Bool.false_eq_true,if_false,Int.toNat_natCast,Nat.add_zero,List.length_singleton];rw[upTo_take]
abbrev AskD:Type:=Int×List UInt8×Int×List UInt8×Int×List UInt8×List UInt8×List UInt8×Int×Bool×Unit
def wPre:List UInt8:=[112,114,101,102,105,120]
def wAft:List UInt8:=[97,102,116,101,114]
def wMax:List UInt8:=[109,97,120]
def wVer:List UInt8:=[118,101,114,115,105,111,110,115]
def eqS (s:List UInt8):List UInt8:=s++[61]
def keyB (v:List UInt8):Bool:=v==[]||isKey v
def setPre (a:AskD) (v:List UInt8):AskD:=(a.1,a.2.1,a.2.2.1,a.2.2.2.1,a.2.2.2.2.1,a.2.2.2.2.2.1,v,a.2.2.2.2.2.2.2)
def setAft (a:AskD) (v:List UInt8):AskD:=(a.1,a.2.1,a.2.2.1,a.2.2.2.1,a.2.2.2.2.1,a.2.2.2.2.2.1,a.2.2.2.2.2.2.1,v,a.2.2.2.2.2.2.2.2)
def setMax (a:AskD) (n:Int):AskD:=(a.1,a.2.1,a.2.2.1,a.2.2.2.1,a.2.2.2.2.1,a.2.2.2.2.2.1,a.2.2.2.2.2.2.1,a.2.2.2.2.2.2.2.1,n,a.2.2.2.2.2.2.2.2.2)
def setKind (a:AskD) (n:Int):AskD:=(n,a.2)
end Nice
namespace Nice
open Go Go.Eng
def inmW:List UInt8:=[73,102,45,78,111,110,101,45,77,97,116,99,104]
def imW:List UInt8:=[73,102,45,77,97,116,99,104]
def putW:List UInt8:=[80,85,84]
def delW:List UInt8:=[68,69,76,69,84,69]
abbrev HeadL:Type:=List (List UInt8×List UInt8×Unit)
abbrev ReqW:Type:=List UInt8×List UInt8×List UInt8×HeadL×List UInt8×Unit
def idxG (x:List UInt8):List (List UInt8)→Int→Int
 |[],_=> -1
 |y::r,k=>bif x==y then k else idxG x r (k+1)
def idxS (l:List (List UInt8)) (x:List UInt8):Int:=idxG x l 0
def hasS (l:List (List UInt8)) (x:List UInt8):Bool:=l.any fun y=>x==y
def splitN (q:List UInt8):List (List UInt8):=Lib.split q [38]
def cutE (p:List UInt8):List UInt8×List UInt8×Bool:=Lib.cut p [61]
def shortS (s:List UInt8):Bool:=decide (s.length<4294967281)
def condsP (l:HeadL):Bool:=(valueP l inmW&&valueP l imW)&&bndS (valueN l imW).1
def tagA (s:List UInt8):List UInt8×Bool:=((cutSuf (cutPre s [34]).1 [34]).1,(cutPre s [34]).2&&((cutSuf (cutPre s [34]).1 [34]).2&&(gRead (cutSuf (cutPre s [34]).1 [34]).1).2))
def condsN (l:HeadL):Int×List UInt8×Bool:=
 bif (valueN l inmW).2 then(bif (valueN l imW).2 then(0,[],false) else(1,[],(valueN l inmW).1==[42]))
 else bif (valueN l imW).2 then(2,(tagA (valueN l imW).1).1,(tagA (valueN l imW).1).2) else(0,[],true)
def setPut (a:AskD) (b:List UInt8) (c:Int) (t:List UInt8):AskD:=(2,a.2.1,a.2.2.1,b,c,t,a.2.2.2.2.2.2)
def setKV (a:AskD) (k v:Int):AskD:=(k,a.2.1,v,a.2.2.2)
def verN (q:List UInt8):Int×Bool:=((numN (cutPre q vPre).1 (cutPre q vPre).1.length 1 1099511627776).1,(numN (cutPre q vPre).1 (cutPre q vPre).1.length 1 1099511627776).2&&((cutPre q vPre).2&& !((cutPre q vPre).1.getD 0 0==48)))
def keyedG (a:AskD) (m q:List UInt8) (hs:HeadL) (b:List UInt8):AskD×Bool:=
 bif isKey a.2.1 then
  bif m==putW then(setPut a b (condsN hs).1 (condsN hs).2.1,(condsN hs).2.2&&q==[])
  else bif q==[] then(setKV a (bif m==delW then 3 else 1) a.2.2.1,true)
  else(setKV a (bif m==delW then 3 else 1) (verN q).1,(verN q).2)
 else(a,false)
def lset (n v:List UInt8) (a:AskD):AskD×Bool:=
 bif n==wPre then(setPre a v,keyB v)
 else bif n==wAft then(setAft a v,keyB v)
 else bif n==wMax then(setMax a (numN v 2 1 20).1,(numN v 2 1 20).2)
 else bif n==wVer then(setKind a 5,v==[49])
 else(a,false)
def listedGo:List (List UInt8)→List (List UInt8)→AskD→AskD×Bool
 |[],_,a=>(a,true)
 |p::r,seen,a=>
  bif (cutE p).2.2 then
   bif hasS seen (cutE p).1 then(a,false)
   else bif (lset (cutE p).1 (cutE p).2.1 a).2 then listedGo r (seen++[(cutE p).1]) (lset (cutE p).1 (cutE p).2.1 a).1
   else((lset (cutE p).1 (cutE p).2.1 a).1,false)
  else(a,false)
def listedN (a:AskD) (q:List UInt8):AskD×Bool:=bif q==[] then(setMax (setKind a 4) 20,true) else listedGo (splitN q) [] (setMax (setKind a 4) 20)
noncomputable def hasSufT:PSpec:=⟨[.str,.str],[.bool],fun x=>bndS x.1,fun x=>(hasSuf x.1 x.2.1,())⟩
noncomputable def cutSufT:PSpec:=⟨[.str,.str],[.str,.bool],fun x=>bndS x.1,fun x=>((cutSuf x.1 x.2.1).1,(cutSuf x.1 x.2.1).2,())⟩
noncomputable def splitS:PSpec:=⟨[.str,.str],[.slice .str],fun x=>shortS x.1&&x.2.1==[38],fun x=>(splitN x.1,())⟩
noncomputable def cutES:PSpec:=⟨[.str,.str],[.str,.str,.bool],fun x=>shortS x.1&&x.2.1==[61],fun x=>((cutE x.1).1,(cutE x.1).2.1,(cutE x.1).2.2,())⟩
noncomputable def idxSS:PSpec:=⟨[.slice .str,.str],[.int .i64],fun x=>decide (x.1.length≤1000),fun x=>(idxS x.1 x.2.1,())⟩
noncomputable def hasSS:PSpec:=⟨[.slice .str,.str],[.bool],fun x=>decide (x.1.length≤1000),fun x=>(hasS x.1 x.2.1,())⟩
noncomputable def condsS:PSpec:=⟨[ReqT],[.int .i64,.str,.bool],fun x=>condsP x.1.2.2.2.1,fun x=>((condsN x.1.2.2.2.1).1,(condsN x.1.2.2.2.1).2.1,(condsN x.1.2.2.2.1).2.2,())⟩
noncomputable def keyedGS:PSpec:=⟨[AskT,ReqT],[AskT,.bool],fun x=>condsP x.2.1.2.2.2.1&&(bndS x.2.1.2.2.1&&bndS x.1.2.1),fun x=>((keyedG x.1 x.2.1.1 x.2.1.2.2.1 x.2.1.2.2.2.1 x.2.1.2.2.2.2.1).1,(keyedG x.1 x.2.1.1 x.2.1.2.2.1 x.2.1.2.2.2.1 x.2.1.2.2.2.2.1).2,())⟩
noncomputable def listedS:PSpec:=⟨[AskT,.str],[AskT,.bool],fun x=>shortS x.2.1,fun x=>((listedN x.1 x.2.1).1,(listedN x.1 x.2.1).2,())⟩
end Nice
namespace Nice
open Go Go.Eng
def ePre:List UInt8:=[112,114,101,102,105,120,61]
def eAft:List UInt8:=[97,102,116,101,114,61]
def eMax:List UInt8:=[109,97,120,61]
def getW:List UInt8:=[71,69,84]
def headW:List UInt8:=[72,69,65,68]
def oW:List UInt8:=[47,111]
def ooW:List UInt8:=[47,111,47]
abbrev SeenD:Type:=Bool×Bool×Bool×Bool
end Nice
namespace Go.Proofs.YtldllfocpadkeaaGreatDoor
open Go Go.Eng Nice
set_option maxRecDepth 1000000
abbrev shwhole:List (Nat×List (Nat×Sh)):=[]
noncomputable def owhole (x:DenL [.f64,.f64,.f64]):Option (DenL [.bool]):=fO Tryz.prog (envS [(318,archS)]) (shOf shwhole) Tryz.f269 [.f64,.f64,.f64] [.bool] x
theorem ewhole_g (N:Nat) (x0 x1 x2:Nat):fON Tryz.prog (envS [(318,archS)]) (shOf shwhole) Tryz.f269 [.f64,.f64,.f64] [.bool] N (x0,x1,x2,())=
 (bif fRel BinOp.geq FloatKind.f64 x0 x1 then
  (bif fRel BinOp.leq FloatKind.f64 x0 x2 then
   (bif fRel BinOp.eql FloatKind.f64 x0 (truncW x0) then
    (gd [finW x0] (some (true,())))
   else
    (gd [finW x0] (some (false,()))))
  else
   (some (false,())))
 else
  (some (false,()))):=by kernel_rfl
theorem owhole_g (x:DenL [.f64,.f64,.f64]):owhole x=fON Tryz.prog (envS [(318,archS)]) (shOf shwhole) Tryz.f269 [.f64,.f64,.f64] [.bool] heads0 x:=rfl
abbrev shgmay:List (Nat×List (Nat×Sh)):=[]
noncomputable def ogmay (x:DenL [.cx]):Option (DenL [.bool]):=fO Tryz.prog (envS [(269,wholeS)]) (shOf shgmay) Tryz.f201 [.cx] [.bool] x
theorem egmay_g (N:Nat) (x0:Nat×Nat):fON Tryz.prog (envS [(269,wholeS)]) (shOf shgmay) Tryz.f201 [.cx] [.bool] N (x0,())=
 (bif wholeW x0.fst 0 4679237813814689792 then
  (bif wholeW x0.snd 0 4679237813814689792 then
   (gd [finW x0.snd,finW x0.fst] (some (true,())))
  else
   (gd [finW x0.snd,finW x0.fst] (some (false,()))))
 else
  (gd [finW x0.fst] (some (false,())))):=by kernel_rfl
theorem ogmay_g (x:DenL [.cx]):ogmay x=fON Tryz.prog (envS [(269,wholeS)]) (shOf shgmay) Tryz.f201 [.cx] [.bool] heads0 x:=rfl
abbrev shgread:List (Nat×List (Nat×Sh)):=[(5,[(0,(.one .sym)),(2,(.one .any)),(3,(.one .sym)),(4,(.obj [.sym,.sym])),(12,(.one .sym)),(13,(.one .sym))])]
noncomputable def hgread_0 (n:Nat) (t0:List UInt8) (t3:Bool) (t4_0:Int) (t4_1:Int) (t12:Int) (t13:Int):Option (DenL [.cx,.bool]):=rH Tryz.prog (envS [(201,mayS)]) (shOf shgread) Tryz.f193 [.cx,.bool] n 0 [(0,sy (.string (bs t0))),(2,Value.complex FloatKind.f64 0 0),(3,.bool t3),(4,.pointer (some ⟨10,0,none⟩)),(12,sy (.int .i64 t12)),(13,sy (.int .i64 t13))] [.row [sy (.int .i64 t4_0),sy (.int .i64 t4_1)] 305 false]
noncomputable def ogread (x:DenL [.str]):Option (DenL [.cx,.bool]):=fO Tryz.prog (envS [(201,mayS)]) (shOf shgread) Tryz.f193 [.str] [.cx,.bool] x
theorem egread_g (N:Nat) (x0:List UInt8):fON Tryz.prog (envS [(201,mayS)]) (shOf shgread) Tryz.f193 [.str] [.cx,.bool] N (x0,())=
 (bif (↑x0.length:Int) !=(8:Int) then
  (some ((0,0),false,()))
 else
  (hgread_0 N (x0) (false) ((0:Int)) ((0:Int)) ((↑x0.length:Int)) ((0:Int)))):=by kernel_rfl
theorem ogread_g (x:DenL [.str]):ogread x=fON Tryz.prog (envS [(201,mayS)]) (shOf shgread) Tryz.f193 [.str] [.cx,.bool] heads0 x:=rfl
theorem egread_0 (n:Nat) (t0:List UInt8) (t3:Bool) (t4_0:Int) (t4_1:Int) (t12:Int) (t13:Int):hgread_0 (n+1) t0 t3 t4_0 t4_1 t12 t13=
 (bif decide (t13<t12) then
  (gd [decide (inK .i64 (↑(t0.getD t13.toNat 0).toNat:Int)),decide ((0:Int)≤t13),decide (t13<(↑t0.length:Int))] (bif decide ((↑(t0.getD t13.toNat 0).toNat:Int)≥(48:Int)) then
   (bif decide ((↑(t0.getD t13.toNat 0).toNat:Int)≤(57:Int)) then
    (gd [decide (inK .i64 ((↑(t0.getD t13.toNat 0).toNat:Int)-(48:Int)))] (bif t13.tdiv ((4:Int))==(0:Int) then
     (bif t13.tdiv ((4:Int))==(0:Int) then
      (gd [decide (inK .i64 (t13+(1:Int))),decide (inK .i64 (t4_0*(16:Int)+((↑(t0.getD t13.toNat 0).toNat:Int)-(48:Int)))),decide (inK .i64 (t4_0*(16:Int))),decide (inK .i64 (t13.tdiv ((4:Int)))),decide (inK .i64 (t13.tdiv ((4:Int))))] (hgread_0 n (t0) (t3) (t4_0*(16:Int)+((↑(t0.getD t13.toNat 0).toNat:Int)-(48:Int))) (t4_1) (t12) (t13+(1:Int))))
     else
      (gd [decide (inK .i64 (t13+(1:Int))),decide (inK .i64 (t4_0*(16:Int)+((↑(t0.getD t13.toNat 0).toNat:Int)-(48:Int)))),decide (inK .i64 (t4_0*(16:Int))),decide (inK .i64 (t13.tdiv ((4:Int)))),decide (inK .i64 (t13.tdiv ((4:Int)))),t13.tdiv ((4:Int))==(1:Int)] (hgread_0 n (t0) (t3) (t4_0) (t4_0*(16:Int)+((↑(t0.getD t13.toNat 0).toNat:Int)-(48:Int))) (t12) (t13+(1:Int)))))
    else
     (gd [t13.tdiv ((4:Int))==(1:Int)] (bif t13.tdiv ((4:Int))==(0:Int) then
      (gd [decide (inK .i64 (t13+(1:Int))),decide (inK .i64 (t4_1*(16:Int)+((↑(t0.getD t13.toNat 0).toNat:Int)-(48:Int)))),decide (inK .i64 (t4_1*(16:Int))),decide (inK .i64 (t13.tdiv ((4:Int)))),decide (inK .i64 (t13.tdiv ((4:Int))))] (hgread_0 n (t0) (t3) (t4_1*(16:Int)+((↑(t0.getD t13.toNat 0).toNat:Int)-(48:Int))) (t4_1) (t12) (t13+(1:Int))))
     else
      (gd [decide (inK .i64 (t13+(1:Int))),decide (inK .i64 (t4_1*(16:Int)+((↑(t0.getD t13.toNat 0).toNat:Int)-(48:Int)))),decide (inK .i64 (t4_1*(16:Int))),decide (inK .i64 (t13.tdiv ((4:Int)))),decide (inK .i64 (t13.tdiv ((4:Int)))),t13.tdiv ((4:Int))==(1:Int)] (hgread_0 n (t0) (t3) (t4_0) (t4_1*(16:Int)+((↑(t0.getD t13.toNat 0).toNat:Int)-(48:Int))) (t12) (t13+(1:Int))))))))
   else
    (bif decide ((↑(t0.getD t13.toNat 0).toNat:Int)≥(97:Int)) then
     (bif decide ((↑(t0.getD t13.toNat 0).toNat:Int)≤(102:Int)) then
      (gd [decide (inK .i64 ((↑(t0.getD t13.toNat 0).toNat:Int)-(87:Int)))] (bif t13.tdiv ((4:Int))==(0:Int) then
       (bif t13.tdiv ((4:Int))==(0:Int) then
        (gd [decide (inK .i64 (t13+(1:Int))),decide (inK .i64 (t4_0*(16:Int)+((↑(t0.getD t13.toNat 0).toNat:Int)-(87:Int)))),decide (inK .i64 (t4_0*(16:Int))),decide (inK .i64 (t13.tdiv ((4:Int)))),decide (inK .i64 (t13.tdiv ((4:Int))))] (hgread_0 n (t0) (t3) (t4_0*(16:Int)+((↑(t0.getD t13.toNat 0).toNat:Int)-(87:Int))) (t4_1) (t12) (t13+(1:Int))))
       else
        (gd [decide (inK .i64 (t13+(1:Int))),decide (inK .i64 (t4_0*(16:Int)+((↑(t0.getD t13.toNat 0).toNat:Int)-(87:Int)))),decide (inK .i64 (t4_0*(16:Int))),decide (inK .i64 (t13.tdiv ((4:Int)))),decide (inK .i64 (t13.tdiv ((4:Int)))),t13.tdiv ((4:Int))==(1:Int)] (hgread_0 n (t0) (t3) (t4_0) (t4_0*(16:Int)+((↑(t0.getD t13.toNat 0).toNat:Int)-(87:Int))) (t12) (t13+(1:Int)))))
      else
       (gd [t13.tdiv ((4:Int))==(1:Int)] (bif t13.tdiv ((4:Int))==(0:Int) then
        (gd [decide (inK .i64 (t13+(1:Int))),decide (inK .i64 (t4_1*(16:Int)+((↑(t0.getD t13.toNat 0).toNat:Int)-(87:Int)))),decide (inK .i64 (t4_1*(16:Int))),decide (inK .i64 (t13.tdiv ((4:Int)))),decide (inK .i64 (t13.tdiv ((4:Int))))] (hgread_0 n (t0) (t3) (t4_1*(16:Int)+((↑(t0.getD t13.toNat 0).toNat:Int)-(87:Int))) (t4_1) (t12) (t13+(1:Int))))
       else
        (gd [decide (inK .i64 (t13+(1:Int))),decide (inK .i64 (t4_1*(16:Int)+((↑(t0.getD t13.toNat 0).toNat:Int)-(87:Int)))),decide (inK .i64 (t4_1*(16:Int))),decide (inK .i64 (t13.tdiv ((4:Int)))),decide (inK .i64 (t13.tdiv ((4:Int)))),t13.tdiv ((4:Int))==(1:Int)] (hgread_0 n (t0) (t3) (t4_0) (t4_1*(16:Int)+((↑(t0.getD t13.toNat 0).toNat:Int)-(87:Int))) (t12) (t13+(1:Int))))))))
     else
      (some ((0,0),false,())))
    else
     (some ((0,0),false,()))))
  else
   (bif decide ((↑(t0.getD t13.toNat 0).toNat:Int)≥(97:Int)) then
    (bif decide ((↑(t0.getD t13.toNat 0).toNat:Int)≤(102:Int)) then
     (gd [decide (inK .i64 ((↑(t0.getD t13.toNat 0).toNat:Int)-(87:Int)))] (bif t13.tdiv ((4:Int))==(0:Int) then
      (bif t13.tdiv ((4:Int))==(0:Int) then
       (gd [decide (inK .i64 (t13+(1:Int))),decide (inK .i64 (t4_0*(16:Int)+((↑(t0.getD t13.toNat 0).toNat:Int)-(87:Int)))),decide (inK .i64 (t4_0*(16:Int))),decide (inK .i64 (t13.tdiv ((4:Int)))),decide (inK .i64 (t13.tdiv ((4:Int))))] (hgread_0 n (t0) (t3) (t4_0*(16:Int)+((↑(t0.getD t13.toNat 0).toNat:Int)-(87:Int))) (t4_1) (t12) (t13+(1:Int))))
      else
       (gd [decide (inK .i64 (t13+(1:Int))),decide (inK .i64 (t4_0*(16:Int)+((↑(t0.getD t13.toNat 0).toNat:Int)-(87:Int)))),decide (inK .i64 (t4_0*(16:Int))),decide (inK .i64 (t13.tdiv ((4:Int)))),decide (inK .i64 (t13.tdiv ((4:Int)))),t13.tdiv ((4:Int))==(1:Int)] (hgread_0 n (t0) (t3) (t4_0) (t4_0*(16:Int)+((↑(t0.getD t13.toNat 0).toNat:Int)-(87:Int))) (t12) (t13+(1:Int)))))
     else
      (gd [t13.tdiv ((4:Int))==(1:Int)] (bif t13.tdiv ((4:Int))==(0:Int) then
       (gd [decide (inK .i64 (t13+(1:Int))),decide (inK .i64 (t4_1*(16:Int)+((↑(t0.getD t13.toNat 0).toNat:Int)-(87:Int)))),decide (inK .i64 (t4_1*(16:Int))),decide (inK .i64 (t13.tdiv ((4:Int)))),decide (inK .i64 (t13.tdiv ((4:Int))))] (hgread_0 n (t0) (t3) (t4_1*(16:Int)+((↑(t0.getD t13.toNat 0).toNat:Int)-(87:Int))) (t4_1) (t12) (t13+(1:Int))))
      else
       (gd [decide (inK .i64 (t13+(1:Int))),decide (inK .i64 (t4_1*(16:Int)+((↑(t0.getD t13.toNat 0).toNat:Int)-(87:Int)))),decide (inK .i64 (t4_1*(16:Int))),decide (inK .i64 (t13.tdiv ((4:Int)))),decide (inK .i64 (t13.tdiv ((4:Int)))),t13.tdiv ((4:Int))==(1:Int)] (hgread_0 n (t0) (t3) (t4_0) (t4_1*(16:Int)+((↑(t0.getD t13.toNat 0).toNat:Int)-(87:Int))) (t12) (t13+(1:Int))))))))
    else
     (some ((0,0),false,())))
   else
    (some ((0,0),false,())))))
 else
  (bif mayW (FloatKind.f64.nearest t4_0) (FloatKind.f64.nearest t4_1) then
   (gd [finW (FloatKind.f64.nearest t4_0)&&finW (FloatKind.f64.nearest t4_1)] (some ((FloatKind.f64.nearest t4_0,FloatKind.f64.nearest t4_1),true,())))
  else
   (gd [finW (FloatKind.f64.nearest t4_0)&&finW (FloatKind.f64.nearest t4_1)] (some ((0,0),false,()))))):=by kernel_rfl
end Go.Proofs.YtldllfocpadkeaaGreatDoor
namespace Nice
open Go Go.Eng
def InvZ (i:Nat) (a b:Int):Prop:=0≤a∧0≤b∧(i<4→a<16^i∧b=0)∧(4≤i→a<65536∧b<16^(i-4))
theorem invZ_0:InvZ 0 0 0:=⟨by omega,by omega,fun _=>⟨by decide,rfl⟩,fun h=>absurd h (by decide)⟩
theorem pow16 (i:Nat):(16:Int)^(i+1)=16*16^i:=by rw[Int.pow_succ,Int.mul_comm]
theorem pow16_le {i:Nat} (h:i≤3):(16:Int)^i≤4096:=by
 have:i=0∨i=1∨i=2∨i=3:=by omega
 rcases this with rfl|rfl|rfl|rfl<;>decide
theorem invZ_a {i:Nat} {a b v:Int} (h:InvZ i a b) (hi:i<4) (h0:0≤v) (h1:v≤15):InvZ (i+1) (a*16+v) b∧a*16+v≤65535:=by
 obtain⟨q1,q2,q3,q4⟩:=h;obtain⟨q5,q6⟩:=q3 hi;have:=pow16 i;have:=pow16_le (show i≤3 by omega);refine⟨⟨by omega,by omega,fun h=>⟨by omega,q6⟩,fun h=> ?_⟩,by omega⟩;have e:i=3:=by omega
 subst e;refine⟨by omega,?_⟩;rw[q6];decide
theorem invZ_b {i:Nat} {a b v:Int} (h:InvZ i a b) (hi:4≤i) (hi8:i<8) (h0:0≤v) (h1:v≤15):InvZ (i+1) a (b*16+v)∧b*16+v≤65535:=by
 obtain⟨q1,q2,q3,q4⟩:=h;obtain⟨q5,q6⟩:=q4 hi;have e:i+1-4=(i-4)+1:=by omega
 have:=pow16 (i-4);have:=pow16_le (show i-4≤3 by omega);exact⟨⟨q1,by omega,fun h=>by omega,fun _=>⟨q5,by rw[e];omega⟩⟩,by omega⟩
theorem invZ_8 {a b:Int} (h:InvZ 8 a b):0≤a∧a<65536∧0≤b∧b<65536:=by
 obtain⟨q1,q2,q3,q4⟩:=h;obtain⟨q5,q6⟩:=q4 (by decide);exact⟨q1,q5,q2,q6⟩
theorem isHx_iff {c:UInt8}:isHx c=true↔(48≤c.toNat∧c.toNat≤57∨97≤c.toNat∧c.toNat≤102):=by
 unfold isHx;rw[decide_eq_true_iff]
theorem may_n {a b:Int} (h1:0≤a) (h2:a<65536) (h3:0≤b) (h4:b<65536):(finW (FloatKind.f64.nearest a)&&finW (FloatKind.f64.nearest b))=true∧mayW (FloatKind.f64.nearest a) (FloatKind.f64.nearest b)=(decide (a<65521)&&decide (b<65521)):=by
 obtain⟨m,rfl⟩:∃m:Nat,a=(m:Int):=⟨a.toNat,by omega⟩
 obtain⟨k,rfl⟩:∃k:Nat,b=(k:Int):=⟨b.toNat,by omega⟩
 obtain⟨w1,w2⟩:=whole_n (n:=m) (by omega);obtain⟨w3,w4⟩:=whole_n (n:=k) (by omega);refine⟨by rw[w1,w3];rfl,?_⟩;have e1:decide (m<65521)=decide ((m:Int)<65521):=by rw[decide_eq_decide];omega
 have e2:decide (k<65521)=decide ((k:Int)<65521):=by rw[decide_eq_decide];omega
 unfold mayW;rw[w2,w4,e1,e2]
end Nice
namespace Go.Proofs.YtldllfocpadkeaaGreatDoor
open Go Go.Eng Nice
set_option maxRecDepth 100000
theorem whole_nn (x a b:Nat) (h:finW x=true):owhole (x,a,b,())=some (wholeW x a b,()):=by
 rw[owhole_g,ewhole_g];unfold wholeW;cases fRel .geq .f64 x a<;>cases fRel .leq .f64 x b<;>cases fRel .eql .f64 x (truncW x)<;>simp[gd,h]
theorem gmay_nn (z:Nat×Nat) (h:(finW z.1&&finW z.2)=true):ogmay (z,())=some (mayW z.1 z.2,()):=by
 rw[Bool.and_eq_true] at h;rw[ogmay_g,egmay_g];unfold mayW;cases wholeW z.1 0 4679237813814689792<;>cases wholeW z.2 0 4679237813814689792<;>simp[gd,h.1,h.2]
def zOut (z:Option (Int×Int)):Option (Int×Int):=match z with
 |some z=>bif decide (z.1<65521)&&decide (z.2<65521) then some z else none
 |none=>none
theorem tdiv4_0 {i:Nat} (h:i<4):((i:Int)).tdiv 4=0:=by
 rw[Int.tdiv_eq_ediv_of_nonneg (by omega)];omega
theorem tdiv4_1 {i:Nat} (h:4≤i) (h8:i<8):((i:Int)).tdiv 4=1:=by
 rw[Int.tdiv_eq_ediv_of_nonneg (by omega)];omega
theorem c00 {α:Type} {a b:α}:(bif ((0:Int)==(0:Int)) then a else b)=a:=by
 have h:((0:Int)==(0:Int))=true:=by decide
 rw[h,cond_true]
theorem c10 {α:Type} {a b:α}:(bif ((1:Int)==(0:Int)) then a else b)=b:=by
 have h:((1:Int)==(0:Int))=false:=by decide
 rw[h,cond_false]
theorem g11 {α:Type} {l:List Bool} {r:Option α}:gd (((1:Int)==(1:Int))::l) r=gd l r:=by
 have h:((1:Int)==(1:Int))=true:=by decide
 exact gdB h
theorem gZ {α:Type} {r:Option α}:gd [] r=r:=by cases r<;>rw[gd_nil]
theorem gread_l (s:List UInt8) (t3:Bool) (rest:List UInt8):∀(done:List UInt8) (n:Nat) (a b:Int),s=done++rest→done.length+rest.length=8→InvZ done.length a b→rest.length<n→
  hgread_0 n s t3 a b 8 (done.length:Int)=match zOut (rdF rest done.length a b) with
   |some z=>some ((FloatKind.f64.nearest z.1,FloatKind.f64.nearest z.2),true,())
   |none=>some ((0,0),false,()):=by
 induction rest with
 |nil=>
  intro done n a b hs he hv hn;obtain⟨m,rfl⟩:∃m,n=m+1:=⟨n-1,by omega⟩
  simp only[List.length_nil,Nat.add_zero] at he;rw[he] at hv;obtain⟨i1,i2,i3,i4⟩:=invZ_8 hv;obtain⟨w1,w2⟩:=may_n i1 i2 i3 i4;rw[egread_0,cdF (by omega),w2];simp only[rdF,zOut];cases hh:decide (a<65521)&&decide (b<65521)
  ·simp only[cond_false];rw[gdB w1,gZ]
  ·simp only[cond_true];rw[gdB w1,gZ]
 |cons c rest ihr=>
  intro done n a b hs he hv hn;obtain⟨m,rfl⟩:∃m,n=m+1:=⟨n-1,by omega⟩
  simp only[List.length_cons] at he hn;have hc:=c.toNat_lt;have ih:=fun a' b'=>ihr (done++[c]) m a' b' (by rw[hs];simp) (by simp;omega)
  simp only[List.length_append,List.length_singleton,Int.natCast_add] at ih;have hg:s.getD done.length 0=c:=by rw[hs,getD_mid]
  have hl:s.length=8:=by rw[hs];simp;omega
  rw[egread_0];simp only[hl,Int.toNat_natCast,hg];rw[cdT (by omega)];have key:∀v:Int,0≤v→v≤15→isHx c=true→hx c=v→(done.length<4→hgread_0 m s t3 (a*16+v) b 8 ((done.length:Int)+1)=match zOut (rdF (c::rest) done.length a b) with
    |some z=>some ((FloatKind.f64.nearest z.1,FloatKind.f64.nearest z.2),true,())
    |none=>some ((0,0),false,()))∧(4≤done.length→hgread_0 m s t3 a (b*16+v) 8 ((done.length:Int)+1)=match zOut (rdF (c::rest) done.length a b) with
    |some z=>some ((FloatKind.f64.nearest z.1,FloatKind.f64.nearest z.2),true,())
    |none=>some ((0,0),false,())):=by
   intro v h0 h1 hx1 hx2;simp only[rdF,hx1,cond_true,hx2];constructor
   ·intro hi;rw[cdT hi];exact ih _ _ (invZ_a hv hi h0 h1).1 (by omega)
   ·intro hi;rw[cdF (by omega)];exact ih _ _ (invZ_b hv hi (by omega) h0 h1).1 (by omega)
  have bad:isHx c=false→(match zOut (rdF (c::rest) done.length a b) with
    |some z=>some ((FloatKind.f64.nearest z.1,FloatKind.f64.nearest z.2),true,())
    |none=>some ((0,0),false,()):Option (DenL [.cx,.bool]))=some ((0,0),false,()):=by
   intro hx1;simp only[rdF,hx1,cond_false,zOut]
  by_cases h1:48≤c.toNat
  ·by_cases h2:c.toNat≤57
   ·obtain⟨k1,k2⟩:=key ((c.toNat:Int)-48) (by omega) (by omega) (isHx_iff.2 (.inl ⟨h1,h2⟩)) (by unfold hx;rw[cdT h2]);by_cases hi:done.length<4
    ·have hb:=(invZ_a hv hi (v:=(c.toNat:Int)-48) (by omega) (by omega)).2;have h0:=hv.1;simp only[tdiv4_0 hi,c00];simp(disch:=omega) only[cdT,gdT,gZ,inK_i64];exact k1 hi
    ·have hb:=(invZ_b hv (by omega) (by omega) (v:=(c.toNat:Int)-48) (by omega) (by omega)).2;have h0:=hv.2.1;simp only[tdiv4_1 (show 4≤done.length by omega) (by omega),c10,g11];simp(disch:=omega) only[cdT,gdT,gZ,inK_i64,g11];exact k2 (by omega)
   ·by_cases h3:97≤c.toNat∧c.toNat≤102
    ·obtain⟨k1,k2⟩:=key ((c.toNat:Int)-87) (by omega) (by omega) (isHx_iff.2 (.inr h3)) (by unfold hx;rw[cdF h2]);by_cases hi:done.length<4
     ·have hb:=(invZ_a hv hi (v:=(c.toNat:Int)-87) (by omega) (by omega)).2;have h0:=hv.1;simp only[tdiv4_0 hi,c00];simp(disch:=omega) only[cdT,cdF,gdT,gZ,inK_i64];exact k1 hi
     ·have hb:=(invZ_b hv (by omega) (by omega) (v:=(c.toNat:Int)-87) (by omega) (by omega)).2;have h0:=hv.2.1;simp only[tdiv4_1 (show 4≤done.length by omega) (by omega),c10,g11];simp(disch:=omega) only[cdT,cdF,gdT,gZ,inK_i64,g11];exact k2 (by omega)
    ·rw[bad (by cases hb:isHx c;rfl;have:=isHx_iff.1 hb;omega)];by_cases h4:97≤c.toNat
     ·simp(disch:=omega) only[cdT,cdF,gdT,gZ,inK_i64]
     ·simp(disch:=omega) only[cdT,cdF,gdT,gZ,inK_i64]
  ·rw[bad (by cases hb:isHx c;rfl;have:=isHx_iff.1 hb;omega)];simp(disch:=omega) only[cdT,cdF,gdT,gZ,inK_i64]
theorem gread_n (s:List UInt8):ogread (s,())=some ((gRead s).1,(gRead s).2,()):=by
 rw[ogread_g,egread_g];unfold gRead rdZ;by_cases h:s.length=8
 ·have e:((s.length:Int) !=8)=false:=by rw[h];rfl
  have e2:((s.length:Int))=8:=by omega
  rw[e,cond_false,decide_eq_true h,cond_true,e2];have:=gread_l s false s [] heads0 0 0 rfl (by simpa using h) invZ_0 (by unfold heads0;omega);refine this.trans ?_;show _=some ((match zOut (rdF s 0 0 0) with
   |some z=>((FloatKind.f64.nearest z.1,FloatKind.f64.nearest z.2),true)
   |none=>((0,0),false)).1,(match zOut (rdF s 0 0 0) with
   |some z=>((FloatKind.f64.nearest z.1,FloatKind.f64.nearest z.2),true)
   |none=>((0,0),false)).2,())
  show(match zOut (rdF s 0 0 0) with
   |some z=>some ((FloatKind.f64.nearest z.1,FloatKind.f64.nearest z.2),true,())
   |none=>some ((0,0),false,()))=_
  cases zOut (rdF s 0 0 0)<;>rfl
 ·have e:((s.length:Int) !=8)=true:=by simp;omega
  rw[e,cond_true,decide_eq_false h];rfl
end Go.Proofs.YtldllfocpadkeaaGreatDoor
