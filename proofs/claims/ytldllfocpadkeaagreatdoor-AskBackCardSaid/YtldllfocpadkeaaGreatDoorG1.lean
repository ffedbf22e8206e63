/-
  Part of the proof: Nice NiceK PAsk QV LScan PSplit NiceS QS. No condition.
-/
import Derived.Test.YtldllfocpadkeaaGreatDoorEng11
import Derived.Shelf.Strconv.AtoiAll
import Derived.Shelf.GgClosure.StringsIndexFuncTop
import Derived.Shelf.Strconv.ParseIntPublic10
import Derived.Lib.ParseIntBCases
import Derived.Test.YtldllfocpadkeaaGreatDoorSym
import Derived.Lib.SplitLaws
namespace Nice
open Go Go.Eng
def lo (c:UInt8):UInt8:=if 65≤c∧c≤90 then c+32 else c
def lower (s:List UInt8):List UInt8:=s.map lo
def lowerP (s:List UInt8):Bool:=decide (s.length≤140737488355328)
def isCap (c:UInt8):Bool:=decide (65≤c∧c≤90)
def isDig (c:UInt8):Bool:=decide (48≤c∧c≤57)
def valueN:List (List UInt8×List UInt8×Unit)→List UInt8→List UInt8×Bool
 |[],_=>([],false)
 |h::r,n=>bif lower h.1==lower n then(h.2.1,true) else valueN r n
def valueP (l:List (List UInt8×List UInt8×Unit)) (n:List UInt8):Bool:=decide (l.length≤140737488355328)&&(lowerP n&&l.all fun h=>lowerP h.1)
def atoiN (s:List UInt8):Int×Bool:=match Lib.atoiAll s with
 | .ok v=>(v,true)
 |Lib.NumEnd.syntax=>(0,false)
 | .range=>(Lib.atoiSat s,false)
def allDig (s:List UInt8):Bool:=s.all isDig
def numV (s:List UInt8):Nat:=s.foldl (fun n c=>n*10+(c.toNat-48)) 0
def scanNum (s:List UInt8):Int×Bool:=bif allDig s then((atoiN s).1,(atoiN s).2&&decide (s.length≤6)) else(0,false)
def clen:List UInt8:=[99,111,110,116,101,110,116,45,108,101,110,103,116,104]
def tenc:List UInt8:=[116,114,97,110,115,102,101,114,45,101,110,99,111,100,105,110,103]
def scanLen (l:List (List UInt8×List UInt8×Unit)):Int:=bif (scanNum (valueN l clen).1).2 then(scanNum (valueN l clen).1).1 else 0
def refNum (s:List UInt8) (most:Int):Int×Bool:=bif allDig s&&decide ((s.length:Int)≤most) then((numV s:Int),decide (1≤s.length)) else(0,false)
def refNumP (s:List UInt8) (most:Int):Bool:=decide (s.length≤140737488355328)&&decide (most≤18)
def refHeads:List (List UInt8×List UInt8×Unit)→List UInt8→Nat→Option (List UInt8×Nat)
 |[],n,k=>some (n,k)
 |h::r,n,k=>bif lower h.1==clen then refHeads r h.2.1 (k+1) else bif lower h.1==tenc then none else refHeads r n k
def refLenOut:Option (List UInt8×Nat)→Int×Int
 |none=>(0,400)
 |some (n,k)=>if k=0 then(0,0) else if 1<k∨(refNum n 6).2=false then(0,400) else if(refNum n 6).1>300 then((refNum n 6).1,413) else((refNum n 6).1,0)
def refLen (l:List (List UInt8×List UInt8×Unit)):Int×Int:=refLenOut (refHeads l [] 0)
def refLenP (l:List (List UInt8×List UInt8×Unit)):Bool:=decide (l.length≤140737488355328)&&l.all fun h=>lowerP h.1&&lowerP h.2.1
def cut (s:List UInt8) (n:Int):List UInt8:=s.take n.toNat
theorem cdT {α:Type} {p:Prop} [Decidable p] {a b:α} (h:p):(bif decide p then a else b)=a:=by simp[h]
theorem cdF {α:Type} {p:Prop} [Decidable p] {a b:α} (h:¬p):(bif decide p then a else b)=b:=by simp[h]
theorem gd_nil {α:Type} {r:Option α}:gd [] r=r:=rfl
theorem gdT {α:Type} {p:Prop} [Decidable p] {l:List Bool} {r:Option α} (h:p):gd (decide p::l) r=gd l r:=by simp[gd,h]
theorem gdB {α:Type} {b:Bool} {l:List Bool} {r:Option α} (h:b=true):gd (b::l) r=gd l r:=by simp[gd,h]
theorem inK_i64 {n:Int}:inK .i64 n↔ -9223372036854775808≤n∧n≤9223372036854775807:=Iff.rfl
theorem inK_u8 {n:Int}:inK .u8 n↔0≤n∧n≤255:=Iff.rfl
theorem wrap_u8 {n:Int}:IntKind.u8.wrap n=n%256:=rfl
theorem getD_mid {α:Type} (a b:List α) (x d:α):(a++x::b).getD a.length d=x:=by simp
theorem set_mid {α:Type} (a b:List α) (x y:α):(a++x::b).set a.length y=a++y::b:=by simp
theorem le8 {a c:UInt8}:a≤c↔a.toNat≤c.toNat:=UInt8.le_iff_toNat_le
theorem isCap_iff {c:UInt8}:isCap c=true↔65≤c.toNat∧c.toNat≤90:=by
 unfold isCap;rw[decide_eq_true_iff,le8,le8];rfl
theorem isDig_iff {c:UInt8}:isDig c=true↔48≤c.toNat∧c.toNat≤57:=by
 unfold isDig;rw[decide_eq_true_iff,le8,le8];rfl
theorem lo_up {c:UInt8} (h1:65≤c.toNat) (h2:c.toNat≤90):lo c=UInt8.ofNat (c.toNat+32):=by
 unfold lo;rw[if_pos ⟨le8.2 h1,le8.2 h2⟩];apply UInt8.toNat.inj;simp
theorem lo_not {c:UInt8} (h:¬(65≤c.toNat∧c.toNat≤90)):lo c=c:=by
 unfold lo;rw[if_neg];rintro⟨h1,h2⟩;exact h ⟨le8.1 h1,le8.1 h2⟩
abbrev HeadT:Ty:=.pair .str (.pair .str .unit)
abbrev ReqT:Ty:=.pair .str (.pair .str (.pair .str (.pair (.slice HeadT) (.pair .str .unit))))
noncomputable def trueS:PSpec:=⟨[],[.bool],fun _=>true,fun _=>(true,())⟩
noncomputable def lowerS:PSpec:=⟨[.str],[.str],fun x=>lowerP x.1,fun x=>(lower x.1,())⟩
noncomputable def capS:PSpec:=⟨[.byte],[.bool],fun _=>true,fun x=>(isCap x.1,())⟩
noncomputable def digS:PSpec:=⟨[.byte],[.bool],fun _=>true,fun x=>(isDig x.1,())⟩
noncomputable def valueS:PSpec:=⟨[ReqT,.str],[.str,.bool],fun x=>valueP x.1.2.2.2.1 x.2.1,fun x=>((valueN x.1.2.2.2.1 x.2.1).1,(valueN x.1.2.2.2.1 x.2.1).2,())⟩
noncomputable def refNumS:PSpec:=⟨[.str,.int .i64],[.int .i64,.bool],fun x=>refNumP x.1 x.2.1,fun x=>((refNum x.1 x.2.1).1,(refNum x.1 x.2.1).2,())⟩
noncomputable def refLenS:PSpec:=⟨[ReqT],[.int .i64,.int .i64],fun x=>refLenP x.1.2.2.2.1,fun x=>((refLen x.1.2.2.2.1).1,(refLen x.1.2.2.2.1).2,())⟩
noncomputable def cutS:PSpec:=⟨[.str,.int .i64],[.str],fun x=>decide (0≤x.2.1),fun x=>(cut x.1 x.2.1,())⟩
end Nice
namespace Nice
open Go Go.Eng
def keyCh (c:UInt8):Bool:=decide (97≤c.toNat∧c.toNat≤122∨48≤c.toNat∧c.toNat≤57∨c.toNat=46∨c.toNat=45∨c.toNat=95∨c.toNat=47)
def isKey (s:List UInt8):Bool:=s.all keyCh&&(decide (1≤s.length)&&decide (s.length≤40))
def bndS (s:List UInt8):Bool:=decide (s.length≤140737488355328)
def notDig (r:Nat):Bool:=decide (r<48)||decide (57<r)
def idxF (s:List UInt8):Int:=Lib.idxFunc notDig true (bs s)
def intN (s:List UInt8):Int×Bool:=match Lib.parseIntB 64 s with
 | .ok v=>(v,true)
 |Lib.NumEnd.syntax=>(0,false)
 | .range=>(Lib.intSat 64 s,false)
def numN (s:List UInt8) (most lo hi:Int):Int×Bool:=((intN s).1,allDig s&&((intN s).2&&(decide ((s.length:Int)≤most)&&(decide ((intN s).1≥lo)&&decide ((intN s).1≤hi)))))
def hasPre (s p:List UInt8):Bool:=decide (p.length≤s.length)&&s.take p.length==p
def hasSuf (s p:List UInt8):Bool:=decide (p.length≤s.length)&&s.drop (s.length-p.length)==p
def cutPre (s p:List UInt8):List UInt8×Bool:=bif hasPre s p then(s.drop p.length,true) else(s,false)
def cutSuf (s p:List UInt8):List UInt8×Bool:=bif hasSuf s p then(s.take (s.length-p.length),true) else(s,false)
def digsF:Nat→Nat→List UInt8→List UInt8
 |0,_,acc=>acc
 |f+1,n,acc=>if n/10=0 then UInt8.ofNat (48+n%10)::acc else digsF f (n/10) (UInt8.ofNat (48+n%10)::acc)
def digs (u:Int):List UInt8:=digsF 20 u.toNat []
def digits (n:Int):List UInt8:=if n<0 then 45::digs (-n) else digs n
def vPre:List UInt8:=[118,101,114,115,105,111,110,61]
def zAsk:Int×List UInt8×Int×List UInt8×Int×List UInt8×List UInt8×List UInt8×Int×Bool×Unit:=(0,[],0,[],0,[],[],[],0,false,())
theorem decode_ascii {s:ByteArray} {i:Nat} (h:(s.get! i).toNat<128):Utf8.decode s i=((s.get! i).toNat,1):=by
 unfold Utf8.decode;simp only[Nat.add_zero];rw[if_pos (show(s.get! i).toNat<0x80 from h)]
theorem decode_high {s:ByteArray} {i:Nat} (h:128≤(s.get! i).toNat):57<(Utf8.decode s i).1:=by
 unfold Utf8.decode;simp only[Nat.add_zero];rw[if_neg (show ¬(s.get! i).toNat<0x80 by omega)];have hr:57<Utf8.runeError:=by decide
 have hge:∀(c:Nat) (b:Bool) (k:Nat),c≥k→57<k→57<c:=fun c b k h1 h2=>by omega
 repeat' split
 all_goals first
  |exact hr
  |(rename_i h1;simp only[Bool.and_eq_true,decide_eq_true_eq] at h1;omega)
  |(rename_i h1;have h1:=of_decide_eq_true h1;omega)
  |(rename_i h1;omega)
theorem idx_l (s:ByteArray):∀(f pos:Nat),s.size-pos≤f→decide (Lib.idxFuncFrom notDig true s f pos≥0)= !((s.data.toList.drop pos).all isDig)
 |0,pos,h=>by
  have:s.data.toList.drop pos=[]:=List.drop_eq_nil_of_le (by show s.data.toList.length≤pos;have:s.data.toList.length=s.size:=rfl;omega);rw[this];simp[Lib.idxFuncFrom]
 |f+1,pos,h=>by
  unfold Lib.idxFuncFrom;by_cases hp:pos<s.size
  ·rw[if_pos hp];have hp':pos<s.data.toList.length:=hp;have hd:s.data.toList.drop pos=s.get! pos::s.data.toList.drop (pos+1):=by
    rw[List.drop_eq_getElem_cons hp'];congr 1;show _=s.data[pos]!;rw[getElem!_pos s.data pos hp];rfl
   rw[hd];simp only[List.all_cons];by_cases ha:(s.get! pos).toNat<128
   ·rw[decode_ascii ha];by_cases hdg:48≤(s.get! pos).toNat∧(s.get! pos).toNat≤57
    ·rw[if_neg (by simp only[notDig,Bool.or_eq_true,decide_eq_true_eq];omega),isDig_iff.2 hdg,Bool.true_and];exact idx_l s f (pos+1) (by omega)
    ·have:isDig (s.get! pos)=false:=by cases hb:isDig (s.get! pos);rfl;exact absurd (isDig_iff.1 hb) hdg
     rw[if_pos (by simp only[notDig,Bool.or_eq_true,decide_eq_true_eq];omega),this];simp
   ·have:=decode_high (s:=s) (i:=pos) (by omega);have hd:isDig (s.get! pos)=false:=by cases hb:isDig (s.get! pos);rfl;have:=isDig_iff.1 hb;omega
    rw[if_pos (by simp only[notDig,Bool.or_eq_true,decide_eq_true_eq];omega),hd];simp
  ·rw[if_neg hp];have:s.data.toList.drop pos=[]:=List.drop_eq_nil_of_le (by have:s.data.toList.length=s.size:=rfl;omega);rw[this];rfl
theorem idxF_ge (s:List UInt8):decide (idxF s≥0)= !allDig s:=by
 have:=idx_l (bs s) (bs s).size 0 (by omega);simpa[idxF,Lib.idxFunc,allDig,bs] using this
abbrev AskT:Ty:=.pair (.int .i64) (.pair .str (.pair (.int .i64) (.pair .str (.pair (.int .i64) (.pair .str (.pair .str (.pair .str (.pair (.int .i64) (.pair .bool .unit)))))))))
noncomputable def noS (ts rs:List Ty):PSpec:=⟨ts,rs,fun _=>false,fun _=>dfltL rs⟩
noncomputable def keyChS:PSpec:=⟨[.byte],[.bool],fun _=>true,fun x=>(keyCh x.1,())⟩
noncomputable def isKeyS:PSpec:=⟨[.str],[.bool],fun x=>bndS x.1,fun x=>(isKey x.1,())⟩
noncomputable def idxFS (f:Nat):PSpec:=⟨[.str,.fn f],[.int .i64],fun _=>true,fun x=>(idxF x.1,())⟩
noncomputable def parseS:PSpec:=⟨[.str,.int .i64,.int .i64],[.int .i64,.err],fun x=>bndS x.1&&(decide (x.2.1=10)&&decide (x.2.2.1=64)),fun x=>((intN x.1).1,(intN x.1).2,())⟩
noncomputable def numS:PSpec:=⟨[.str,.int .i64,.int .i64,.int .i64],[.int .i64,.bool],fun x=>bndS x.1,fun x=>((numN x.1 x.2.1 x.2.2.1 x.2.2.2.1).1,(numN x.1 x.2.1 x.2.2.1 x.2.2.2.1).2,())⟩
noncomputable def hasPreS:PSpec:=⟨[.str,.str],[.bool],fun _=>true,fun x=>(hasPre x.1 x.2.1,())⟩
noncomputable def cutPreS:PSpec:=⟨[.str,.str],[.str,.bool],fun _=>true,fun x=>((cutPre x.1 x.2.1).1,(cutPre x.1 x.2.1).2,())⟩
end Nice
namespace Nice
open Go Go.Eng
def valF (a:Nat) (s:List UInt8):Nat:=s.foldl (fun n c=>n*10+(c.toNat-48)) a
theorem valF_ge:∀(s:List UInt8) (a:Nat),a≤valF a s
 |[],a=>Nat.le_refl _
 |c::r,a=>by
  have:=valF_ge r (a*10+(c.toNat-48));show a≤valF (a*10+(c.toNat-48)) r;omega
theorem parse_dig64:∀(s:List UInt8) (a:Nat),allDig s=true→a≤18446744073709551615→
  (valF a s≤18446744073709551615→Lib.parseUintM 18446744073709551615 a s=.ok (valF a s))∧(18446744073709551615<valF a s→Lib.parseUintM 18446744073709551615 a s=.range)
 |[],a,_,ha=>⟨fun _=>rfl,fun h=>by simp only[valF,List.foldl_nil] at h;omega⟩
 |c::r,a,h,ha=>by
  simp only[allDig,List.all_cons,Bool.and_eq_true] at h;have hd:=isDig_iff.1 h.1;have hv:valF a (c::r)=valF (a*10+(c.toNat-48)) r:=rfl;have hg:=valF_ge r (a*10+(c.toNat-48));rw[hv];simp only[Lib.parseUintM,if_pos hd];by_cases h1:1844674407370955162≤a
  ·rw[if_pos h1];exact⟨fun h=>by omega,fun _=>rfl⟩
  ·rw[if_neg h1];by_cases h2:18446744073709551615<a*10+(c.toNat-48)
   ·rw[if_pos h2];exact⟨fun h=>by omega,fun _=>rfl⟩
   ·rw[if_neg h2];exact parse_dig64 r _ h.2 (by omega)
theorem intN_dig {s:List UInt8} (h:allDig s=true) (h1:s≠[]):(numV s<9223372036854775808→intN s=((numV s:Int),true))∧(9223372036854775808≤numV s→(intN s).2=false):=by
 cases s with
 |nil=>exact absurd rfl h1
 |cons c r=>
  have hd:48≤c.toNat∧c.toNat≤57:=by
   simp only[allDig,List.all_cons,Bool.and_eq_true] at h;exact isDig_iff.1 h.1
  obtain⟨p1,p2⟩:=parse_dig64 (c::r) 0 h (by omega);have hv:valF 0 (c::r)=numV (c::r):=rfl;rw[hv] at p1 p2;have e43:¬(c.toNat=43∨c.toNat=45):=by omega
  have eB:Lib.parseUintB 64 (c::r)=Lib.parseUintM 18446744073709551615 0 (c::r):=by
   unfold Lib.parseUintB;rw[if_neg (by simp)]
  have e45:¬c.toNat=45:=by omega
  by_cases hr:numV (c::r)≤18446744073709551615
  ·have e:Lib.parseIntB 64 (c::r)=if 9223372036854775808≤numV (c::r) then .range else .ok (numV (c::r):Int):=by
    rw[Lib.parseIntB_plain 64 c r (by omega) (by omega),eB,p1 hr];rfl
   constructor
   ·intro hlt;unfold intN;rw[e,if_neg (by omega)]
   ·intro hge;unfold intN;rw[e,if_pos hge]
  ·have e:Lib.parseIntB 64 (c::r)=.range:=by
    rw[Lib.parseIntB_plain 64 c r (by omega) (by omega),eB,p2 (by omega)];rfl
   constructor
   ·intro hlt;omega
   ·intro _;unfold intN;rw[e]
theorem numV_lt' (s:List UInt8) (h:allDig s=true):∀a,valF a s<(a+1)*10^s.length:=by
 induction s with
 |nil=>intro a;simp[valF]
 |cons c s ih=>
  intro a;simp only[allDig,List.all_cons,Bool.and_eq_true] at h;have hd:=isDig_iff.1 h.1;have:=ih h.2 (a*10+(c.toNat-48));refine Nat.lt_of_lt_of_le (show valF a (c::s)<_ from this) ?_;rw[List.length_cons,Nat.pow_succ,Nat.mul_comm (10^s.length) 10,←Nat.mul_assoc];exact Nat.mul_le_mul_right _ (by omega)
theorem valF_lo (s:List UInt8):∀a,a*10^s.length≤valF a s:=by
 induction s with
 |nil=>intro a;simp[valF]
 |cons c s ih=>
  intro a;have:=ih (a*10+(c.toNat-48));refine Nat.le_trans ?_ (show _≤valF a (c::s) from this);rw[List.length_cons,Nat.pow_succ,Nat.mul_comm (10^s.length) 10,←Nat.mul_assoc];exact Nat.mul_le_mul_right _ (by omega)
theorem long_num {s:List UInt8} (h:allDig s=true) (h0:s.getD 0 0≠48) (hl:14≤s.length):10000000000000≤numV s:=by
 cases s with
 |nil=>simp at hl
 |cons c r=>
  simp only[allDig,List.all_cons,Bool.and_eq_true] at h;have hd:=isDig_iff.1 h.1;have h0:c≠48:=h0;have hc:c.toNat≠48:=fun e=>h0 (UInt8.toNat.inj e)
  have:=valF_lo r (c.toNat-48);have hp:(10:Nat)^13≤10^r.length:=Nat.pow_le_pow_right (by decide) (by simp at hl;omega);have e:numV (c::r)=valF (c.toNat-48) r:=by
   show valF 0 (c::r)=_;show valF (0*10+(c.toNat-48)) r=_;rw[Nat.zero_mul,Nat.zero_add]
  rw[e];have h1:1*10^r.length≤(c.toNat-48)*10^r.length:=Nat.mul_le_mul_right _ (by omega);omega
theorem ver_eq (s:List UInt8) (h0:s.getD 0 0≠48):
  ((numN s s.length 1 1099511627776).2=((refNum s 13).2&&(!decide ((refNum s 13).1<1)&& !decide ((refNum s 13).1>1099511627776))))∧((numN s s.length 1 1099511627776).2=true→(numN s s.length 1 1099511627776).1=(refNum s 13).1):=by
 unfold numN refNum;cases hd:allDig s
 ·simp
 by_cases hs:s=[]
 ·subst hs;simp[intN,Lib.parseIntB]
 have hl1:1≤s.length:=List.length_pos_iff.2 hs;obtain⟨i1,i2⟩:=intN_dig hd hs;by_cases hl:s.length≤13
 ·have hlt:=numV_lt' s hd 0;have hp:(10:Nat)^s.length≤10^13:=Nat.pow_le_pow_right (by decide) hl;have hv:valF 0 s=numV s:=rfl;have hn:numV s<9223372036854775808:=by omega
  rw[i1 hn];simp only[Bool.true_and,decide_eq_true (show(s.length:Int)≤13 by omega),cond_true,decide_eq_true hl1,decide_eq_true (Int.le_refl (s.length:Int))];refine⟨?_,fun _=>trivial⟩;by_cases a1:(numV s:Int)≥1
  ·by_cases a2:(numV s:Int)≤1099511627776
   ·rw[decide_eq_true a1,decide_eq_true a2,decide_eq_false (by omega),decide_eq_false (by omega)];rfl
   ·rw[decide_eq_true a1,decide_eq_false a2,decide_eq_false (by omega),decide_eq_true (by omega)];rfl
  ·rw[decide_eq_false a1,decide_eq_true (show(numV s:Int)<1 by omega)];rfl
 ·have hlong:=long_num hd h0 (by omega);simp only[Bool.true_and,decide_eq_false (show ¬(s.length:Int)≤13 by omega),cond_false,Bool.false_and,decide_eq_true (Int.le_refl (s.length:Int))];have key:((intN s).2&&(decide ((intN s).1≥1)&&decide ((intN s).1≤1099511627776)))=false:=by
   by_cases hn:numV s<9223372036854775808
   ·rw[i1 hn,decide_eq_false (show ¬(numV s:Int)≤1099511627776 by omega),Bool.and_false,Bool.and_false]
   ·rw[i2 (by omega)];rfl
  rw[key];exact⟨rfl,fun h=>by cases h⟩
end Nice
namespace Go.Proofs.YtldllfocpadkeaaGreatDoor
open Go Go.Eng Nice
set_option maxRecDepth 1000000
abbrev shcap:List (Nat×List (Nat×Sh)):=[]
noncomputable def ocap (x:DenL [.byte]):Option (DenL [.bool]):=fO Tryz.prog (envS []) (shOf shcap) Tryz.f163 [.byte] [.bool] x
theorem ecap_g (N:Nat) (x0:UInt8):fON Tryz.prog (envS []) (shOf shcap) Tryz.f163 [.byte] [.bool] N (x0,())=
  (bif decide ((↑x0.toNat:Int)≥(65:Int)) then
 (bif decide ((↑x0.toNat:Int)≤(90:Int)) then
 (some (true,()))
 else
 (some (false,())))
  else
 (some (false,()))):=by kernel_rfl
theorem ocap_g (x:DenL [.byte]):ocap x=fON Tryz.prog (envS []) (shOf shcap) Tryz.f163 [.byte] [.bool] heads0 x:=rfl
abbrev shdig:List (Nat×List (Nat×Sh)):=[]
noncomputable def odig (x:DenL [.byte]):Option (DenL [.bool]):=fO Tryz.prog (envS []) (shOf shdig) Tryz.f123 [.byte] [.bool] x
theorem edig_g (N:Nat) (x0:UInt8):fON Tryz.prog (envS []) (shOf shdig) Tryz.f123 [.byte] [.bool] N (x0,())=
  (bif decide ((↑x0.toNat:Int)≥(48:Int)) then
 (bif decide ((↑x0.toNat:Int)≤(57:Int)) then
 (some (true,()))
 else
 (some (false,())))
  else
 (some (false,()))):=by kernel_rfl
theorem odig_g (x:DenL [.byte]):odig x=fON Tryz.prog (envS []) (shOf shdig) Tryz.f123 [.byte] [.bool] heads0 x:=rfl
abbrev shslower:List (Nat×List (Nat×Sh)):=[(3,[(2,(.one .sym)),(3,(.one (.vec .byte 5))),(8,(.one (.same 0))),(9,(.one .sym)),(10,(.one .sym))])]
noncomputable def hslower_0 (n:Nat) (t2:List UInt8) (t3:List (Ty.Den .byte)) (t9:Int) (t10:Int):Option (DenL [.str]):=rH Tryz.prog (envS [(163,capS)]) (shOf shslower) Tryz.f128 [.str] n 0 [(2,sy (.string (bs t2))),(3,dt 10),(8,dt 10),(9,sy (.int .i64 t9)),(10,sy (.int .i64 t10))] [.vec .byte t3 5]
noncomputable def oslower (x:DenL [.str]):Option (DenL [.str]):=fO Tryz.prog (envS [(163,capS)]) (shOf shslower) Tryz.f128 [.str] [.str] x
theorem eslower_g (N:Nat) (x0:List UInt8):fON Tryz.prog (envS [(163,capS)]) (shOf shslower) Tryz.f128 [.str] [.str] N (x0,())=
 (hslower_0 N ([]) (x0) ((↑x0.length:Int)) ((0:Int))):=by kernel_rfl
theorem oslower_g (x:DenL [.str]):oslower x=fON Tryz.prog (envS [(163,capS)]) (shOf shslower) Tryz.f128 [.str] [.str] heads0 x:=rfl
theorem eslower_0 (n:Nat) (t2:List UInt8) (t3:List (Ty.Den .byte)) (t9:Int) (t10:Int):hslower_0 (n+1) t2 t3 t9 t10=
  (bif decide (t10<t9) then
 (gd [decide (t10.toNat<t3.length),decide ((0:Int)≤t10),decide (t10<(↑t3.length:Int))] (bif isCap (UInt8.ofNat (↑(UInt8.toNat (t3.getD t10.toNat Ty.byte.dflt)):Int).toNat) then
 (gd [decide (inK .i64 (t10+(1:Int))),decide (t10.toNat<t3.length),decide (inK .u8 (IntKind.u8.wrap (IntKind.u8.wrap ((↑(UInt8.toNat (t3.getD t10.toNat Ty.byte.dflt)):Int)+(97:Int))-(65:Int)))),decide ((0:Int)≤t10),decide (t10<(↑t3.length:Int)),decide (inK .u8 (↑(UInt8.toNat (t3.getD t10.toNat Ty.byte.dflt)):Int))] (hslower_0 n (t2) (t3.set t10.toNat (UInt8.ofNat (IntKind.u8.wrap (IntKind.u8.wrap ((↑(UInt8.toNat (t3.getD t10.toNat Ty.byte.dflt)):Int)+(97:Int))-(65:Int))).toNat)) (t9) (t10+(1:Int))))
 else
 (gd [decide (inK .i64 (t10+(1:Int))),decide (inK .u8 (↑(UInt8.toNat (t3.getD t10.toNat Ty.byte.dflt)):Int))] (hslower_0 n (t2) (t3) (t9) (t10+(1:Int))))))
  else
 (some (t3,()))):=by kernel_rfl
abbrev shrlower:List (Nat×List (Nat×Sh)):=[(3,[(2,(.one .sym)),(3,(.one (.vec .byte 5))),(4,(.one .sym))])]
noncomputable def hrlower_0 (n:Nat) (t2:List UInt8) (t3:List (Ty.Den .byte)) (t4:Int):Option (DenL [.str]):=rH Tryz.prog (envS []) (shOf shrlower) Tryz.f78 [.str] n 0 [(2,sy (.string (bs t2))),(3,dt 10),(4,sy (.int .i64 t4))] [.vec .byte t3 5]
noncomputable def orlower (x:DenL [.str]):Option (DenL [.str]):=fO Tryz.prog (envS []) (shOf shrlower) Tryz.f78 [.str] [.str] x
theorem erlower_g (N:Nat) (x0:List UInt8):fON Tryz.prog (envS []) (shOf shrlower) Tryz.f78 [.str] [.str] N (x0,())=
 (hrlower_0 N ([]) (x0) ((0:Int))):=by kernel_rfl
theorem orlower_g (x:DenL [.str]):orlower x=fON Tryz.prog (envS []) (shOf shrlower) Tryz.f78 [.str] [.str] heads0 x:=rfl
theorem erlower_0 (n:Nat) (t2:List UInt8) (t3:List (Ty.Den .byte)) (t4:Int):hrlower_0 (n+1) t2 t3 t4=
  (bif decide (t4<(↑t3.length:Int)) then
 (bif decide ((↑(UInt8.toNat (t3.getD t4.toNat Ty.byte.dflt)):Int)≥(65:Int)) then
 (bif decide ((↑(UInt8.toNat (t3.getD t4.toNat Ty.byte.dflt)):Int)≤(90:Int)) then
 (gd [decide (inK .i64 (t4+(1:Int))),decide (t4.toNat<t3.length),decide (inK .u8 (IntKind.u8.wrap ((↑(UInt8.toNat (t3.getD t4.toNat Ty.byte.dflt)):Int)+(32:Int)))),decide ((0:Int)≤t4),decide (t4<(↑t3.length:Int)),decide (t4.toNat<t3.length),decide ((0:Int)≤t4),decide (t4<(↑t3.length:Int)),decide (t4.toNat<t3.length),decide ((0:Int)≤t4),decide (t4<(↑t3.length:Int)),decide (t4.toNat<t3.length),decide ((0:Int)≤t4),decide (t4<(↑t3.length:Int))] (hrlower_0 n (t2) (t3.set t4.toNat (UInt8.ofNat (IntKind.u8.wrap ((↑(UInt8.toNat (t3.getD t4.toNat Ty.byte.dflt)):Int)+(32:Int))).toNat)) (t4+(1:Int))))
 else
 (gd [decide (inK .i64 (t4+(1:Int))),decide (t4.toNat<t3.length),decide ((0:Int)≤t4),decide (t4<(↑t3.length:Int)),decide (t4.toNat<t3.length),decide ((0:Int)≤t4),decide (t4<(↑t3.length:Int))] (hrlower_0 n (t2) (t3) (t4+(1:Int)))))
 else
 (gd [decide (inK .i64 (t4+(1:Int))),decide (t4.toNat<t3.length),decide ((0:Int)≤t4),decide (t4<(↑t3.length:Int))] (hrlower_0 n (t2) (t3) (t4+(1:Int)))))
  else
 (some (t3,()))):=by kernel_rfl
abbrev shrnum:List (Nat×List (Nat×Sh)):=[(3,[(0,(.one .sym)),(1,(.one .sym)),(4,(.one .sym)),(5,(.one .sym)),(6,(.one .sym)),(7,(.one .sym))])]
noncomputable def hrnum_0 (n:Nat) (t0:List UInt8) (t1:Int) (t4:Int) (t5:Bool) (t6:Int) (t7:Int):Option (DenL [.int .i64,.bool]):=rH Tryz.prog (envS [(123,digS)]) (shOf shrnum) Tryz.f75 [.int .i64,.bool] n 0 [(0,sy (.string (bs t0))),(1,sy (.int .i64 t1)),(4,sy (.int .i64 t4)),(5,.bool t5),(6,sy (.int .i64 t6)),(7,sy (.int .i64 t7))] []
noncomputable def ornum (x:DenL [.str,.int .i64]):Option (DenL [.int .i64,.bool]):=fO Tryz.prog (envS [(123,digS)]) (shOf shrnum) Tryz.f75 [.str,.int .i64] [.int .i64,.bool] x
theorem ernum_g (N:Nat) (x0:List UInt8) (x1:Int):fON Tryz.prog (envS [(123,digS)]) (shOf shrnum) Tryz.f75 [.str,.int .i64] [.int .i64,.bool] N (x0,x1,())=
 (hrnum_0 N (x0) (x1) ((0:Int)) (false) ((0:Int)) ((0:Int))):=by kernel_rfl
theorem ornum_g (x:DenL [.str,.int .i64]):ornum x=fON Tryz.prog (envS [(123,digS)]) (shOf shrnum) Tryz.f75 [.str,.int .i64] [.int .i64,.bool] heads0 x:=rfl
theorem ernum_0 (n:Nat) (t0:List UInt8) (t1:Int) (t4:Int) (t5:Bool) (t6:Int) (t7:Int):hrnum_0 (n+1) t0 t1 t4 t5 t6 t7=
  (bif decide (t7<(↑t0.length:Int)) then
 (bif isDig (UInt8.ofNat (↑(t0.getD t7.toNat 0).toNat:Int).toNat) then
 (bif decide (t7≥t1) then
 (gd [decide (inK .u8 (↑(t0.getD t7.toNat 0).toNat:Int)),decide ((0:Int)≤t7),decide (t7<(↑t0.length:Int))] (some ((0:Int),false,())))
 else
 (gd [decide (inK .i64 (t7+(1:Int))),decide (inK .i64 (t6*(10:Int)+IntKind.u8.wrap ((↑(t0.getD t7.toNat 0).toNat:Int)-(48:Int)))),decide (inK .i64 (IntKind.u8.wrap ((↑(t0.getD t7.toNat 0).toNat:Int)-(48:Int)))),decide ((0:Int)≤t7),decide (t7<(↑t0.length:Int)),decide (inK .i64 (t6*(10:Int))),decide (inK .u8 (↑(t0.getD t7.toNat 0).toNat:Int)),decide ((0:Int)≤t7),decide (t7<(↑t0.length:Int))] (hrnum_0 n (t0) (t1) (t4) (t5) (t6*(10:Int)+IntKind.u8.wrap ((↑(t0.getD t7.toNat 0).toNat:Int)-(48:Int))) (t7+(1:Int)))))
 else
 (gd [decide (inK .u8 (↑(t0.getD t7.toNat 0).toNat:Int)),decide ((0:Int)≤t7),decide (t7<(↑t0.length:Int))] (some ((0:Int),false,()))))
  else
 (bif decide ((↑t0.length:Int)≥(1:Int)) then
 (some (t6,true,()))
 else
 (some (t6,false,())))):=by kernel_rfl
abbrev shsval:List (Nat×List (Nat×Sh)):=[(2,[(1,(.one .sym)),(4,(.one .sym)),(5,(.one .sym)),(9,(.one (.dat (.pair .str (.pair .str .unit))))),(10,(.one .sym)),(11,(.one .sym))])]
noncomputable def hsval_0 (n:Nat) (t1:List UInt8) (t4:List UInt8) (t5:Bool) (t9:List (Ty.Den (.pair .str (.pair .str .unit)))) (t10:Int) (t11:Int):Option (DenL [.str,.bool]):=rH Tryz.prog (envS [(128,lowerS)]) (shOf shsval) Tryz.f84 [.str,.bool] n 0 [(1,sy (.string (bs t1))),(4,sy (.string (bs t4))),(5,.bool t5),(9,dt 10),(10,sy (.int .i64 t10)),(11,sy (.int .i64 t11))] [.dat (.pair .str (.pair .str .unit)) t9]
noncomputable def osval (x:DenL [ReqT,.str]):Option (DenL [.str,.bool]):=fO Tryz.prog (envS [(128,lowerS)]) (shOf shsval) Tryz.f84 [ReqT,.str] [.str,.bool] x
theorem esval_g (N:Nat) (x0:Ty.Den ReqT) (x1:List UInt8):fON Tryz.prog (envS [(128,lowerS)]) (shOf shsval) Tryz.f84 [ReqT,.str] [.str,.bool] N (x0,x1,())=
 (hsval_0 N (x1) ([]) (false) (x0.snd.snd.snd.fst) ((↑(List.length x0.snd.snd.snd.fst):Int)) ((0:Int))):=by kernel_rfl
theorem osval_g (x:DenL [ReqT,.str]):osval x=fON Tryz.prog (envS [(128,lowerS)]) (shOf shsval) Tryz.f84 [ReqT,.str] [.str,.bool] heads0 x:=rfl
theorem esval_0 (n:Nat) (t1:List UInt8) (t4:List UInt8) (t5:Bool) (t9:List (Ty.Den (.pair .str (.pair .str .unit)))) (t10:Int) (t11:Int):hsval_0 (n+1) t1 t4 t5 t9 t10 t11=
  (bif decide (t11<t10) then
 (gd [decide (t11.toNat<t9.length),decide ((0:Int)≤t11),decide (t11<(↑t9.length:Int))] (bif lower (t9.getD t11.toNat (HeadT).dflt).fst==lower t1 then
 (gd [lowerP t1,lowerP (t9.getD t11.toNat (HeadT).dflt).fst] (some ((t9.getD t11.toNat (HeadT).dflt).snd.fst,true,())))
 else
 (gd [decide (inK .i64 (t11+(1:Int))),lowerP t1,lowerP (t9.getD t11.toNat (HeadT).dflt).fst] (hsval_0 n (t1) (t4) (t5) (t9) (t10) (t11+(1:Int))))))
  else
 (some ([],false,()))):=by kernel_rfl
abbrev shrval:List (Nat×List (Nat×Sh)):=[(2,[(1,(.one .sym)),(2,(.obj [.sym,.sym,.sym,(.dat (.pair .str (.pair .str .unit))),.sym])),(4,(.one .sym)),(5,(.one .sym)),(6,(.one .sym))])]
noncomputable def hrval_0 (n:Nat) (t1:List UInt8) (t2_0:List UInt8) (t2_1:List UInt8) (t2_2:List UInt8) (t2_3:List (Ty.Den (.pair .str (.pair .str .unit)))) (t2_4:List UInt8) (t4:List UInt8) (t5:Bool) (t6:Int):Option (DenL [.str,.bool]):=rH Tryz.prog (envS [(78,lowerS)]) (shOf shrval) Tryz.f124 [.str,.bool] n 0 [(1,sy (.string (bs t1))),(2,.pointer (some ⟨11,0,none⟩)),(4,sy (.string (bs t4))),(5,.bool t5),(6,sy (.int .i64 t6))] [.dat (.pair .str (.pair .str .unit)) t2_3,.row [sy (.string (bs t2_0)),sy (.string (bs t2_1)),sy (.string (bs t2_2)),dt 10,sy (.string (bs t2_4))] 62 false]
noncomputable def orval (x:DenL [ReqT,.str]):Option (DenL [.str,.bool]):=fO Tryz.prog (envS [(78,lowerS)]) (shOf shrval) Tryz.f124 [ReqT,.str] [.str,.bool] x
theorem erval_g (N:Nat) (x0:Ty.Den ReqT) (x1:List UInt8):fON Tryz.prog (envS [(78,lowerS)]) (shOf shrval) Tryz.f124 [ReqT,.str] [.str,.bool] N (x0,x1,())=
 (hrval_0 N (x1) (x0.fst) (x0.snd.fst) (x0.snd.snd.fst) (x0.snd.snd.snd.fst) (x0.snd.snd.snd.snd.fst) ([]) (false) ((0:Int))):=by kernel_rfl
theorem orval_g (x:DenL [ReqT,.str]):orval x=fON Tryz.prog (envS [(78,lowerS)]) (shOf shrval) Tryz.f124 [ReqT,.str] [.str,.bool] heads0 x:=rfl
theorem erval_0 (n:Nat) (t1:List UInt8) (t2_0:List UInt8) (t2_1:List UInt8) (t2_2:List UInt8) (t2_3:List (Ty.Den (.pair .str (.pair .str .unit)))) (t2_4:List UInt8) (t4:List UInt8) (t5:Bool) (t6:Int):hrval_0 (n+1) t1 t2_0 t2_1 t2_2 t2_3 t2_4 t4 t5 t6=
  (bif decide (t6<(↑t2_3.length:Int)) then
 (bif lower (t2_3.getD t6.toNat (HeadT).dflt).fst==lower t1 then
 (gd [decide (t6.toNat<t2_3.length),decide ((0:Int)≤t6),decide (t6<(↑t2_3.length:Int)),lowerP t1,lowerP (t2_3.getD t6.toNat (HeadT).dflt).fst,decide (t6.toNat<t2_3.length),decide ((0:Int)≤t6),decide (t6<(↑t2_3.length:Int))] (some ((t2_3.getD t6.toNat (HeadT).dflt).snd.fst,true,())))
 else
 (gd [decide (inK .i64 (t6+(1:Int))),lowerP t1,lowerP (t2_3.getD t6.toNat (HeadT).dflt).fst,decide (t6.toNat<t2_3.length),decide ((0:Int)≤t6),decide (t6<(↑t2_3.length:Int))] (hrval_0 n (t1) (t2_0) (t2_1) (t2_2) (t2_3) (t2_4) (t4) (t5) (t6+(1:Int)))))
  else
 (some ([],false,()))):=by kernel_rfl
abbrev shrlen:List (Nat×List (Nat×Sh)):=[(3,[(1,(.obj [.sym,.sym,.sym,(.dat (.pair .str (.pair .str .unit))),.sym])),(2,(.one .sym)),(3,(.one .sym)),(4,(.one .sym)),(5,(.one .sym)),(6,(.one .sym))])]
noncomputable def hrlen_0 (n:Nat) (t1_0:List UInt8) (t1_1:List UInt8) (t1_2:List UInt8) (t1_3:List (Ty.Den (.pair .str (.pair .str .unit)))) (t1_4:List UInt8) (t2:Int) (t3:Int) (t4:List UInt8) (t5:Int) (t6:Int):Option (DenL [.int .i64,.int .i64]):=rH Tryz.prog (envS [(78,lowerS),(75,refNumS)]) (shOf shrlen) Tryz.f120 [.int .i64,.int .i64] n 0 [(1,.pointer (some ⟨11,0,none⟩)),(2,sy (.int .i64 t2)),(3,sy (.int .i64 t3)),(4,sy (.string (bs t4))),(5,sy (.int .i64 t5)),(6,sy (.int .i64 t6))] [.dat (.pair .str (.pair .str .unit)) t1_3,.row [sy (.string (bs t1_0)),sy (.string (bs t1_1)),sy (.string (bs t1_2)),dt 10,sy (.string (bs t1_4))] 62 false]
noncomputable def orlen (x:DenL [ReqT]):Option (DenL [.int .i64,.int .i64]):=fO Tryz.prog (envS [(78,lowerS),(75,refNumS)]) (shOf shrlen) Tryz.f120 [ReqT] [.int .i64,.int .i64] x
theorem erlen_g (N:Nat) (x0:Ty.Den ReqT):fON Tryz.prog (envS [(78,lowerS),(75,refNumS)]) (shOf shrlen) Tryz.f120 [ReqT] [.int .i64,.int .i64] N (x0,())=
 (hrlen_0 N (x0.fst) (x0.snd.fst) (x0.snd.snd.fst) (x0.snd.snd.snd.fst) (x0.snd.snd.snd.snd.fst) ((0:Int)) ((0:Int)) ([]) ((0:Int)) ((0:Int))):=by kernel_rfl
theorem orlen_g (x:DenL [ReqT]):orlen x=fON Tryz.prog (envS [(78,lowerS),(75,refNumS)]) (shOf shrlen) Tryz.f120 [ReqT] [.int .i64,.int .i64] heads0 x:=rfl
theorem erlen_0 (n:Nat) (t1_0:List UInt8) (t1_1:List UInt8) (t1_2:List UInt8) (t1_3:List (Ty.Den (.pair .str (.pair .str .unit)))) (t1_4:List UInt8) (t2:Int) (t3:Int) (t4:List UInt8) (t5:Int) (t6:Int):hrlen_0 (n+1) t1_0 t1_1 t1_2 t1_3 t1_4 t2 t3 t4 t5 t6=
  (bif decide (t6<(↑t1_3.length:Int)) then
 (gd [lowerP (t1_3.getD t6.toNat (HeadT).dflt).fst,decide (t6.toNat<t1_3.length),decide ((0:Int)≤t6),decide (t6<(↑t1_3.length:Int))] (bif lower (t1_3.getD t6.toNat (HeadT).dflt).fst==[99,111,110,116,101,110,116,45,108,101,110,103,116,104] then
 (gd [decide (inK .i64 (t6+(1:Int))),decide (inK .i64 (t5+(1:Int))),decide (t6.toNat<t1_3.length),decide ((0:Int)≤t6),decide (t6<(↑t1_3.length:Int))] (hrlen_0 n (t1_0) (t1_1) (t1_2) (t1_3) (t1_4) (t2) (t3) ((t1_3.getD t6.toNat (HeadT).dflt).snd.fst) (t5+(1:Int)) (t6+(1:Int))))
 else
 (bif lower (t1_3.getD t6.toNat (HeadT).dflt).fst==[116,114,97,110,115,102,101,114,45,101,110,99,111,100,105,110,103] then
 (some ((0:Int),(400:Int),()))
 else
 (gd [decide (inK .i64 (t6+(1:Int)))] (hrlen_0 n (t1_0) (t1_1) (t1_2) (t1_3) (t1_4) (t2) (t3) (t4) (t5) (t6+(1:Int)))))))
  else
 (bif t5==(0:Int) then
 (some ((0:Int),(0:Int),()))
 else
 (bif (refNum t4 ((6:Int))).snd then
 (gd [refNumP t4 ((6:Int))] (bif decide (t5>(1:Int)) then
 (some ((0:Int),(400:Int),()))
 else
 (bif decide ((refNum t4 ((6:Int))).fst>(300:Int)) then
 (some ((refNum t4 ((6:Int))).fst,(413:Int),()))
 else
 (some ((refNum t4 ((6:Int))).fst,(0:Int),())))))
 else
 (gd [refNumP t4 ((6:Int))] (bif decide (t5>(1:Int)) then
 (some ((0:Int),(400:Int),()))
 else
 (some ((0:Int),(400:Int),()))))))):=by kernel_rfl
abbrev shcut:List (Nat×List (Nat×Sh)):=[]
noncomputable def ocut (x:DenL [.str,.int .i64]):Option (DenL [.str]):=fO Tryz.prog (envS []) (shOf shcut) Tryz.f28 [.str,.int .i64] [.str] x
theorem ecut_g (N:Nat) (x0:List UInt8) (x1:Int):fON Tryz.prog (envS []) (shOf shcut) Tryz.f28 [.str,.int .i64] [.str] N (x0,x1,())=
 (gd [decide ((0:Int)≤min (↑x0.length:Int) x1),decide (min (↑x0.length:Int) x1≤(↑x0.length:Int))] (some (List.take (min (↑x0.length:Int) x1).toNat x0,()))):=by kernel_rfl
theorem ocut_g (x:DenL [.str,.int .i64]):ocut x=fON Tryz.prog (envS []) (shOf shcut) Tryz.f28 [.str,.int .i64] [.str] heads0 x:=rfl
end Go.Proofs.YtldllfocpadkeaaGreatDoor
namespace Go.Proofs.YtldllfocpadkeaaGreatDoor
open Go Go.Eng Nice
set_option maxRecDepth 100000
theorem cap_n (c:UInt8):ocap (c,())=some (isCap c,()):=by
 rw[ocap_g,ecap_g];by_cases h1:65≤c.toNat
 ·by_cases h2:c.toNat≤90
  ·rw[isCap_iff.2 ⟨h1,h2⟩];simp(disch:=omega) only[cdT]
  ·rw[show isCap c=false by cases hb:isCap c;rfl;exact absurd (isCap_iff.1 hb).2 h2];simp(disch:=omega) only[cdT,cdF]
 ·rw[show isCap c=false by cases hb:isCap c;rfl;exact absurd (isCap_iff.1 hb).1 h1];simp(disch:=omega) only[cdT,cdF]
theorem dig_n (c:UInt8):odig (c,())=some (isDig c,()):=by
 rw[odig_g,edig_g];by_cases h1:48≤c.toNat
 ·by_cases h2:c.toNat≤57
  ·rw[isDig_iff.2 ⟨h1,h2⟩];simp(disch:=omega) only[cdT]
  ·rw[show isDig c=false by cases hb:isDig c;rfl;exact absurd (isDig_iff.1 hb).2 h2];simp(disch:=omega) only[cdT,cdF]
 ·rw[show isDig c=false by cases hb:isDig c;rfl;exact absurd (isDig_iff.1 hb).1 h1];simp(disch:=omega) only[cdT,cdF]
theorem rlower_l (t2:List UInt8):∀(rest done:List UInt8) (n:Nat),done.length+rest.length≤140737488355328→rest.length<n→hrlower_0 n t2 (done++rest) (done.length:Int)=some (done++rest.map lo,())
 |[],done,n,hl,hn=>by
  obtain⟨m,rfl⟩:∃m,n=m+1:=⟨n-1,by omega⟩
  rw[erlower_0,cdF (by simp)];simp
 |c::rest,done,n,hl,hn=>by
  obtain⟨m,rfl⟩:∃m,n=m+1:=⟨n-1,by omega⟩
  simp only[List.length_cons] at hl hn;have hc:=c.toNat_lt;have ih:=fun x=>rlower_l t2 rest (done++[x]) m (by simp;omega) (by omega)
  simp only[List.append_assoc,List.singleton_append,List.length_append,List.length_singleton,Int.natCast_add] at ih;rw[erlower_0];simp only[List.length_append,List.length_cons,Int.toNat_natCast,getD_mid,set_mid];by_cases h1:65≤c.toNat
  ·by_cases h2:c.toNat≤90
   ·simp(disch:=omega) only[cdT,gdT,gd_nil,inK_i64,inK_u8,wrap_u8];have e:UInt8.ofNat ((((c.toNat:Int)+32)%256).toNat)=lo c:=by rw[lo_up h1 h2];congr 1;omega
    rw[e];exact ih _
   ·simp(disch:=omega) only[cdT,cdF,gdT,gd_nil,inK_i64];have:=ih c;simpa[lo_not (show ¬(65≤c.toNat∧c.toNat≤90) by omega)] using this
  ·simp(disch:=omega) only[cdT,cdF,gdT,gd_nil,inK_i64];have:=ih c;simpa[lo_not (show ¬(65≤c.toNat∧c.toNat≤90) by omega)] using this
theorem rlower_n (s:List UInt8) (h:lowerP s=true):orlower (s,())=some (lower s,()):=by
 have h:s.length≤140737488355328:=of_decide_eq_true h;rw[orlower_g,erlower_g];exact rlower_l [] s [] heads0 (by simpa using h) (by unfold heads0;omega)
theorem slower_l (t2:List UInt8) (len:Nat):∀(rest done:List UInt8) (n:Nat),len=done.length+rest.length→len≤140737488355328→rest.length<n→hslower_0 n t2 (done++rest) (len:Int) (done.length:Int)=some (done++rest.map lo,())
 |[],done,n,he,hl,hn=>by
  obtain⟨m,rfl⟩:∃m,n=m+1:=⟨n-1,by omega⟩
  simp only[List.length_nil] at he;rw[eslower_0,cdF (by omega)];simp
 |c::rest,done,n,he,hl,hn=>by
  obtain⟨m,rfl⟩:∃m,n=m+1:=⟨n-1,by omega⟩
  simp only[List.length_cons] at he hn;have hc:=c.toNat_lt;have ih:=fun x=>slower_l t2 len rest (done++[x]) m (by simp;omega) hl (by omega)
  simp only[List.append_assoc,List.singleton_append,List.length_append,List.length_singleton,Int.natCast_add] at ih;rw[eslower_0];simp only[List.length_append,List.length_cons,Int.toNat_natCast,getD_mid,set_mid,UInt8.ofNat_toNat];cases hb:isCap c
  ·have h0:¬(65≤c.toNat∧c.toNat≤90):=fun h=>by rw[isCap_iff.2 h] at hb;cases hb
   simp(disch:=omega) only[cdT,gdT,gd_nil,inK_i64,inK_u8,cond_false];have:=ih c;simpa[lo_not h0] using this
  ·obtain⟨h1,h2⟩:=isCap_iff.1 hb;simp(disch:=omega) only[cdT,gdT,gd_nil,inK_i64,inK_u8,cond_true,wrap_u8];have e:UInt8.ofNat ((((c.toNat:Int)+97)%256-65)%256).toNat=lo c:=by rw[lo_up h1 h2];congr 1;omega
   rw[e];exact ih _
theorem slower_n (s:List UInt8) (h:lowerP s=true):oslower (s,())=some (lower s,()):=by
 have h:s.length≤140737488355328:=of_decide_eq_true h;rw[oslower_g,eslower_g];exact slower_l [] s.length s [] heads0 (by simp) h (by unfold heads0;omega)
theorem sval_l (t1:List UInt8) (t4:List UInt8) (t5:Bool) (h1:lowerP t1=true) (len:Nat):∀(rest done:List (List UInt8×List UInt8×Unit)) (n:Nat),len=done.length+rest.length→len≤140737488355328→rest.all (fun h=>lowerP h.1)=true→rest.length<n→
  hsval_0 n t1 t4 t5 (done++rest) (len:Int) (done.length:Int)=some ((valueN rest t1).1,(valueN rest t1).2,())
 |[],done,n,he,hl,ha,hn=>by
  obtain⟨m,rfl⟩:∃m,n=m+1:=⟨n-1,by omega⟩
  simp only[List.length_nil] at he;rw[esval_0,cdF (by omega)];rfl
 |c::rest,done,n,he,hl,ha,hn=>by
  obtain⟨m,rfl⟩:∃m,n=m+1:=⟨n-1,by omega⟩
  simp only[List.length_cons] at he hn;simp only[List.all_cons,Bool.and_eq_true] at ha;have ih:=sval_l t1 t4 t5 h1 len rest (done++[c]) m (by simp;omega) hl ha.2 (by omega);simp only[List.append_assoc,List.singleton_append,List.length_append,List.length_singleton,Int.natCast_add] at ih;rw[esval_0];simp only[List.length_append,List.length_cons,Int.toNat_natCast,getD_mid]
  simp(disch:=omega) only[cdT,gdT,gd_nil];cases hb:lower c.1==lower t1
  ·simp(disch:=first|omega|assumption|exact ha.1) only[gdT,gdB,gd_nil,inK_i64,cond_false];simp only[valueN,hb,cond_false];exact ih
  ·simp(disch:=first|omega|assumption|exact ha.1) only[gdB,gd_nil,cond_true];simp only[valueN,hb,cond_true]
theorem sval_n (r:Ty.Den ReqT) (s:List UInt8) (h:valueP r.2.2.2.1 s=true):osval (r,s,())=some ((valueN r.2.2.2.1 s).1,(valueN r.2.2.2.1 s).2,()):=by
 unfold valueP at h;simp only[Bool.and_eq_true,decide_eq_true_eq] at h;rw[osval_g,esval_g];exact sval_l s [] false h.2.1 _ r.2.2.2.1 [] heads0 (by simp) h.1 h.2.2 (by unfold heads0;omega)
theorem rval_l (t1:List UInt8) (a b c' d:List UInt8) (t4:List UInt8) (t5:Bool) (h1:lowerP t1=true):∀(rest done:List (List UInt8×List UInt8×Unit)) (n:Nat),done.length+rest.length≤140737488355328→rest.all (fun h=>lowerP h.1)=true→rest.length<n→
  hrval_0 n t1 a b c' (done++rest) d t4 t5 (done.length:Int)=some ((valueN rest t1).1,(valueN rest t1).2,())
 |[],done,n,hl,ha,hn=>by
  obtain⟨m,rfl⟩:∃m,n=m+1:=⟨n-1,by omega⟩
  rw[erval_0,cdF (by simp)];rfl
 |c::rest,done,n,hl,ha,hn=>by
  obtain⟨m,rfl⟩:∃m,n=m+1:=⟨n-1,by omega⟩
  simp only[List.length_cons] at hl hn;simp only[List.all_cons,Bool.and_eq_true] at ha;have ih:=rval_l t1 a b c' d t4 t5 h1 rest (done++[c]) m (by simp;omega) ha.2 (by omega);simp only[List.append_assoc,List.singleton_append,List.length_append,List.length_singleton,Int.natCast_add] at ih;rw[erval_0];simp only[List.length_append,List.length_cons,Int.toNat_natCast,getD_mid]
  simp(disch:=omega) only[cdT,gdT];cases hb:lower c.1==lower t1
  ·simp(disch:=first|omega|assumption|exact ha.1) only[gdT,gdB,gd_nil,inK_i64,cond_false];simp only[valueN,hb,cond_false];exact ih
  ·simp(disch:=first|omega|assumption|exact ha.1) only[gdT,gdB,gd_nil,cond_true];simp only[valueN,hb,cond_true]
theorem rval_n (r:Ty.Den ReqT) (s:List UInt8) (h:valueP r.2.2.2.1 s=true):orval (r,s,())=some ((valueN r.2.2.2.1 s).1,(valueN r.2.2.2.1 s).2,()):=by
 unfold valueP at h;simp only[Bool.and_eq_true,decide_eq_true_eq] at h;rw[orval_g,erval_g];exact rval_l s _ _ _ _ [] false h.2.1 r.2.2.2.1 [] heads0 (by simpa using h.1) h.2.2 (by unfold heads0;omega)
theorem cut_n (s:List UInt8) (n:Int) (h:0≤n):ocut (s,n,())=some (cut s n,()):=by
 rw[ocut_g,ecut_g];rw[gdT (by omega),gdT (Int.min_le_left _ _),gd_nil];have:List.take (min (s.length:Int) n).toNat s=cut s n:=by
  unfold cut;by_cases hn:n≤s.length
  ·rw[Int.min_eq_right hn]
  ·rw[Int.min_eq_left (by omega),List.take_of_length_le (by simp),List.take_of_length_le (by omega)]
 rw[this]
theorem numV_lt (s:List UInt8) (h:allDig s=true):numV s<10^s.length:=by
 have key:∀(s:List UInt8) (a:Nat),allDig s=true→s.foldl (fun n c=>n*10+(c.toNat-48)) a<(a+1)*10^s.length:=by
  intro s
  induction s with
  |nil=>intro a _;simp
  |cons c s ih=>
   intro a h;simp only[allDig,List.all_cons,Bool.and_eq_true] at h;have hd:=isDig_iff.1 h.1;have:=ih (a*10+(c.toNat-48)) h.2;refine Nat.lt_of_lt_of_le this ?_;rw[List.length_cons,Nat.pow_succ,Nat.mul_comm (10^s.length) 10,←Nat.mul_assoc];exact Nat.mul_le_mul_right _ (by omega)
 have:=key s 0 h;simpa[numV] using this
theorem pow10_le {k n:Nat} (h:k≤n):(10:Nat)^k≤10^n:=Nat.pow_le_pow_right (by decide) h
theorem numV_snoc (s:List UInt8) (c:UInt8):numV (s++[c])=numV s*10+(c.toNat-48):=by simp[numV]
theorem allDig_snoc {s:List UInt8} {c:UInt8} (h1:allDig s=true) (h2:isDig c=true):allDig (s++[c])=true:=by simp only[allDig,List.all_append,List.all_cons,List.all_nil,Bool.and_true,Bool.and_eq_true] at h1⊢;exact⟨h1,h2⟩
theorem rnum_l (t4:Int) (t5:Bool) (most:Int) (hm:most≤18) (s:List UInt8) (hl:s.length≤140737488355328):∀(rest done:List UInt8) (n:Nat),s=done++rest→allDig done=true→done.length≤18→rest.length<n→(0<done.length→(done.length:Int)≤most)→
  hrnum_0 n s most t4 t5 (numV done:Int) (done.length:Int)=some ((bif allDig rest&&decide (rest=[]∨(s.length:Int)≤most) then((numV s:Int),decide (1≤s.length),()) else(0,false,())))
 |[],done,n,hs,hd,hl18,hn,hmo=>by
  obtain⟨m,rfl⟩:∃m,n=m+1:=⟨n-1,by omega⟩
  rw[List.append_nil] at hs;subst hs;rw[ernum_0,cdF (by omega)];by_cases h1:1≤s.length
  ·rw[cdT (by omega)];simp[allDig,h1]
  ·rw[cdF (by omega)];simp[allDig,h1]
 |c::rest,done,n,hs,hd,hl18,hn,hmo=>by
  obtain⟨m,rfl⟩:∃m,n=m+1:=⟨n-1,by omega⟩
  have hsl:s.length=done.length+(rest.length+1):=by rw[hs];simp
  simp only[List.length_cons] at hn;have hg:s.getD done.length 0=c:=by rw[hs,getD_mid]
  have hc:=c.toNat_lt;rw[ernum_0];simp only[Int.toNat_natCast,hg,UInt8.ofNat_toNat];rw[cdT (by omega)];cases hb:isDig c
  ·simp(disch:=first|omega|(simp only[inK_u8,inK_i64,wrap_u8];omega)) only[gdT,gd_nil,cond_false];simp[allDig,hb]
  ·have hcd:=isDig_iff.1 hb;rw[cond_true];by_cases hk:most≤(done.length:Int)
   ·rw[cdT (by omega)];simp(disch:=first|omega|(simp only[inK_u8,inK_i64,wrap_u8];omega)) only[gdT,gd_nil];rw[show(allDig (c::rest)&&decide (c::rest=[]∨(s.length:Int)≤most))=false by
     rw[Bool.and_eq_false_iff];right;simp;omega]
    rfl
   ·have hv:=numV_lt done hd;have hp:=pow10_le (show done.length≤17 by omega);have ih:=rnum_l t4 t5 most hm s hl rest (done++[c]) m (by simp[hs]) (allDig_snoc hd hb) (by simp;omega) (by omega) (fun _=>by simp;omega);rw[numV_snoc] at ih;simp only[List.length_append,List.length_singleton,Int.natCast_add,Int.natCast_mul] at ih
    rw[cdF (by omega)];simp(disch:=first|omega|(simp only[inK_u8,inK_i64,wrap_u8];omega)) only[gdT,gd_nil];rw[show IntKind.u8.wrap ((c.toNat:Int)-48)=((c.toNat-48:Nat):Int) by rw[wrap_u8];omega];refine Eq.trans ih ?_;have e1:allDig (c::rest)=allDig rest:=by simp[allDig,hb]
    rw[e1];cases rest with
    |nil=>
     have:(s.length:Int)≤most:=by simp at hsl;omega
     simp[this]
    |cons d r=>simp
theorem rnum_n (s:List UInt8) (most:Int) (h:refNumP s most=true):ornum (s,most,())=some ((refNum s most).1,(refNum s most).2,()):=by
 unfold refNumP at h;simp only[Bool.and_eq_true,decide_eq_true_eq] at h;rw[ornum_g,ernum_g];have:=rnum_l 0 false most h.2 s h.1 s [] heads0 rfl rfl (by simp) (by unfold heads0;omega) (fun h=>by simp at h);refine Eq.trans this ?_;unfold refNum;cases s with
 |nil=>
  by_cases hm:(0:Int)≤most<;>simp[allDig,numV,hm]
 |cons c r=>
  cases allDig (c::r)
  ·rfl
  ·by_cases hm:((c::r).length:Int)≤most
   ·rw[decide_eq_true (show c::r=[]∨((c::r).length:Int)≤most from .inr hm),decide_eq_true hm];rfl
   ·rw[decide_eq_false (show ¬(c::r=[]∨((c::r).length:Int)≤most) by simp at hm⊢;exact hm),decide_eq_false hm];rfl
theorem rlen_l (a b c' d:List UInt8) (t2 t3:Int):∀(rest done:List (List UInt8×List UInt8×Unit)) (n:Nat) (v:List UInt8) (k:Nat),done.length+rest.length≤140737488355328→k≤done.length→v.length≤140737488355328→rest.all (fun h=>lowerP h.1&&lowerP h.2.1)=true→rest.length<n→
  hrlen_0 n a b c' (done++rest) d t2 t3 v (k:Int) (done.length:Int)=some ((refLenOut (refHeads rest v k)).1,(refLenOut (refHeads rest v k)).2,())
 |[],done,n,v,k,hl,hk,hv,ha,hn=>by
  obtain⟨m,rfl⟩:∃m,n=m+1:=⟨n-1,by omega⟩
  rw[erlen_0,cdF (by simp)];simp only[refHeads,refLenOut];by_cases h0:k=0
  ·subst h0;simp
  ·rw[show((k:Int)==0)=false by simp;omega,cond_false,if_neg h0];have hP:refNumP v 6=true:=by unfold refNumP;simp[hv]
   rw[gdB hP,gd_nil];cases hb:(refNum v 6).2
   ·rw[cond_false];by_cases h1:1<k
    ·rw[cdT (by omega),if_pos (.inr rfl),gdB hP,gd_nil]
    ·rw[cdF (by omega),if_pos (.inr rfl),gdB hP,gd_nil]
   ·rw[cond_true];by_cases h1:1<k
    ·rw[cdT (by omega),if_pos (.inl h1)]
    ·rw[cdF (by omega),if_neg (by simp;omega)];by_cases h3:(refNum v 6).1>300
     ·rw[cdT (by omega),if_pos h3]
     ·rw[cdF (by omega),if_neg h3]
 |h::rest,done,n,v,k,hl,hk,hv,ha,hn=>by
  obtain⟨m,rfl⟩:∃m,n=m+1:=⟨n-1,by omega⟩
  simp only[List.length_cons] at hl hn;simp only[List.all_cons,Bool.and_eq_true] at ha;have hv2:h.2.1.length≤140737488355328:=of_decide_eq_true ha.1.2;have ih:=fun v k hk hv=>rlen_l a b c' d t2 t3 rest (done++[h]) m v k (by simp;omega) hk hv (by simpa using ha.2) (by omega)
  simp only[List.append_assoc,List.singleton_append,List.length_append,List.length_singleton,Int.natCast_add] at ih;rw[erlen_0];simp only[List.length_append,List.length_cons,Int.toNat_natCast,getD_mid];rw[cdT (by omega),gdB ha.1.1];simp(disch:=omega) only[gdT,gd_nil];simp only[show([99,111,110,116,101,110,116,45,108,101,110,103,116,104]:List UInt8)=clen from rfl,show([116,114,97,110,115,102,101,114,45,101,110,99,111,100,105,110,103]:List UInt8)=tenc from rfl]
  cases hb:lower h.1==clen
  ·rw[cond_false];cases hb2:lower h.1==tenc
   ·rw[cond_false,gdT (by simp only[inK_i64];omega),gd_nil];simp only[refHeads,hb,hb2,cond_false];exact ih v k (by omega) hv
   ·rw[cond_true];simp only[refHeads,hb,hb2,cond_false,cond_true,refLenOut]
  ·rw[cond_true];simp(disch:=first|omega|(simp only[inK_u8,inK_i64,wrap_u8];omega)) only[gdT,gd_nil];simp only[refHeads,hb,cond_true];have:=ih h.2.1 (k+1) (by omega) hv2;simpa using this
theorem rlen_n (r:Ty.Den ReqT) (h:refLenP r.2.2.2.1=true):orlen (r,())=some ((refLen r.2.2.2.1).1,(refLen r.2.2.2.1).2,()):=by
 unfold refLenP at h;simp only[Bool.and_eq_true,decide_eq_true_eq] at h;rw[orlen_g,erlen_g];exact rlen_l _ _ _ _ 0 0 r.2.2.2.1 [] heads0 [] 0 (by simpa using h.1) (by simp) (by simp) h.2 (by unfold heads0;omega)
end Go.Proofs.YtldllfocpadkeaaGreatDoor
namespace Nice
open Go Go.Eng
def upTo (c:UInt8):List UInt8→List UInt8
 |[]=>[]
 |b::r=>bif b==c then [] else b::upTo c r
def hasB (c:UInt8) (s:List UInt8):Bool:=s.any (· ==c)
theorem upTo_len (c:UInt8):∀s,(upTo c s).length≤s.length
 |[]=>Nat.le_refl _
 |b::r=>by
  unfold upTo;cases b==c
  ·simpa using upTo_len c r
  ·simp
theorem upTo_lt (c:UInt8):∀s,hasB c s=true→(upTo c s).length<s.length
 |[],h=>by cases h
 |b::r,h=>by
  unfold upTo;simp only[hasB,List.any_cons] at h;cases hb:b==c
  ·rw[hb,Bool.false_or] at h;simpa using upTo_lt c r h
  ·simp
theorem upTo_not (c:UInt8):∀s,hasB c s=false→upTo c s=s
 |[],_=>rfl
 |b::r,h=>by
  simp only[hasB,List.any_cons,Bool.or_eq_false_iff] at h;unfold upTo;rw[h.1,cond_false,upTo_not c r h.2]
theorem upTo_all (c:UInt8):∀s,(upTo c s).length=s.length→hasB c s=false
 |s,h=>by
  cases hb:hasB c s
  ·rfl
  ·have:=upTo_lt c s hb;omega
theorem upTo_take (c:UInt8):∀s,s.take (upTo c s).length=upTo c s
 |[]=>rfl
 |b::r=>by
  unfold upTo;cases b==c
  ·simp[upTo_take c r]
  ·rfl
theorem index1 (c:UInt8):∀s,Lib.index s [c]=bif hasB c s then((upTo c s).length:Int) else -1
 |[]=>rfl
 |b::r=>by
  have ih:=index1 c r;rw[Lib.index];simp only[hasB,List.any_cons] at ih⊢;unfold upTo;by_cases hb:b=c
  ·subst hb;simp[List.isPrefixOf]
  ·have h1:(b==c)=false:=by simpa using hb
   have h2:([c]:List UInt8).isPrefixOf (b::r)=false:=by simp[List.isPrefixOf,Ne.symm hb]
   rw[h1,h2,ih];cases r.any (· ==c)
   ·rfl
   ·simp only[cond_true,Bool.or_true,cond_false,List.length_cons];have:(((upTo c r).length:Int)== -1)=false:=by
     rw[beq_eq_false_iff_ne];omega
    rw[this];simp
theorem cut1 (c:UInt8) (s:List UInt8):Lib.cut s [c]=bif hasB c s then(upTo c s,s.drop ((upTo c s).length+1),true) else(s,[],false):=by
 unfold Lib.cut;rw[index1];cases hasB c s
 ·rfl
 ·simp only[cond_true];rw[if_pos (Int.natCast_nonneg _),Int.toNat_natCast,upTo_take];rfl
theorem split1_no (c:UInt8) (s:List UInt8) (h:hasB c s=false):Lib.split s [c]=[s]:=by
 have hi:Lib.index s [c]= -1:=by rw[index1,h];rfl
 unfold Lib.split;rw[Lib.count_miss hi];rfl
theorem split1_yes (c:UInt8) (s:List UInt8) (h:hasB c s=true):Lib.split s [c]=upTo c s::Lib.split (s.drop ((upTo c s).length+1)) [c]:=by
 have hi:Lib.index s [c]=((upTo c s).length:Nat):=by rw[index1,h];rfl
 have hc:Lib.count s [c]=1+Lib.count (s.drop ((upTo c s).length+1)) [c]:=by
  rw[Lib.count_hit (by simp) hi];rfl
 unfold Lib.split;rw[hc,Nat.add_comm,Lib.splitK];rw[hi];have:(((upTo c s).length:Int)== -1)=false:=by rw[beq_eq_false_iff_ne];omega
 rw[this];simp only[Bool.false_eq_true,if_false,Int.toNat_natCast,Nat.add_zero,List.length_singleton];rw[upTo_take]
abbrev AskD:Type:=Int×List UInt8×Int×List UInt8×Int×List UInt8×List UInt8×List UInt8×Int×Bool×Unit
def wPre:List UInt8:=[112,114,101,102,105,120]
def wAft:List UInt8:=[97,102,116,101,114]
def wMax:List UInt8:=[109,97,120]
def wVer:List UInt8:=[118,101,114,115,105,111,110,115]
def eqS (s:List UInt8):List UInt8:=s++[61]
def keyB (v:List UInt8):Bool:=v==[]||isKey v
def setPre (a:AskD) (v:List UInt8):AskD:=(a.1,a.2.1,a.2.2.1,a.2.2.2.1,a.2.2.2.2.1,a.2.2.2.2.2.1,v,a.2.2.2.2.2.2.2)
def setAft (a:AskD) (v:List UInt8):AskD:=(a.1,a.2.1,a.2.2.1,a.2.2.2.1,a.2.2.2.2.1,a.2.2.2.2.2.1,a.2.2.2.2.2.2.1,v,a.2.2.2.2.2.2.2.2)
def setMax (a:AskD) (n:Int):AskD:=(a.1,a.2.1,a.2.2.1,a.2.2.2.1,a.2.2.2.2.1,a.2.2.2.2.2.1,a.2.2.2.2.2.2.1,a.2.2.2.2.2.2.2.1,n,a.2.2.2.2.2.2.2.2.2)
def setKind (a:AskD) (n:Int):AskD:=(n,a.2)
end Nice
namespace Nice
open Go Go.Eng
theorem hide {α:Type} (x:α):∃y,y=x:=⟨x,rfl⟩
noncomputable def hid {α:Type} (x:α):α:=Classical.choose (hide x)
theorem hid_eq {α:Type} (x:α):hid x=x:=Classical.choose_spec (hide x)
abbrev HeadD:=List UInt8×List UInt8×Unit
abbrev ReqD:=List UInt8×List UInt8×List UInt8×List HeadD×List UInt8×Unit
abbrev ScanD:=Int×Int×Int×Int×List UInt8×ReqD×Int×List ReqD×Unit
abbrev ReqO:OT:=.pair (.d .str) (.pair (.d .str) (.pair (.d .str) (.pair (.vec (.pair .str (.pair .str .unit)) 101) (.pair (.d .str) .unit))))
noncomputable abbrev sigFi:OSpec:=⟨false,0,.unit,0,[.d .str],[ReqO,.d (.int .i64),.d .bool],fun _ _=>true,fun x _=>(x,([],[],[],[],[],()),(0:Int),false,())⟩
noncomputable abbrev sigOn:OSpec:=⟨false,0,.unit,0,[.d .str],[ReqO,.d (.int .i64),.d (.int .i64)],fun _ _=>true,fun x _=>(x,([],[],[],[],[],()),(0:Int),(0:Int),())⟩
def isVis (c:UInt8):Bool:=decide (33≤c.toNat∧c.toNat≤126∧c.toNat≠35)
def isTok (c:UInt8):Bool:=decide (65≤c.toNat∧c.toNat≤90∨97≤c.toNat∧c.toNat≤122∨48≤c.toNat∧c.toNat≤57∨c.toNat=45)
def isLet (c:UInt8):Bool:=decide (65≤c.toNat∧c.toNat≤90∨97≤c.toNat∧c.toNat≤122)
def isSp (c:UInt8):Bool:=c==32||c==9
def trimL (s:List UInt8):List UInt8:=s.dropWhile isSp
def trimR (s:List UInt8):List UInt8:=(s.reverse.dropWhile isSp).reverse
def longN (x:ScanD) (c:UInt8):Int:=
 if c.toNat=13∨x.1≥7∨x.1=4 then 0
 else if x.1<5∧x.2.2.1≥200 then 414
 else if x.1≥5∧x.2.2.1≥120 then 431
 else if x.1=5∧x.2.2.1=0∧(x.2.2.2.2.2.1.2.2.2.1.length:Int)≥10 then 431
 else 0
noncomputable def letS:PSpec:=⟨[.byte],[.bool],fun _=>true,fun x=>(isLet x.1,())⟩
theorem hidO {P:Program} {gl:List (Nat×List Value)} {f:FuncId} {S:OSpec} {g:S.root.Den→DenO S.ts→Option (S.root.Den×DenO S.rs)} (h:ObjC P gl f (ofOO S g)) {p:S.root.Den→DenO S.ts→Bool} {n:S.root.Den→DenO S.ts→S.root.Den×DenO S.rs}
  (hp:p=fun x y=>(g x y).isSome) (hn:n=fun x y=>(g x y).getD (S.root.dflt,dfltO S.rs)):ObjC P gl f (niceO S p n):=h.nice fun x y hx=>by
 subst hp hn;obtain⟨z,hz⟩:=Option.isSome_iff_exists.1 hx;show g x y=some ((g x y).getD _);rw[hz];rfl
theorem hidP {P:Program} {gl:List (Nat×List Value)} {f:FuncId} {ts rs:List Ty} {g:DenL ts→Option (DenL rs)} (h:PureC P gl f (ofO ts rs g)) {p:DenL ts→Bool} {n:DenL ts→DenL rs}
  (hp:p=fun x=>(g x).isSome) (hn:n=fun x=>(g x).getD (dfltL rs)):PureC P gl f ⟨ts,rs,p,n⟩:=h.nice fun x hx=>by
 subst hp hn;obtain⟨z,hz⟩:=Option.isSome_iff_exists.1 hx;show g x=some ((g x).getD _);rw[hz];rfl
end Nice
namespace Go.Proofs.YtldllfocpadkeaaGreatDoor
open Go Go.Eng Nice
set_option maxRecDepth 1000000
abbrev shlet:List (Nat×List (Nat×Sh)):=[]
noncomputable def olet (x:DenL [.byte]):Option (DenL [.bool]):=fO Tryz.prog (envS []) (shOf shlet) Tryz.f160 [.byte] [.bool] x
end Go.Proofs.YtldllfocpadkeaaGreatDoor
