/-
  Part of the proof. No condition.
-/
import Derived.Shelf.Strconv.AtoiAll
import Derived.Shelf.GgClosure.StringsIndexFuncTop
import Derived.Shelf.Strconv.ParseIntPublic10
import Derived.Lib.TrimByte
import Derived.Lib.Case
import Derived.Lib.ParseIntBCases
import Derived.Lib.SplitLaws
import Derived.Test.YtldllfocpadkeaaGreatDoorSym
noncomputable section
namespace Nice
open Go Go.Eng
def lo (c:UInt8):UInt8:=if 65<=c/\c<=90 then c+32 else c
def lower (s:L8):L8:=s.map lo
def lowerP (s:L8):Bool:=decide (s.length<=140737488355328)
def isCap (c:UInt8):Bool:=decide (65<=c/\c<=90)
def isDig (c:UInt8):Bool:=decide (48<=c/\c<=57)
def valueN:List (L8×L8×Unit)->L8->L8×Bool
 |[],_=>([],false)
 |h::r,n=>bif lower h.1==lower n then(h.2.1,true) else valueN r n
def valueP (l:List (L8×L8×Unit)) (n:L8):Bool:=decide (l.length<=140737488355328)&&(lowerP n&&l.all λh=>lowerP h.1)
def atoiN (s:L8):Int×Bool:=match Lib.atoiAll s with
 | .ok v=>(v,true)
 |Lib.NumEnd.syntax=>(0,false)
 | .range=>(Lib.atoiSat s,false)
def atoiP (s:L8):Bool:=decide (s.length<=140737488355328)
def allDig (s:L8):Bool:=s.all isDig
def numV (s:L8):Nat:=s.foldl (λn c=>n*10+(c.toNat-48)) 0
def scanNum (s:L8):Int×Bool:=bif allDig s then((atoiN s).1,(atoiN s).2&&decide (s.length<=6)) else(0,false)
def clen:L8:=[99,111,110,116,101,110,116,45,108,101,110,103,116,104]
def tenc:L8:=[116,114,97,110,115,102,101,114,45,101,110,99,111,100,105,110,103]
def scanLen (l:List (L8×L8×Unit)):Int:=bif (scanNum (valueN l clen).1).2 then(scanNum (valueN l clen).1).1 else 0
def scanLenP (l:List (L8×L8×Unit)):Bool:=valueP l clen&&atoiP (valueN l clen).1
def refNum (s:L8) (most:Int):Int×Bool:=bif allDig s&&decide ((s.length:Int)<=most) then((numV s:Int),decide (1<=s.length)) else(0,false)
def refNumP (s:L8) (most:Int):Bool:=decide (s.length<=140737488355328)&&decide (most<=18)
def refHeads:List (L8×L8×Unit)->L8->Nat->Option (L8×Nat)
 |[],n,k=>some (n,k)
 |h::r,n,k=>bif lower h.1==clen then refHeads r h.2.1 (k+1) else bif lower h.1==tenc then none else refHeads r n k
def refLenOut:Option (L8×Nat)->Int×Int
 |none=>(0,400)
 |some (n,k)=>if k=0 then(0,0) else if 1<k\/(refNum n 6).2=false then(0,400) else if(refNum n 6).1>300 then((refNum n 6).1,413) else((refNum n 6).1,0)
def refLen (l:List (L8×L8×Unit)):Int×Int:=refLenOut (refHeads l [] 0)
def refLenP (l:List (L8×L8×Unit)):Bool:=decide (l.length<=140737488355328)&&l.all λh=>lowerP h.1&&lowerP h.2.1
def cut (s:L8) (n:Int):L8:=s.take n.toNat
theorem cdT {α:Type} {p:Prop} [Decidable p] {a b:α} (h:p):(bif decide p then a else b)=a:=by simp[h]
theorem cdF {α:Type} {p:Prop} [Decidable p] {a b:α} (h:¬p):(bif decide p then a else b)=b:=by simp[h]
theorem gd_nil {α:Type} {r:Option α}:gd [] r=r:=rfl
theorem gdT {α:Type} {p:Prop} [Decidable p] {l:List Bool} {r:Option α} (h:p):gd (decide p::l) r=gd l r:=by simp[gd,h]
theorem gdB {α:Type} {b:Bool} {l:List Bool} {r:Option α} (h:b=true):gd (b::l) r=gd l r:=by simp[gd,h]
theorem inK_i64 {n:Int}:inK .i64 n↔ -9223372036854775808<=n/\n<=9223372036854775807:=Iff.rfl
theorem inK_u8 {n:Int}:inK .u8 n↔0<=n/\n<=255:=Iff.rfl
theorem wrap_u8 {n:Int}:IntKind.u8.wrap n=n%256:=rfl
theorem getD_mid {α:Type} (a b:List α) (x d:α):(a++x::b).getD a.length d=x:=by simp
theorem set_mid {α:Type} (a b:List α) (x y:α):(a++x::b).set a.length y=a++y::b:=by simp
theorem le8 {a c:UInt8}:a<=c↔a.toNat<=c.toNat:=UInt8.le_iff_toNat_le
theorem isCap_iff {c:UInt8}:isCap c=true↔65<=c.toNat/\c.toNat<=90:=by
 unfold isCap;rw[decide_eq_true_iff,le8,le8];rfl
theorem isDig_iff {c:UInt8}:isDig c=true↔48<=c.toNat/\c.toNat<=57:=by
 unfold isDig;rw[decide_eq_true_iff,le8,le8];rfl
theorem lo_up {c:UInt8} (h1:65<=c.toNat) (h2:c.toNat<=90):lo c=UInt8.ofNat (c.toNat+32):=by
 unfold lo;rw[if_pos ⟨le8.2 h1,le8.2 h2⟩];apply UInt8.toNat.inj;simp
theorem lo_not {c:UInt8} (h:¬(65<=c.toNat/\c.toNat<=90)):lo c=c:=by
 unfold lo;rw[if_neg];rintro⟨h1,h2⟩;exact h ⟨le8.1 h1,le8.1 h2⟩
abbrev HeadT:Ty:=.pair .str (.pair .str .unit)
abbrev ReqT:Ty:=.pair .str (.pair .str (.pair .str (.pair (.slice HeadT) (.pair .str .unit))))
def trueS:PSpec:=⟨[],[.bool],λ_=>true,λ_=>(true,())⟩
def lowerS:PSpec:=⟨[.str],[.str],λx=>lowerP x.1,λx=>(lower x.1,())⟩
def capS:PSpec:=⟨[.byte],[.bool],λ_=>true,λx=>(isCap x.1,())⟩
def digS:PSpec:=⟨[.byte],[.bool],λ_=>true,λx=>(isDig x.1,())⟩
def atoiS:PSpec:=⟨[.str],[.int .i64,.err],λx=>atoiP x.1,λx=>((atoiN x.1).1,(atoiN x.1).2,())⟩
def valueS:PSpec:=⟨[ReqT,.str],[.str,.bool],λx=>valueP x.1.2.2.2.1 x.2.1,λx=>((valueN x.1.2.2.2.1 x.2.1).1,(valueN x.1.2.2.2.1 x.2.1).2,())⟩
def scanNumS:PSpec:=⟨[.str],[.int .i64,.bool],λx=>atoiP x.1,λx=>((scanNum x.1).1,(scanNum x.1).2,())⟩
def scanLenS:PSpec:=⟨[ReqT],[.int .i64],λx=>scanLenP x.1.2.2.2.1,λx=>(scanLen x.1.2.2.2.1,())⟩
def refNumS:PSpec:=⟨[.str,.int .i64],[.int .i64,.bool],λx=>refNumP x.1 x.2.1,λx=>((refNum x.1 x.2.1).1,(refNum x.1 x.2.1).2,())⟩
def refLenS:PSpec:=⟨[ReqT],[.int .i64,.int .i64],λx=>refLenP x.1.2.2.2.1,λx=>((refLen x.1.2.2.2.1).1,(refLen x.1.2.2.2.1).2,())⟩
def cutS:PSpec:=⟨[.str,.int .i64],[.str],λx=>decide (0<=x.2.1),λx=>(cut x.1 x.2.1,())⟩
open Go Go.Eng
def keyCh (c:UInt8):Bool:=decide (97<=c.toNat/\c.toNat<=122\/48<=c.toNat/\c.toNat<=57\/c.toNat=46\/c.toNat=45\/c.toNat=95\/c.toNat=47)
def isKey (s:L8):Bool:=s.all keyCh&&(decide (1<=s.length)&&decide (s.length<=40))
def bndS (s:L8):Bool:=decide (s.length<=140737488355328)
def notDig (r:Nat):Bool:=decide (r<48)||decide (57<r)
def idxF (s:L8):Int:=Lib.idxFunc notDig true (bs s)
def intN (s:L8):Int×Bool:=match Lib.parseIntB 64 s with
 | .ok v=>(v,true)
 |Lib.NumEnd.syntax=>(0,false)
 | .range=>(Lib.intSat 64 s,false)
def numN (s:L8) (most lo hi:Int):Int×Bool:=((intN s).1,allDig s&&((intN s).2&&(decide ((s.length:Int)<=most)&&(decide ((intN s).1>=lo)&&decide ((intN s).1<=hi)))))
def hasPre (s p:L8):Bool:=decide (p.length<=s.length)&&s.take p.length==p
def hasSuf (s p:L8):Bool:=decide (p.length<=s.length)&&s.drop (s.length-p.length)==p
def cutPre (s p:L8):L8×Bool:=bif hasPre s p then(s.drop p.length,true) else(s,false)
def cutSuf (s p:L8):L8×Bool:=bif hasSuf s p then(s.take (s.length-p.length),true) else(s,false)
def digsF:Nat->Nat->L8->L8
 |0,_,acc=>acc
 |f+1,n,acc=>if n/10=0 then UInt8.ofNat (48+n%10)::acc else digsF f (n/10) (UInt8.ofNat (48+n%10)::acc)
def digs (u:Int):L8:=digsF 20 u.toNat []
def digits (n:Int):L8:=if n<0 then 45::digs (-n) else digs n
def vPre:L8:=[118,101,114,115,105,111,110,61]
def zAsk:Int×L8×Int×L8×Int×L8×L8×L8×Int×Bool×Unit:=(0,[],0,[],0,[],[],[],0,false,())
theorem decode_ascii {s:ByteArray} {i:Nat} (h:(s.get! i).toNat<128):Utf8.decode s i=((s.get! i).toNat,1):=by
 unfold Utf8.decode;simp only[Nat.add_zero];rw[if_pos (show(s.get! i).toNat<0x80 from h)]
theorem decode_high {s:ByteArray} {i:Nat} (h:128<=(s.get! i).toNat):57<(Utf8.decode s i).1:=by
 unfold Utf8.decode;simp only[Nat.add_zero];rw[if_neg (show ¬(s.get! i).toNat<0x80 by omega)];have hr:57<Utf8.runeError:=by decide
 have hge:∀(c:Nat) (b:Bool) (k:Nat),c>=k->57<k->57<c:=λc b k h1 h2=>by omega
 repeat' split
 all_goals first
  |exact hr
  |(rename_i h1;simp only[Bool.and_eq_true,decide_eq_true_eq] at h1;omega)
  |(rename_i h1;have h1:=of_decide_eq_true h1;omega)
  |(rename_i h1;omega)
theorem idx_l (s:ByteArray):∀(f pos:Nat),s.size-pos<=f->decide (Lib.idxFuncFrom notDig true s f pos>=0)= !((s.data.toList.drop pos).all isDig)
 |0,pos,h=>by
  have:s.data.toList.drop pos=[]:=List.drop_eq_nil_of_le (by show s.data.toList.length<=pos;have:s.data.toList.length=s.size:=rfl;omega);rw[this];simp[Lib.idxFuncFrom]
 |f+1,pos,h=>by
  unfold Lib.idxFuncFrom;by_cases hp:pos<s.size
  ·rw[if_pos hp];have hp':pos<s.data.toList.length:=hp;have hd:s.data.toList.drop pos=s.get! pos::s.data.toList.drop (pos+1):=by
    rw[List.drop_eq_getElem_cons hp'];congr 1;show _=s.data[pos]!;rw[getElem!_pos s.data pos hp];rfl
   rw[hd];simp only[List.all_cons];by_cases ha:(s.get! pos).toNat<128
   ·rw[decode_ascii ha];by_cases hdg:48<=(s.get! pos).toNat/\(s.get! pos).toNat<=57
    ·rw[if_neg (by simp only[notDig,Bool.or_eq_true,decide_eq_true_eq];omega),isDig_iff.2 hdg,Bool.true_and];exact idx_l s f (pos+1) (by omega)
    ·have:isDig (s.get! pos)=false:=by cases hb:isDig (s.get! pos);rfl;exact absurd (isDig_iff.1 hb) hdg
     rw[if_pos (by simp only[notDig,Bool.or_eq_true,decide_eq_true_eq];omega),this];simp
   ·have:=decode_high (s:=s) (i:=pos) (by omega);have hd:isDig (s.get! pos)=false:=by cases hb:isDig (s.get! pos);rfl;have:=isDig_iff.1 hb;omega
    rw[if_pos (by simp only[notDig,Bool.or_eq_true,decide_eq_true_eq];omega),hd];simp
  ·rw[if_neg hp];have:s.data.toList.drop pos=[]:=List.drop_eq_nil_of_le (by have:s.data.toList.length=s.size:=rfl;omega);rw[this];rfl
theorem idxF_ge (s:L8):decide (idxF s>=0)= !allDig s:=by
 have:=idx_l (bs s) (bs s).size 0 (by omega);simpa[idxF,Lib.idxFunc,allDig,bs] using this
abbrev AskT:Ty:=.pair (.int .i64) (.pair .str (.pair (.int .i64) (.pair .str (.pair (.int .i64) (.pair .str (.pair .str (.pair .str (.pair (.int .i64) (.pair .bool .unit)))))))))
def noS (ts rs:List Ty):PSpec:=⟨ts,rs,λ_=>false,λ_=>dfltL rs⟩
def keyChS:PSpec:=⟨[.byte],[.bool],λ_=>true,λx=>(keyCh x.1,())⟩
def isKeyS:PSpec:=⟨[.str],[.bool],λx=>bndS x.1,λx=>(isKey x.1,())⟩
def idxFS (f:Nat):PSpec:=⟨[.str,.fn f],[.int .i64],λ_=>true,λx=>(idxF x.1,())⟩
def parseS:PSpec:=⟨[.str,.int .i64,.int .i64],[.int .i64,.err],λx=>bndS x.1&&(decide (x.2.1=10)&&decide (x.2.2.1=64)),λx=>((intN x.1).1,(intN x.1).2,())⟩
def numS:PSpec:=⟨[.str,.int .i64,.int .i64,.int .i64],[.int .i64,.bool],λx=>bndS x.1,λx=>((numN x.1 x.2.1 x.2.2.1 x.2.2.2.1).1,(numN x.1 x.2.1 x.2.2.1 x.2.2.2.1).2,())⟩
def hasPreS:PSpec:=⟨[.str,.str],[.bool],λ_=>true,λx=>(hasPre x.1 x.2.1,())⟩
def cutPreS:PSpec:=⟨[.str,.str],[.str,.bool],λ_=>true,λx=>((cutPre x.1 x.2.1).1,(cutPre x.1 x.2.1).2,())⟩
def digsS:PSpec:=⟨[.int .u64],[.str],λx=>decide (0<=x.1)&&decide (x.1<18446744073709551616),λx=>(digs x.1,())⟩
def digitsS:PSpec:=⟨[.int .i64],[.str],λx=>decide (-9223372036854775808<=x.1)&&decide (x.1<=9223372036854775807),λx=>(digits x.1,())⟩
open Go Go.Eng
abbrev HeadDW:Type:=L8×L8×Unit
abbrev AnsD:Type:=Int×List HeadDW×L8×Unit
abbrev AnsT:Ty:=.pair (.int .i64) (.pair (.slice HeadT) (.pair .str .unit))
def wordsN (n:Int):L8:=bif n==200 then [79,75] else bif n==204 then [78,111,32,67,111,110,116,101,110,116] else bif n==400 then [66,97,100,32,82,101,113,117,101,115,116] else bif n==404 then [78,111,116,32,70,111,117,110,100] else bif n==405 then [77,101,116,104,111,100,32,78,111,116,32,65,108,108,111,119,101,100] else bif n==412 then [80,114,101,99,111,110,100,105,116,105,111,110,32,70,97,105,108,101,100] else bif n==413 then [67,111,110,116,101,110,116,32,84,111,111,32,76,97,114,103,101] else bif n==414 then [85,82,73,32,84,111,111,32,76,111,110,103] else bif n==431 then [82,101,113,117,101,115,116,32,72,101,97,100,101,114,32,70,105,101,108,100,115,32,84,111,111,32,76,97,114,103,101] else bif n==503 then [83,101,114,118,105,99,101,32,85,110,97,118,97,105,108,97,98,108,101] else bif n==507 then [73,110,115,117,102,102,105,99,105,101,110,116,32,83,116,111,114,97,103,101] else []
def tokB (c:UInt8):Bool:=decide (65<=c.toNat/\c.toNat<=90\/97<=c.toNat/\c.toNat<=122\/48<=c.toNat/\c.toNat<=57\/c.toNat=45)
def prB (c:UInt8):Bool:=decide (32<=c.toNat/\c.toNat<=126)
def kindB (k:Nat) (c:UInt8):Bool:=bif Nat.beq k 113 then tokB c else bif Nat.beq k 115 then prB c else isDig c
def runLN (k:Nat) (s:L8):Int:=((s.takeWhile (kindB k)).length:Int)
def kindP (k:Nat):Bool:=Nat.beq k 113||(Nat.beq k 115||Nat.beq k 341)
def ascP (s:L8):Bool:=s.all (λc=>decide (c.toNat<128))&&bndS s
def lowN (s:L8):L8:=lower s
def resN (s:L8):Bool:=lower s==clen
def trim1 (s:L8):L8:=Lib.trimB s 32
def headB (h:HeadDW):Bool:=(decide (1<=h.1.length/\h.1.length<=30)&&(h.1.all tokB&& !(lower h.1==clen)))&&(decide (h.2.1.length<=100)&&(h.2.1.all prB&&trim1 h.2.1==h.2.1))
def headPW (h:HeadDW):Bool:=bndS h.1&&bndS h.2.1
def idxHN (l:List HeadDW):Int:=bif l.any (λh=> !headB h) then((l.takeWhile headB).length:Int) else -1
def anyN (l:List HeadDW):Bool:=l.any λh=> !headB h
def headsPW (l:List HeadDW):Bool:=decide (l.length<=140737488355328)&&l.all headPW
def amayB (a:AnsD):Bool:= !(wordsN a.1==[])&&(decide (a.2.1.length<=10)&&(!anyN a.2.1&&(decide (a.2.2.1.length<=20000)&&(!(a.1==204)||a.2.2.1==[]))))
def aputP (a:AnsD):Bool:=headsPW a.2.1
def wordsS:PSpec:=⟨[.int .i64],[.str],λ_=>true,λx=>(wordsN x.1,())⟩
def tokBS:PSpec:=⟨[.byte],[.bool],λ_=>true,λx=>(tokB x.1,())⟩
def prBS:PSpec:=⟨[.byte],[.bool],λ_=>true,λx=>(prB x.1,())⟩
def runS:PSpec:=⟨[.str,.fv],[.int .i64],λx=>bndS x.1&&kindP x.2.1,λx=>(runLN x.2.1 x.1,())⟩
def lowAS:PSpec:=⟨[.str],[.str],λx=>ascP x.1,λx=>(lowN x.1,())⟩
def resS:PSpec:=⟨[.str],[.bool],λx=>ascP x.1,λx=>(resN x.1,())⟩
def trim1S:PSpec:=⟨[.str,.str],[.str],λx=>bndS x.1&&x.2.1==[32],λx=>(trim1 x.1,())⟩
def mayHS:PSpec:=⟨[HeadT],[.bool],λx=>headPW x.1,λx=>(headB x.1,())⟩
def anyS (f:Nat):PSpec:=⟨[.slice HeadT,.fn f],[.bool],λx=>headsPW x.1,λx=>(anyN x.1,())⟩
def notHS:PSpec:=⟨[HeadT],[.bool],λx=>headPW x.1,λx=>(!headB x.1,())⟩
def idxHS (f:Nat):PSpec:=⟨[.slice HeadT,.fn f],[.int .i64],λx=>headsPW x.1,λx=>(idxHN x.1,())⟩
def amayAS:PSpec:=⟨[AnsT],[.bool],λx=>aputP x.1,λx=>(amayB x.1,())⟩
open Go Go.Eng
def valF (a:Nat) (s:L8):Nat:=s.foldl (λn c=>n*10+(c.toNat-48)) a
theorem valF_ge:∀(s:L8) (a:Nat),a<=valF a s
 |[],a=>Nat.le_refl _
 |c::r,a=>by
  have:=valF_ge r (a*10+(c.toNat-48));show a<=valF (a*10+(c.toNat-48)) r;omega
theorem parse_dig64:∀(s:L8) (a:Nat),allDig s=true->a<=18446744073709551615->
  (valF a s<=18446744073709551615->Lib.parseUintM 18446744073709551615 a s=.ok (valF a s))/\(18446744073709551615<valF a s->Lib.parseUintM 18446744073709551615 a s=.range)
 |[],a,_,ha=>⟨λ_=>rfl,λh=>by simp only[valF,List.foldl_nil] at h;omega⟩
 |c::r,a,h,ha=>by
  simp only[allDig,List.all_cons,Bool.and_eq_true] at h;have hd:=isDig_iff.1 h.1;have hv:valF a (c::r)=valF (a*10+(c.toNat-48)) r:=rfl;have hg:=valF_ge r (a*10+(c.toNat-48));rw[hv];simp only[Lib.parseUintM,if_pos hd];by_cases h1:1844674407370955162<=a
  ·rw[if_pos h1];exact⟨λh=>by omega,λ_=>rfl⟩
  ·rw[if_neg h1];by_cases h2:18446744073709551615<a*10+(c.toNat-48)
   ·rw[if_pos h2];exact⟨λh=>by omega,λ_=>rfl⟩
   ·rw[if_neg h2];exact parse_dig64 r _ h.2 (by omega)
theorem intN_dig {s:L8} (h:allDig s=true) (h1:s≠[]):(numV s<9223372036854775808->intN s=((numV s:Int),true))/\(9223372036854775808<=numV s->(intN s).2=false):=by
 cases s with
 |nil=>exact absurd rfl h1
 |cons c r=>
  have hd:48<=c.toNat/\c.toNat<=57:=by
   simp only[allDig,List.all_cons,Bool.and_eq_true] at h;exact isDig_iff.1 h.1
  obtain⟨p1,p2⟩:=parse_dig64 (c::r) 0 h (by omega);have hv:valF 0 (c::r)=numV (c::r):=rfl;rw[hv] at p1 p2;have e43:¬(c.toNat=43\/c.toNat=45):=by omega
  have eB:Lib.parseUintB 64 (c::r)=Lib.parseUintM 18446744073709551615 0 (c::r):=by
   unfold Lib.parseUintB;rw[if_neg (by simp)]
  have e45:¬c.toNat=45:=by omega
  by_cases hr:numV (c::r)<=18446744073709551615
  ·have e:Lib.parseIntB 64 (c::r)=if 9223372036854775808<=numV (c::r) then .range else .ok (numV (c::r):Int):=by
    rw[Lib.parseIntB_plain 64 c r (by omega) (by omega),eB,p1 hr];rfl
   constructor
   ·intro hlt;unfold intN;rw[e,if_neg (by omega)]
   ·intro hge;unfold intN;rw[e,if_pos hge]
  ·have e:Lib.parseIntB 64 (c::r)=.range:=by
    rw[Lib.parseIntB_plain 64 c r (by omega) (by omega),eB,p2 (by omega)];rfl
   constructor
   ·intro hlt;omega
   ·intro _;unfold intN;rw[e]
theorem numV_lt' (s:L8) (h:allDig s=true):∀a,valF a s<(a+1)*10^s.length:=by
 induction s with
 |nil=>intro a;simp[valF]
 |cons c s ih=>
  intro a;simp only[allDig,List.all_cons,Bool.and_eq_true] at h;have hd:=isDig_iff.1 h.1;have:=ih h.2 (a*10+(c.toNat-48));refine Nat.lt_of_lt_of_le (show valF a (c::s)<_ from this) ?_;rw[List.length_cons,Nat.pow_succ,Nat.mul_comm (10^s.length) 10,<-Nat.mul_assoc];exact Nat.mul_le_mul_right _ (by omega)
theorem valF_lo (s:L8):∀a,a*10^s.length<=valF a s:=by
 induction s with
 |nil=>intro a;simp[valF]
 |cons c s ih=>
  intro a;have:=ih (a*10+(c.toNat-48));refine Nat.le_trans ?_ (show _<=valF a (c::s) from this);rw[List.length_cons,Nat.pow_succ,Nat.mul_comm (10^s.length) 10,<-Nat.mul_assoc];exact Nat.mul_le_mul_right _ (by omega)
theorem long_num {s:L8} (h:allDig s=true) (h0:s.getD 0 0≠48) (hl:14<=s.length):10000000000000<=numV s:=by
 cases s with
 |nil=>simp at hl
 |cons c r=>
  simp only[allDig,List.all_cons,Bool.and_eq_true] at h;have hd:=isDig_iff.1 h.1;have h0:c≠48:=h0;have hc:c.toNat≠48:=λe=>h0 (UInt8.toNat.inj e)
  have:=valF_lo r (c.toNat-48);have hp:(10:Nat)^13<=10^r.length:=Nat.pow_le_pow_right (by decide) (by simp at hl;omega);have e:numV (c::r)=valF (c.toNat-48) r:=by
   show valF 0 (c::r)=_;show valF (0*10+(c.toNat-48)) r=_;rw[Nat.zero_mul,Nat.zero_add]
  rw[e];have h1:1*10^r.length<=(c.toNat-48)*10^r.length:=Nat.mul_le_mul_right _ (by omega);omega
theorem ver_eq (s:L8) (h0:s.getD 0 0≠48):
  ((numN s s.length 1 1099511627776).2=((refNum s 13).2&&(!decide ((refNum s 13).1<1)&& !decide ((refNum s 13).1>1099511627776))))/\((numN s s.length 1 1099511627776).2=true->(numN s s.length 1 1099511627776).1=(refNum s 13).1):=by
 unfold numN refNum;cases hd:allDig s
 ·simp
 by_cases hs:s=[]
 ·subst hs;simp[intN,Lib.parseIntB]
 have hl1:1<=s.length:=List.length_pos_iff.2 hs;obtain⟨i1,i2⟩:=intN_dig hd hs;by_cases hl:s.length<=13
 ·have hlt:=numV_lt' s hd 0;have hp:(10:Nat)^s.length<=10^13:=Nat.pow_le_pow_right (by decide) hl;have hv:valF 0 s=numV s:=rfl;have hn:numV s<9223372036854775808:=by omega
  rw[i1 hn];simp only[Bool.true_and,decide_eq_true (show(s.length:Int)<=13 by omega),cond_true,decide_eq_true hl1,decide_eq_true (Int.le_refl (s.length:Int))];refine⟨?_,λ_=>trivial⟩;by_cases a1:(numV s:Int)>=1
  ·by_cases a2:(numV s:Int)<=1099511627776
   ·rw[decide_eq_true a1,decide_eq_true a2,decide_eq_false (by omega),decide_eq_false (by omega)];rfl
   ·rw[decide_eq_true a1,decide_eq_false a2,decide_eq_false (by omega),decide_eq_true (by omega)];rfl
  ·rw[decide_eq_false a1,decide_eq_true (show(numV s:Int)<1 by omega)];rfl
 ·have hlong:=long_num hd h0 (by omega);simp only[Bool.true_and,decide_eq_false (show ¬(s.length:Int)<=13 by omega),cond_false,Bool.false_and,decide_eq_true (Int.le_refl (s.length:Int))];have key:((intN s).2&&(decide ((intN s).1>=1)&&decide ((intN s).1<=1099511627776)))=false:=by
   by_cases hn:numV s<9223372036854775808
   ·rw[i1 hn,decide_eq_false (show ¬(numV s:Int)<=1099511627776 by omega),Bool.and_false,Bool.and_false]
   ·rw[i2 (by omega)];rfl
  rw[key];exact⟨rfl,λh=>by cases h⟩
open Go Go.Eng
def upTo (c:UInt8):L8->L8
 |[]=>[]
 |b::r=>bif b==c then [] else b::upTo c r
def hasB (c:UInt8) (s:L8):Bool:=s.any (· ==c)
theorem upTo_len (c:UInt8):∀s,(upTo c s).length<=s.length
 |[]=>Nat.le_refl _
 |b::r=>by
  unfold upTo;cases b==c
  ·simpa using upTo_len c r
  ·simp
theorem upTo_lt (c:UInt8):∀s,hasB c s=true->(upTo c s).length<s.length
 |[],h=>by cases h
 |b::r,h=>by
  unfold upTo;simp only[hasB,List.any_cons] at h;cases hb:b==c
  ·rw[hb,Bool.false_or] at h;simpa using upTo_lt c r h
  ·simp
theorem upTo_not (c:UInt8):∀s,hasB c s=false->upTo c s=s
 |[],_=>rfl
 |b::r,h=>by
  simp only[hasB,List.any_cons,Bool.or_eq_false_iff] at h;unfold upTo;rw[h.1,cond_false,upTo_not c r h.2]
theorem upTo_all (c:UInt8):∀s,(upTo c s).length=s.length->hasB c s=false
 |s,h=>by
  cases hb:hasB c s
  ·rfl
  ·have:=upTo_lt c s hb;omega
theorem upTo_take (c:UInt8):∀s,s.take (upTo c s).length=upTo c s
 |[]=>rfl
 |b::r=>by
  unfold upTo;cases b==c
  ·simp[upTo_take c r]
  ·rfl
theorem index1 (c:UInt8):∀s,Lib.index s [c]=bif hasB c s then((upTo c s).length:Int) else -1
 |[]=>rfl
 |b::r=>by
  have ih:=index1 c r;rw[Lib.index];simp only[hasB,List.any_cons] at ih⊢;unfold upTo;by_cases hb:b=c
  ·subst hb;simp[List.isPrefixOf]
  ·have h1:(b==c)=false:=by simpa using hb
   have h2:([c]:L8).isPrefixOf (b::r)=false:=by simp[List.isPrefixOf,Ne.symm hb]
   rw[h1,h2,ih];cases r.any (· ==c)
   ·rfl
   ·simp only[cond_true,Bool.or_true,cond_false,List.length_cons];have:(((upTo c r).length:Int)== -1)=false:=by
     rw[beq_eq_false_iff_ne];omega
    rw[this];simp
theorem cut1 (c:UInt8) (s:L8):Lib.cut s [c]=bif hasB c s then(upTo c s,s.drop ((upTo c s).length+1),true) else(s,[],false):=by
 unfold Lib.cut;rw[index1];cases hasB c s
 ·rfl
 ·simp only[cond_true];rw[if_pos (Int.natCast_nonneg _),Int.toNat_natCast,upTo_take];rfl
theorem split1_no (c:UInt8) (s:L8) (h:hasB c s=false):Lib.split s [c]=[s]:=by
 have hi:Lib.index s [c]= -1:=by rw[index1,h];rfl
 unfold Lib.split;rw[Lib.count_miss hi];rfl
theorem split1_yes (c:UInt8) (s:L8) (h:hasB c s=true):Lib.split s [c]=upTo c s::Lib.split (s.drop ((upTo c s).length+1)) [c]:=by
 have hi:Lib.index s [c]=((upTo c s).length:Nat):=by rw[index1,h];rfl
 have hc:Lib.count s [c]=1+Lib.count (s.drop ((upTo c s).length+1)) [c]:=by
  rw[Lib.count_hit (by simp) hi];rfl
 unfold Lib.split;rw[hc,Nat.add_comm,Lib.splitK];rw[hi];have:(((upTo c s).length:Int)== -1)=false:=by rw[beq_eq_false_iff_ne];omega
 rw[this];simp only[Bool.false_eq_true,if_false,Int.toNat_natCast,Nat.add_zero,List.length_singleton];rw[upTo_take]
abbrev AskD:Type:=Int×L8×Int×L8×Int×L8×L8×L8×Int×Bool×Unit
def wPre:L8:=[112,114,101,102,105,120]
def wAft:L8:=[97,102,116,101,114]
def wMax:L8:=[109,97,120]
def wVer:L8:=[118,101,114,115,105,111,110,115]
def eqS (s:L8):L8:=s++[61]
def keyB (v:L8):Bool:=v==[]||isKey v
def setPre (a:AskD) (v:L8):AskD:=(a.1,a.2.1,a.2.2.1,a.2.2.2.1,a.2.2.2.2.1,a.2.2.2.2.2.1,v,a.2.2.2.2.2.2.2)
def setAft (a:AskD) (v:L8):AskD:=(a.1,a.2.1,a.2.2.1,a.2.2.2.1,a.2.2.2.2.1,a.2.2.2.2.2.1,a.2.2.2.2.2.2.1,v,a.2.2.2.2.2.2.2.2)
def setMax (a:AskD) (n:Int):AskD:=(a.1,a.2.1,a.2.2.1,a.2.2.2.1,a.2.2.2.2.1,a.2.2.2.2.2.1,a.2.2.2.2.2.2.1,a.2.2.2.2.2.2.2.1,n,a.2.2.2.2.2.2.2.2.2)
def setKind (a:AskD) (n:Int):AskD:=(n,a.2)
end Nice
namespace Go.Proofs.YtldllfocpadkeaaGreatDoor
open Go Go.Eng Nice
set_option maxRecDepth 1000000
abbrev shcap:List (Nat×List (Nat×Sh)):=[]
def ocap (x:DenL [.byte]):Option (DenL [.bool]):=fO Tryz.prog (envS []) (shOf shcap) Tryz.f163 [.byte] [.bool] x
theorem ecap_g (N:Nat) (x0:UInt8):fON Tryz.prog (envS []) (shOf shcap) Tryz.f163 [.byte] [.bool] N (x0,())=
  (bif decide ((↑x0.toNat:Int)>=(65:Int)) then
 (bif decide ((↑x0.toNat:Int)<=(90:Int)) then
 (some (true,()))
 else
 (some (false,())))
  else
 (some (false,()))):=by kernel_rfl
theorem ocap_g (x:DenL [.byte]):ocap x=fON Tryz.prog (envS []) (shOf shcap) Tryz.f163 [.byte] [.bool] heads0 x:=rfl
abbrev shdig:List (Nat×List (Nat×Sh)):=[]
def odig (x:DenL [.byte]):Option (DenL [.bool]):=fO Tryz.prog (envS []) (shOf shdig) Tryz.f123 [.byte] [.bool] x
theorem edig_g (N:Nat) (x0:UInt8):fON Tryz.prog (envS []) (shOf shdig) Tryz.f123 [.byte] [.bool] N (x0,())=
  (bif decide ((↑x0.toNat:Int)>=(48:Int)) then
 (bif decide ((↑x0.toNat:Int)<=(57:Int)) then
 (some (true,()))
 else
 (some (false,())))
  else
 (some (false,()))):=by kernel_rfl
theorem odig_g (x:DenL [.byte]):odig x=fON Tryz.prog (envS []) (shOf shdig) Tryz.f123 [.byte] [.bool] heads0 x:=rfl
abbrev shslower:List (Nat×List (Nat×Sh)):=[(3,[(2,(.one .sym)),(3,(.one (.vec .byte 5))),(8,(.one (.same 0))),(9,(.one .sym)),(10,(.one .sym))])]
def hslower_0 (n:Nat) (t2:L8) (t3:List (Ty.Den .byte)) (t9 t10:Int):Option (DenL [.str]):=rH Tryz.prog (envS [(163,capS)]) (shOf shslower) Tryz.f128 [.str] n 0 [(2,sy (.string (bs t2))),(3,dt 10),(8,dt 10),(9,sy (.int .i64 t9)),(10,sy (.int .i64 t10))] [.vec .byte t3 5]
def oslower (x:DenL [.str]):Option (DenL [.str]):=fO Tryz.prog (envS [(163,capS)]) (shOf shslower) Tryz.f128 [.str] [.str] x
theorem eslower_g (N:Nat) (x0:L8):fON Tryz.prog (envS [(163,capS)]) (shOf shslower) Tryz.f128 [.str] [.str] N (x0,())=
 (hslower_0 N ([]) (x0) ((↑x0.length:Int)) ((0:Int))):=by kernel_rfl
theorem oslower_g (x:DenL [.str]):oslower x=fON Tryz.prog (envS [(163,capS)]) (shOf shslower) Tryz.f128 [.str] [.str] heads0 x:=rfl
theorem eslower_0 (n:Nat) (t2:L8) (t3:List (Ty.Den .byte)) (t9 t10:Int) {Qa}[Qa':QA (↑(UInt8.toNat (t3.getD t10.toNat Ty.byte.dflt)):Int) Qa] {Qb}[Qb':QA (IntKind.u8.wrap (IntKind.u8.wrap (Qa+97)-65)) Qb]:hslower_0 (n+1) t2 t3 t9 t10= (bif decide (t10<t9) then (gd [decide (t10.toNat<t3.length),decide (0<=t10),decide (t10<t3.length)] (bif isCap (UInt8.ofNat Qa.toNat) then (gd [decide (inK .i64 (t10+1)),decide (t10.toNat<t3.length),decide (inK .u8 Qb),decide (0<=t10),decide (t10<t3.length),decide (inK .u8 Qa)] (hslower_0 n t2 (t3.set t10.toNat (UInt8.ofNat Qb.toNat)) t9 (t10+1))) else (gd [decide (inK .i64 (t10+1)),decide (inK .u8 Qa)] (hslower_0 n t2 t3 t9 (t10+1))))) else (some (t3,()))):=by obtain ⟨rfl⟩:=Qb';obtain ⟨rfl⟩:=Qa';kernel_rfl
abbrev shrlower:List (Nat×List (Nat×Sh)):=[(3,[(2,(.one .sym)),(3,(.one (.vec .byte 5))),(4,(.one .sym))])]
def hrlower_0 (n:Nat) (t2:L8) (t3:List (Ty.Den .byte)) (t4:Int):Option (DenL [.str]):=rH Tryz.prog (envS []) (shOf shrlower) Tryz.f78 [.str] n 0 [(2,sy (.string (bs t2))),(3,dt 10),(4,sy (.int .i64 t4))] [.vec .byte t3 5]
def orlower (x:DenL [.str]):Option (DenL [.str]):=fO Tryz.prog (envS []) (shOf shrlower) Tryz.f78 [.str] [.str] x
theorem erlower_g (N:Nat) (x0:L8):fON Tryz.prog (envS []) (shOf shrlower) Tryz.f78 [.str] [.str] N (x0,())=
 (hrlower_0 N ([]) (x0) ((0:Int))):=by kernel_rfl
theorem orlower_g (x:DenL [.str]):orlower x=fON Tryz.prog (envS []) (shOf shrlower) Tryz.f78 [.str] [.str] heads0 x:=rfl
theorem erlower_0 (n:Nat) (t2:L8) (t3:List (Ty.Den .byte)) (t4:Int) {Qa}[Qa':QA (↑(UInt8.toNat (t3.getD t4.toNat Ty.byte.dflt)):Int) Qa]:hrlower_0 (n+1) t2 t3 t4= (bif decide (t4<t3.length) then (bif decide (Qa>=65) then (bif decide (Qa<=90) then (gd [decide (inK .i64 (t4+1)),decide (t4.toNat<t3.length),decide (inK .u8 (IntKind.u8.wrap (Qa+32))),decide (0<=t4),decide (t4<t3.length),decide (t4.toNat<t3.length),decide (0<=t4),decide (t4<t3.length),decide (t4.toNat<t3.length),decide (0<=t4),decide (t4<t3.length),decide (t4.toNat<t3.length),decide (0<=t4),decide (t4<t3.length)] (hrlower_0 n t2 (t3.set t4.toNat (UInt8.ofNat (IntKind.u8.wrap (Qa+32)).toNat)) (t4+1))) else (gd [decide (inK .i64 (t4+1)),decide (t4.toNat<t3.length),decide (0<=t4),decide (t4<t3.length),decide (t4.toNat<t3.length),decide (0<=t4),decide (t4<t3.length)] (hrlower_0 n t2 t3 (t4+1)))) else (gd [decide (inK .i64 (t4+1)),decide (t4.toNat<t3.length),decide (0<=t4),decide (t4<t3.length)] (hrlower_0 n t2 t3 (t4+1)))) else (some (t3,()))):=by obtain ⟨rfl⟩:=Qa';kernel_rfl
abbrev shsnum:List (Nat×List (Nat×Sh)):=[(2,[(0,(.one .sym)),(2,(.one .sym)),(3,(.one .sym)),(8,(.one .sym)),(9,(.one .sym))])]
def hsnum_0 (n:Nat) (t0:L8) (t2:Int) (t3:Bool) (t8 t9:Int):Option (DenL [.int .i64,.bool]):=rH Tryz.prog (envS [(184,atoiS)]) (shOf shsnum) Tryz.f130 [.int .i64,.bool] n 0 [(0,sy (.string (bs t0))),(2,sy (.int .i64 t2)),(3,.bool t3),(8,sy (.int .i64 t8)),(9,sy (.int .i64 t9))] []
def osnum (x:DenL [.str]):Option (DenL [.int .i64,.bool]):=fO Tryz.prog (envS [(184,atoiS)]) (shOf shsnum) Tryz.f130 [.str] [.int .i64,.bool] x
theorem esnum_g (N:Nat) (x0:L8):fON Tryz.prog (envS [(184,atoiS)]) (shOf shsnum) Tryz.f130 [.str] [.int .i64,.bool] N (x0,())=
 (hsnum_0 N (x0) ((0:Int)) (false) ((↑x0.length:Int)) ((0:Int))):=by kernel_rfl
theorem osnum_g (x:DenL [.str]):osnum x=fON Tryz.prog (envS [(184,atoiS)]) (shOf shsnum) Tryz.f130 [.str] [.int .i64,.bool] heads0 x:=rfl
theorem esnum_0 (n:Nat) (t0:L8) (t2:Int) (t3:Bool) (t8 t9:Int) {Qa}[Qa':QA (↑(t0.getD t9.toNat 0).toNat:Int) Qa] {Qb}[Qb':QA (some ((atoiN t0).fst,false,())) Qb]:hsnum_0 (n+1) t0 t2 t3 t8 t9= (bif decide (t9<t8) then (bif decide (Qa<48) then (gd [decide (0<=t9),decide (t9<t0.length)] (some ((0:Int),false,()))) else (bif decide (Qa>57) then (gd [decide (0<=t9),decide (t9<t0.length),decide (0<=t9),decide (t9<t0.length)] (some ((0:Int),false,()))) else (gd [decide (inK .i64 (t9+1)),decide (0<=t9),decide (t9<t0.length),decide (0<=t9),decide (t9<t0.length)] (hsnum_0 n t0 t2 t3 t8 (t9+1))))) else (gd [atoiP t0] (bif (atoiN t0).snd then (bif decide ((↑t0.length:Int)<=6) then (some ((atoiN t0).fst,true,())) else Qb) else Qb))):=by obtain ⟨rfl⟩:=Qb';obtain ⟨rfl⟩:=Qa';kernel_rfl
abbrev shrnum:List (Nat×List (Nat×Sh)):=[(3,[(0,(.one .sym)),(1,(.one .sym)),(4,(.one .sym)),(5,(.one .sym)),(6,(.one .sym)),(7,(.one .sym))])]
def hrnum_0 (n:Nat) (t0:L8) (t1 t4:Int) (t5:Bool) (t6 t7:Int):Option (DenL [.int .i64,.bool]):=rH Tryz.prog (envS [(123,digS)]) (shOf shrnum) Tryz.f75 [.int .i64,.bool] n 0 [(0,sy (.string (bs t0))),(1,sy (.int .i64 t1)),(4,sy (.int .i64 t4)),(5,.bool t5),(6,sy (.int .i64 t6)),(7,sy (.int .i64 t7))] []
def ornum (x:DenL [.str,.int .i64]):Option (DenL [.int .i64,.bool]):=fO Tryz.prog (envS [(123,digS)]) (shOf shrnum) Tryz.f75 [.str,.int .i64] [.int .i64,.bool] x
theorem ernum_g (N:Nat) (x0:L8) (x1:Int):fON Tryz.prog (envS [(123,digS)]) (shOf shrnum) Tryz.f75 [.str,.int .i64] [.int .i64,.bool] N (x0,x1,())=
 (hrnum_0 N (x0) (x1) ((0:Int)) (false) ((0:Int)) ((0:Int))):=by kernel_rfl
theorem ornum_g (x:DenL [.str,.int .i64]):ornum x=fON Tryz.prog (envS [(123,digS)]) (shOf shrnum) Tryz.f75 [.str,.int .i64] [.int .i64,.bool] heads0 x:=rfl
theorem ernum_0 (n:Nat) (t0:L8) (t1 t4:Int) (t5:Bool) (t6 t7:Int) {Qa}[Qa':QA (↑(t0.getD t7.toNat 0).toNat:Int) Qa] {Qb}[Qb':QA (gd [decide (inK .u8 Qa),decide (0<=t7),decide (t7<t0.length)] (some ((0:Int),false,()))) Qb] {Qc}[Qc':QA (t6*(10:Int)+IntKind.u8.wrap (Qa-48)) Qc]:hrnum_0 (n+1) t0 t1 t4 t5 t6 t7= (bif decide (t7<t0.length) then (bif isDig (UInt8.ofNat Qa.toNat) then (bif decide (t7>=t1) then Qb else (gd [decide (inK .i64 (t7+1)),decide (inK .i64 Qc),decide (inK .i64 (IntKind.u8.wrap (Qa-48))),decide (0<=t7),decide (t7<t0.length),decide (inK .i64 (t6*(10:Int))),decide (inK .u8 Qa),decide (0<=t7),decide (t7<t0.length)] (hrnum_0 n t0 t1 t4 t5 Qc (t7+1)))) else Qb) else (bif decide ((↑t0.length:Int)>=1) then (some (t6,true,())) else (some (t6,false,())))):=by obtain ⟨rfl⟩:=Qc';obtain ⟨rfl⟩:=Qb';obtain ⟨rfl⟩:=Qa';kernel_rfl
abbrev shsval:List (Nat×List (Nat×Sh)):=[(2,[(1,(.one .sym)),(4,(.one .sym)),(5,(.one .sym)),(9,(.one (.dat (.pair .str (.pair .str .unit))))),(10,(.one .sym)),(11,(.one .sym))])]
def hsval_0 (n:Nat) (t1 t4:L8) (t5:Bool) (t9:List (Ty.Den (.pair .str (.pair .str .unit)))) (t10 t11:Int):Option (DenL [.str,.bool]):=rH Tryz.prog (envS [(128,lowerS)]) (shOf shsval) Tryz.f84 [.str,.bool] n 0 [(1,sy (.string (bs t1))),(4,sy (.string (bs t4))),(5,.bool t5),(9,dt 10),(10,sy (.int .i64 t10)),(11,sy (.int .i64 t11))] [.dat (.pair .str (.pair .str .unit)) t9]
def osval (x:DenL [ReqT,.str]):Option (DenL [.str,.bool]):=fO Tryz.prog (envS [(128,lowerS)]) (shOf shsval) Tryz.f84 [ReqT,.str] [.str,.bool] x
theorem esval_g (N:Nat) (x0:Ty.Den ReqT) (x1:L8):fON Tryz.prog (envS [(128,lowerS)]) (shOf shsval) Tryz.f84 [ReqT,.str] [.str,.bool] N (x0,x1,())=
 (hsval_0 N (x1) ([]) (false) (x0.snd.snd.snd.fst) ((↑(List.length x0.snd.snd.snd.fst):Int)) ((0:Int))):=by kernel_rfl
theorem osval_g (x:DenL [ReqT,.str]):osval x=fON Tryz.prog (envS [(128,lowerS)]) (shOf shsval) Tryz.f84 [ReqT,.str] [.str,.bool] heads0 x:=rfl
theorem esval_0 (n:Nat) (t1 t4:L8) (t5:Bool) (t9:List (Ty.Den (.pair .str (.pair .str .unit)))) (t10 t11:Int) {Qa}[Qa':QA (t9.getD t11.toNat (HeadT).dflt) Qa]:hsval_0 (n+1) t1 t4 t5 t9 t10 t11= (bif decide (t11<t10) then (gd [decide (t11.toNat<t9.length),decide (0<=t11),decide (t11<t9.length)] (bif lower Qa.fst==lower t1 then (gd [lowerP t1,lowerP Qa.fst] (some (Qa.snd.fst,true,()))) else (gd [decide (inK .i64 (t11+1)),lowerP t1,lowerP Qa.fst] (hsval_0 n t1 t4 t5 t9 t10 (t11+1))))) else (some ([],false,()))):=by obtain ⟨rfl⟩:=Qa';kernel_rfl
abbrev shslen:List (Nat×List (Nat×Sh)):=[]
def oslen (x:DenL [ReqT]):Option (DenL [.int .i64]):=fO Tryz.prog (envS [(84,valueS),(130,scanNumS)]) (shOf shslen) Tryz.f86 [ReqT] [.int .i64] x
theorem eslen_g (N:Nat) (x0:Ty.Den ReqT) {Qa}[Qa':QA (valueN x0.snd.snd.snd.fst [99,111,110,116,101,110,116,45,108,101,110,103,116,104]) Qa] {Qb}[Qb':QA (gd [valueP x0.snd.snd.snd.fst [99,111,110,116,101,110,116,45,108,101,110,103,116,104]] (bif (scanNum Qa.fst).snd then (gd [atoiP Qa.fst] (some ((scanNum Qa.fst).fst,()))) else (gd [atoiP Qa.fst] (some ((0:Int),()))))) Qb]:fON Tryz.prog (envS [(84,valueS),(130,scanNumS)]) (shOf shslen) Tryz.f86 [ReqT] [.int .i64] N (x0,())= (bif Qa.snd then Qb else Qb):=by obtain ⟨rfl⟩:=Qb';obtain ⟨rfl⟩:=Qa';kernel_rfl
theorem oslen_g (x:DenL [ReqT]):oslen x=fON Tryz.prog (envS [(84,valueS),(130,scanNumS)]) (shOf shslen) Tryz.f86 [ReqT] [.int .i64] heads0 x:=rfl
abbrev shrval:List (Nat×List (Nat×Sh)):=[(2,[(1,(.one .sym)),(2,(.obj [.sym,.sym,.sym,(.dat (.pair .str (.pair .str .unit))),.sym])),(4,(.one .sym)),(5,(.one .sym)),(6,(.one .sym))])]
def hrval_0 (n:Nat) (t1 t2_0 t2_1 t2_2:L8) (t2_3:List (Ty.Den (.pair .str (.pair .str .unit)))) (t2_4 t4:L8) (t5:Bool) (t6:Int):Option (DenL [.str,.bool]):=rH Tryz.prog (envS [(78,lowerS)]) (shOf shrval) Tryz.f124 [.str,.bool] n 0 [(1,sy (.string (bs t1))),(2,.pointer (some ⟨11,0,none⟩)),(4,sy (.string (bs t4))),(5,.bool t5),(6,sy (.int .i64 t6))] [.dat (.pair .str (.pair .str .unit)) t2_3,.row [sy (.string (bs t2_0)),sy (.string (bs t2_1)),sy (.string (bs t2_2)),dt 10,sy (.string (bs t2_4))] 62 false]
def orval (x:DenL [ReqT,.str]):Option (DenL [.str,.bool]):=fO Tryz.prog (envS [(78,lowerS)]) (shOf shrval) Tryz.f124 [ReqT,.str] [.str,.bool] x
theorem erval_g (N:Nat) (x0:Ty.Den ReqT) (x1:L8):fON Tryz.prog (envS [(78,lowerS)]) (shOf shrval) Tryz.f124 [ReqT,.str] [.str,.bool] N (x0,x1,())=
 (hrval_0 N (x1) (x0.fst) (x0.snd.fst) (x0.snd.snd.fst) (x0.snd.snd.snd.fst) (x0.snd.snd.snd.snd.fst) ([]) (false) ((0:Int))):=by kernel_rfl
theorem orval_g (x:DenL [ReqT,.str]):orval x=fON Tryz.prog (envS [(78,lowerS)]) (shOf shrval) Tryz.f124 [ReqT,.str] [.str,.bool] heads0 x:=rfl
theorem erval_0 (n:Nat) (t1 t2_0 t2_1 t2_2:L8) (t2_3:List (Ty.Den (.pair .str (.pair .str .unit)))) (t2_4 t4:L8) (t5:Bool) (t6:Int) {Qa}[Qa':QA (t2_3.getD t6.toNat (HeadT).dflt) Qa]:hrval_0 (n+1) t1 t2_0 t2_1 t2_2 t2_3 t2_4 t4 t5 t6= (bif decide (t6<t2_3.length) then (bif lower Qa.fst==lower t1 then (gd [decide (t6.toNat<t2_3.length),decide (0<=t6),decide (t6<t2_3.length),lowerP t1,lowerP Qa.fst,decide (t6.toNat<t2_3.length),decide (0<=t6),decide (t6<t2_3.length)] (some (Qa.snd.fst,true,()))) else (gd [decide (inK .i64 (t6+1)),lowerP t1,lowerP Qa.fst,decide (t6.toNat<t2_3.length),decide (0<=t6),decide (t6<t2_3.length)] (hrval_0 n t1 t2_0 t2_1 t2_2 t2_3 t2_4 t4 t5 (t6+1)))) else (some ([],false,()))):=by obtain ⟨rfl⟩:=Qa';kernel_rfl
abbrev shrlen:List (Nat×List (Nat×Sh)):=[(3,[(1,(.obj [.sym,.sym,.sym,(.dat (.pair .str (.pair .str .unit))),.sym])),(2,(.one .sym)),(3,(.one .sym)),(4,(.one .sym)),(5,(.one .sym)),(6,(.one .sym))])]
def hrlen_0 (n:Nat) (t1_0 t1_1 t1_2:L8) (t1_3:List (Ty.Den (.pair .str (.pair .str .unit)))) (t1_4:L8) (t2 t3:Int) (t4:L8) (t5 t6:Int):Option (DenL [.int .i64,.int .i64]):=rH Tryz.prog (envS [(78,lowerS),(75,refNumS)]) (shOf shrlen) Tryz.f120 [.int .i64,.int .i64] n 0 [(1,.pointer (some ⟨11,0,none⟩)),(2,sy (.int .i64 t2)),(3,sy (.int .i64 t3)),(4,sy (.string (bs t4))),(5,sy (.int .i64 t5)),(6,sy (.int .i64 t6))] [.dat (.pair .str (.pair .str .unit)) t1_3,.row [sy (.string (bs t1_0)),sy (.string (bs t1_1)),sy (.string (bs t1_2)),dt 10,sy (.string (bs t1_4))] 62 false]
def orlen (x:DenL [ReqT]):Option (DenL [.int .i64,.int .i64]):=fO Tryz.prog (envS [(78,lowerS),(75,refNumS)]) (shOf shrlen) Tryz.f120 [ReqT] [.int .i64,.int .i64] x
theorem erlen_g (N:Nat) (x0:Ty.Den ReqT):fON Tryz.prog (envS [(78,lowerS),(75,refNumS)]) (shOf shrlen) Tryz.f120 [ReqT] [.int .i64,.int .i64] N (x0,())=
 (hrlen_0 N (x0.fst) (x0.snd.fst) (x0.snd.snd.fst) (x0.snd.snd.snd.fst) (x0.snd.snd.snd.snd.fst) ((0:Int)) ((0:Int)) ([]) ((0:Int)) ((0:Int))):=by kernel_rfl
theorem orlen_g (x:DenL [ReqT]):orlen x=fON Tryz.prog (envS [(78,lowerS),(75,refNumS)]) (shOf shrlen) Tryz.f120 [ReqT] [.int .i64,.int .i64] heads0 x:=rfl
theorem erlen_0 (n:Nat) (t1_0 t1_1 t1_2:L8) (t1_3:List (Ty.Den (.pair .str (.pair .str .unit)))) (t1_4:L8) (t2 t3:Int) (t4:L8) (t5 t6:Int) {Qa}[Qa':QA (t1_3.getD t6.toNat (HeadT).dflt) Qa] {Qb}[Qb':QA (some ((0:Int),(400:Int),())) Qb] {Qc}[Qc':QA (refNum t4 ((6:Int))) Qc] {Qd}[Qd':QA (hrlen_0 n t1_0 t1_1 t1_2 t1_3 t1_4 t2 t3) Qd]:hrlen_0 (n+1) t1_0 t1_1 t1_2 t1_3 t1_4 t2 t3 t4 t5 t6= (bif decide (t6<t1_3.length) then (gd [lowerP Qa.fst,decide (t6.toNat<t1_3.length),decide (0<=t6),decide (t6<t1_3.length)] (bif lower Qa.fst==[99,111,110,116,101,110,116,45,108,101,110,103,116,104] then (gd [decide (inK .i64 (t6+1)),decide (inK .i64 (t5+1)),decide (t6.toNat<t1_3.length),decide (0<=t6),decide (t6<t1_3.length)] (Qd (Qa.snd.fst) (t5+1) (t6+1))) else (bif lower Qa.fst==[116,114,97,110,115,102,101,114,45,101,110,99,111,100,105,110,103] then Qb else (gd [decide (inK .i64 (t6+1))] (Qd t4 t5 (t6+1)))))) else (bif t5==0 then (some ((0:Int),(0:Int),())) else (bif Qc.snd then (gd [refNumP t4 ((6:Int))] (bif decide (t5>1) then Qb else (bif decide (Qc.fst>300) then (some (Qc.fst,(413:Int),())) else (some (Qc.fst,(0:Int),()))))) else (gd [refNumP t4 ((6:Int))] (bif decide (t5>1) then Qb else Qb))))):=by obtain ⟨rfl⟩:=Qd';obtain ⟨rfl⟩:=Qc';obtain ⟨rfl⟩:=Qb';obtain ⟨rfl⟩:=Qa';kernel_rfl
abbrev shcut:List (Nat×List (Nat×Sh)):=[]
def ocut (x:DenL [.str,.int .i64]):Option (DenL [.str]):=fO Tryz.prog (envS []) (shOf shcut) Tryz.f28 [.str,.int .i64] [.str] x
theorem ecut_g (N:Nat) (x0:L8) (x1:Int):fON Tryz.prog (envS []) (shOf shcut) Tryz.f28 [.str,.int .i64] [.str] N (x0,x1,())=
 (gd [decide ((0:Int)<=min (↑x0.length:Int) x1),decide (min (↑x0.length:Int) x1<=(↑x0.length:Int))] (some (List.take (min (↑x0.length:Int) x1).toNat x0,()))):=by kernel_rfl
theorem ocut_g (x:DenL [.str,.int .i64]):ocut x=fON Tryz.prog (envS []) (shOf shcut) Tryz.f28 [.str,.int .i64] [.str] heads0 x:=rfl
open Go Go.Eng Nice
set_option maxRecDepth 100000
theorem cap_n (c:UInt8):ocap (c,())=some (isCap c,()):=by
 rw[ocap_g,ecap_g];by_cases h1:65<=c.toNat
 ·by_cases h2:c.toNat<=90
  ·rw[isCap_iff.2 ⟨h1,h2⟩];simp(disch:=omega) only[cdT]
  ·rw[show isCap c=false by cases hb:isCap c;rfl;exact absurd (isCap_iff.1 hb).2 h2];simp(disch:=omega) only[cdT,cdF]
 ·rw[show isCap c=false by cases hb:isCap c;rfl;exact absurd (isCap_iff.1 hb).1 h1];simp(disch:=omega) only[cdT,cdF]
theorem dig_n (c:UInt8):odig (c,())=some (isDig c,()):=by
 rw[odig_g,edig_g];by_cases h1:48<=c.toNat
 ·by_cases h2:c.toNat<=57
  ·rw[isDig_iff.2 ⟨h1,h2⟩];simp(disch:=omega) only[cdT]
  ·rw[show isDig c=false by cases hb:isDig c;rfl;exact absurd (isDig_iff.1 hb).2 h2];simp(disch:=omega) only[cdT,cdF]
 ·rw[show isDig c=false by cases hb:isDig c;rfl;exact absurd (isDig_iff.1 hb).1 h1];simp(disch:=omega) only[cdT,cdF]
theorem rlower_l (t2:L8):∀(rest done:L8) (n:Nat),done.length+rest.length<=140737488355328->rest.length<n->hrlower_0 n t2 (done++rest) (done.length:Int)=some (done++rest.map lo,())
 |[],done,n,hl,hn=>by
  obtain⟨m,rfl⟩:∃m,n=m+1:=⟨n-1,by omega⟩
  rw[erlower_0,cdF (by simp)];simp
 |c::rest,done,n,hl,hn=>by
  obtain⟨m,rfl⟩:∃m,n=m+1:=⟨n-1,by omega⟩
  simp only[List.length_cons] at hl hn;have hc:=c.toNat_lt;have ih:=λx=>rlower_l t2 rest (done++[x]) m (by simp;omega) (by omega)
  simp only[List.append_assoc,List.singleton_append,List.length_append,List.length_singleton,Int.natCast_add] at ih;rw[erlower_0];simp only[List.length_append,List.length_cons,Int.toNat_natCast,getD_mid,set_mid];by_cases h1:65<=c.toNat
  ·by_cases h2:c.toNat<=90
   ·simp(disch:=omega) only[cdT,gdT,gd_nil,inK_i64,inK_u8,wrap_u8];have e:UInt8.ofNat ((((c.toNat:Int)+32)%256).toNat)=lo c:=by rw[lo_up h1 h2];congr 1;omega
    rw[e];exact ih _
   ·simp(disch:=omega) only[cdT,cdF,gdT,gd_nil,inK_i64];have:=ih c;simpa[lo_not (show ¬(65<=c.toNat/\c.toNat<=90) by omega)] using this
  ·simp(disch:=omega) only[cdT,cdF,gdT,gd_nil,inK_i64];have:=ih c;simpa[lo_not (show ¬(65<=c.toNat/\c.toNat<=90) by omega)] using this
theorem rlower_n (s:L8) (h:lowerP s=true):orlower (s,())=some (lower s,()):=by
 have h:s.length<=140737488355328:=of_decide_eq_true h;rw[orlower_g,erlower_g];exact rlower_l [] s [] heads0 (by simpa using h) (by unfold heads0;omega)
theorem slower_l (t2:L8) (len:Nat):∀(rest done:L8) (n:Nat),len=done.length+rest.length->len<=140737488355328->rest.length<n->hslower_0 n t2 (done++rest) (len:Int) (done.length:Int)=some (done++rest.map lo,())
 |[],done,n,he,hl,hn=>by
  obtain⟨m,rfl⟩:∃m,n=m+1:=⟨n-1,by omega⟩
  simp only[List.length_nil] at he;rw[eslower_0,cdF (by omega)];simp
 |c::rest,done,n,he,hl,hn=>by
  obtain⟨m,rfl⟩:∃m,n=m+1:=⟨n-1,by omega⟩
  simp only[List.length_cons] at he hn;have hc:=c.toNat_lt;have ih:=λx=>slower_l t2 len rest (done++[x]) m (by simp;omega) hl (by omega)
  simp only[List.append_assoc,List.singleton_append,List.length_append,List.length_singleton,Int.natCast_add] at ih;rw[eslower_0];simp only[List.length_append,List.length_cons,Int.toNat_natCast,getD_mid,set_mid,UInt8.ofNat_toNat];cases hb:isCap c
  ·have h0:¬(65<=c.toNat/\c.toNat<=90):=λh=>by rw[isCap_iff.2 h] at hb;cases hb
   simp(disch:=omega) only[cdT,gdT,gd_nil,inK_i64,inK_u8,cond_false];have:=ih c;simpa[lo_not h0] using this
  ·obtain⟨h1,h2⟩:=isCap_iff.1 hb;simp(disch:=omega) only[cdT,gdT,gd_nil,inK_i64,inK_u8,cond_true,wrap_u8];have e:UInt8.ofNat ((((c.toNat:Int)+97)%256-65)%256).toNat=lo c:=by rw[lo_up h1 h2];congr 1;omega
   rw[e];exact ih _
theorem slower_n (s:L8) (h:lowerP s=true):oslower (s,())=some (lower s,()):=by
 have h:s.length<=140737488355328:=of_decide_eq_true h;rw[oslower_g,eslower_g];exact slower_l [] s.length s [] heads0 (by simp) h (by unfold heads0;omega)
theorem sval_l (t1 t4:L8) (t5:Bool) (h1:lowerP t1=true) (len:Nat):∀(rest done:List (L8×L8×Unit)) (n:Nat),len=done.length+rest.length->len<=140737488355328->rest.all (λh=>lowerP h.1)=true->rest.length<n->
  hsval_0 n t1 t4 t5 (done++rest) (len:Int) (done.length:Int)=some ((valueN rest t1).1,(valueN rest t1).2,())
 |[],done,n,he,hl,ha,hn=>by
  obtain⟨m,rfl⟩:∃m,n=m+1:=⟨n-1,by omega⟩
  simp only[List.length_nil] at he;rw[esval_0,cdF (by omega)];rfl
 |c::rest,done,n,he,hl,ha,hn=>by
  obtain⟨m,rfl⟩:∃m,n=m+1:=⟨n-1,by omega⟩
  simp only[List.length_cons] at he hn;simp only[List.all_cons,Bool.and_eq_true] at ha;have ih:=sval_l t1 t4 t5 h1 len rest (done++[c]) m (by simp;omega) hl ha.2 (by omega);simp only[List.append_assoc,List.singleton_append,List.length_append,List.length_singleton,Int.natCast_add] at ih;rw[esval_0];simp only[List.length_append,List.length_cons,Int.toNat_natCast,getD_mid]
  simp(disch:=omega) only[cdT,gdT,gd_nil];cases hb:lower c.1==lower t1
  ·simp(disch:=first|omega|assumption|exact ha.1) only[gdT,gdB,gd_nil,inK_i64,cond_false];simp only[valueN,hb,cond_false];exact ih
  ·simp(disch:=first|omega|assumption|exact ha.1) only[gdB,gd_nil,cond_true];simp only[valueN,hb,cond_true]
theorem sval_n (r:Ty.Den ReqT) (s:L8) (h:valueP r.2.2.2.1 s=true):osval (r,s,())=some ((valueN r.2.2.2.1 s).1,(valueN r.2.2.2.1 s).2,()):=by
 unfold valueP at h;simp only[Bool.and_eq_true,decide_eq_true_eq] at h;rw[osval_g,esval_g];exact sval_l s [] false h.2.1 _ r.2.2.2.1 [] heads0 (by simp) h.1 h.2.2 (by unfold heads0;omega)
theorem rval_l (t1 a b c' d t4:L8) (t5:Bool) (h1:lowerP t1=true):∀(rest done:List (L8×L8×Unit)) (n:Nat),done.length+rest.length<=140737488355328->rest.all (λh=>lowerP h.1)=true->rest.length<n->
  hrval_0 n t1 a b c' (done++rest) d t4 t5 (done.length:Int)=some ((valueN rest t1).1,(valueN rest t1).2,())
 |[],done,n,hl,ha,hn=>by
  obtain⟨m,rfl⟩:∃m,n=m+1:=⟨n-1,by omega⟩
  rw[erval_0,cdF (by simp)];rfl
 |c::rest,done,n,hl,ha,hn=>by
  obtain⟨m,rfl⟩:∃m,n=m+1:=⟨n-1,by omega⟩
  simp only[List.length_cons] at hl hn;simp only[List.all_cons,Bool.and_eq_true] at ha;have ih:=rval_l t1 a b c' d t4 t5 h1 rest (done++[c]) m (by simp;omega) ha.2 (by omega);simp only[List.append_assoc,List.singleton_append,List.length_append,List.length_singleton,Int.natCast_add] at ih;rw[erval_0];simp only[List.length_append,List.length_cons,Int.toNat_natCast,getD_mid]
  simp(disch:=omega) only[cdT,gdT];cases hb:lower c.1==lower t1
  ·simp(disch:=first|omega|assumption|exact ha.1) only[gdT,gdB,gd_nil,inK_i64,cond_false];simp only[valueN,hb,cond_false];exact ih
  ·simp(disch:=first|omega|assumption|exact ha.1) only[gdT,gdB,gd_nil,cond_true];simp only[valueN,hb,cond_true]
theorem rval_n (r:Ty.Den ReqT) (s:L8) (h:valueP r.2.2.2.1 s=true):orval (r,s,())=some ((valueN r.2.2.2.1 s).1,(valueN r.2.2.2.1 s).2,()):=by
 unfold valueP at h;simp only[Bool.and_eq_true,decide_eq_true_eq] at h;rw[orval_g,erval_g];exact rval_l s _ _ _ _ [] false h.2.1 r.2.2.2.1 [] heads0 (by simpa using h.1) h.2.2 (by unfold heads0;omega)
theorem snum_l (t2:Int) (t3:Bool) (len:Nat) (s:L8) (hp:atoiP s=true):∀(rest done:L8) (n:Nat),s=done++rest->len=s.length->len<=140737488355328->rest.length<n->hsnum_0 n s t2 t3 (len:Int) (done.length:Int)=some ((bif allDig rest then(atoiN s).1 else 0),(bif allDig rest then(atoiN s).2&&decide (s.length<=6) else false),())
 |[],done,n,hs,he,hl,hn=>by
  obtain⟨m,rfl⟩:∃m,n=m+1:=⟨n-1,by omega⟩
  have:s.length=done.length:=by rw[hs];simp
  rw[esnum_0,cdF (by omega),gdB hp,gd_nil];simp only[allDig,List.all_nil,cond_true];cases(atoiN s).2
  ·simp
  ·by_cases h6:s.length<=6
   ·rw[cdT (by omega)];simp[h6]
   ·rw[cdF (by omega)];simp[h6]
 |c::rest,done,n,hs,he,hl,hn=>by
  obtain⟨m,rfl⟩:∃m,n=m+1:=⟨n-1,by omega⟩
  have hsl:s.length=done.length+(rest.length+1):=by rw[hs];simp
  simp only[List.length_cons] at hn;have ih:=snum_l t2 t3 len s hp rest (done++[c]) m (by simp[hs]) he hl (by omega);simp only[List.length_append,List.length_singleton,Int.natCast_add] at ih;have hg:s.getD done.length 0=c:=by rw[hs,getD_mid]
  rw[esnum_0];simp only[Int.toNat_natCast,hg];by_cases h1:c.toNat<48
  ·have hd:isDig c=false:=by cases hb:isDig c;rfl;exact absurd (isDig_iff.1 hb).1 (by omega)
   simp(disch:=omega) only[cdT,gdT,gd_nil];simp[allDig,hd]
  ·by_cases h2:57<c.toNat
   ·have hd:isDig c=false:=by cases hb:isDig c;rfl;exact absurd (isDig_iff.1 hb).2 (by omega)
    simp(disch:=omega) only[cdT,cdF,gdT,gd_nil];simp[allDig,hd]
   ·have hd:isDig c=true:=isDig_iff.2 (by omega);simp(disch:=omega) only[cdT,cdF,gdT,gd_nil,inK_i64];simp only[allDig,List.all_cons,hd,Bool.true_and];exact ih
theorem snum_n (s:L8) (h:atoiP s=true):osnum (s,())=some ((scanNum s).1,(scanNum s).2,()):=by
 have h':s.length<=140737488355328:=of_decide_eq_true h;rw[osnum_g,esnum_g];have:=snum_l 0 false s.length s h s [] heads0 rfl rfl h' (by unfold heads0;omega);refine this.trans ?_;unfold scanNum;cases allDig s<;>rfl
theorem slen_n (r:Ty.Den ReqT) (h:scanLenP r.2.2.2.1=true):oslen (r,())=some (scanLen r.2.2.2.1,()):=by
 unfold scanLenP at h;rw[Bool.and_eq_true] at h;rw[oslen_g,eslen_g];simp only[show([99,111,110,116,101,110,116,45,108,101,110,103,116,104]:L8)=clen from rfl,gdB h.1,gdB h.2,gd_nil,Bool.cond_self,scanLen];cases(scanNum (valueN r.2.2.2.1 clen).1).2<;>rfl
theorem cut_n (s:L8) (n:Int) (h:0<=n):ocut (s,n,())=some (cut s n,()):=by
 rw[ocut_g,ecut_g];rw[gdT (by omega),gdT (Int.min_le_left _ _),gd_nil];have:List.take (min (s.length:Int) n).toNat s=cut s n:=by
  unfold cut;by_cases hn:n<=s.length
  ·rw[Int.min_eq_right hn]
  ·rw[Int.min_eq_left (by omega),List.take_of_length_le (by simp),List.take_of_length_le (by omega)]
 rw[this]
theorem numV_lt (s:L8) (h:allDig s=true):numV s<10^s.length:=by
 have key:∀(s:L8) (a:Nat),allDig s=true->s.foldl (λn c=>n*10+(c.toNat-48)) a<(a+1)*10^s.length:=by
  intro s
  induction s with
  |nil=>intro a _;simp
  |cons c s ih=>
   intro a h;simp only[allDig,List.all_cons,Bool.and_eq_true] at h;have hd:=isDig_iff.1 h.1;have:=ih (a*10+(c.toNat-48)) h.2;refine Nat.lt_of_lt_of_le this ?_;rw[List.length_cons,Nat.pow_succ,Nat.mul_comm (10^s.length) 10,<-Nat.mul_assoc];exact Nat.mul_le_mul_right _ (by omega)
 have:=key s 0 h;simpa[numV] using this
theorem pow10_le {k n:Nat} (h:k<=n):(10:Nat)^k<=10^n:=Nat.pow_le_pow_right (by decide) h
theorem numV_snoc (s:L8) (c:UInt8):numV (s++[c])=numV s*10+(c.toNat-48):=by simp[numV]
theorem allDig_snoc {s:L8} {c:UInt8} (h1:allDig s=true) (h2:isDig c=true):allDig (s++[c])=true:=by simp only[allDig,List.all_append,List.all_cons,List.all_nil,Bool.and_true,Bool.and_eq_true] at h1⊢;exact⟨h1,h2⟩
theorem rnum_l (t4:Int) (t5:Bool) (most:Int) (hm:most<=18) (s:L8) (hl:s.length<=140737488355328):∀(rest done:L8) (n:Nat),s=done++rest->allDig done=true->done.length<=18->rest.length<n->(0<done.length->(done.length:Int)<=most)->
  hrnum_0 n s most t4 t5 (numV done:Int) (done.length:Int)=some ((bif allDig rest&&decide (rest=[]\/(s.length:Int)<=most) then((numV s:Int),decide (1<=s.length),()) else(0,false,())))
 |[],done,n,hs,hd,hl18,hn,hmo=>by
  obtain⟨m,rfl⟩:∃m,n=m+1:=⟨n-1,by omega⟩
  rw[List.append_nil] at hs;subst hs;rw[ernum_0,cdF (by omega)];by_cases h1:1<=s.length
  ·rw[cdT (by omega)];simp[allDig,h1]
  ·rw[cdF (by omega)];simp[allDig,h1]
 |c::rest,done,n,hs,hd,hl18,hn,hmo=>by
  obtain⟨m,rfl⟩:∃m,n=m+1:=⟨n-1,by omega⟩
  have hsl:s.length=done.length+(rest.length+1):=by rw[hs];simp
  simp only[List.length_cons] at hn;have hg:s.getD done.length 0=c:=by rw[hs,getD_mid]
  have hc:=c.toNat_lt;rw[ernum_0];simp only[Int.toNat_natCast,hg,UInt8.ofNat_toNat];rw[cdT (by omega)];cases hb:isDig c
  ·simp(disch:=first|omega|(simp only[inK_u8,inK_i64,wrap_u8];omega)) only[gdT,gd_nil,cond_false];simp[allDig,hb]
  ·have hcd:=isDig_iff.1 hb;rw[cond_true];by_cases hk:most<=(done.length:Int)
   ·rw[cdT (by omega)];simp(disch:=first|omega|(simp only[inK_u8,inK_i64,wrap_u8];omega)) only[gdT,gd_nil];rw[show(allDig (c::rest)&&decide (c::rest=[]\/(s.length:Int)<=most))=false by
     rw[Bool.and_eq_false_iff];right;simp;omega]
    rfl
   ·have hv:=numV_lt done hd;have hp:=pow10_le (show done.length<=17 by omega);have ih:=rnum_l t4 t5 most hm s hl rest (done++[c]) m (by simp[hs]) (allDig_snoc hd hb) (by simp;omega) (by omega) (λ_=>by simp;omega);rw[numV_snoc] at ih;simp only[List.length_append,List.length_singleton,Int.natCast_add,Int.natCast_mul] at ih
    rw[cdF (by omega)];simp(disch:=first|omega|(simp only[inK_u8,inK_i64,wrap_u8];omega)) only[gdT,gd_nil];rw[show IntKind.u8.wrap ((c.toNat:Int)-48)=((c.toNat-48:Nat):Int) by rw[wrap_u8];omega];refine Eq.trans ih ?_;have e1:allDig (c::rest)=allDig rest:=by simp[allDig,hb]
    rw[e1];cases rest with
    |nil=>
     have:(s.length:Int)<=most:=by simp at hsl;omega
     simp[this]
    |cons d r=>simp
theorem rnum_n (s:L8) (most:Int) (h:refNumP s most=true):ornum (s,most,())=some ((refNum s most).1,(refNum s most).2,()):=by
 unfold refNumP at h;simp only[Bool.and_eq_true,decide_eq_true_eq] at h;rw[ornum_g,ernum_g];have:=rnum_l 0 false most h.2 s h.1 s [] heads0 rfl rfl (by simp) (by unfold heads0;omega) (λh=>by simp at h);refine Eq.trans this ?_;unfold refNum;cases s with
 |nil=>
  by_cases hm:(0:Int)<=most<;>simp[allDig,numV,hm]
 |cons c r=>
  cases allDig (c::r)
  ·rfl
  ·by_cases hm:((c::r).length:Int)<=most
   ·rw[decide_eq_true (show c::r=[]\/((c::r).length:Int)<=most from .inr hm),decide_eq_true hm];rfl
   ·rw[decide_eq_false (show ¬(c::r=[]\/((c::r).length:Int)<=most) by simp at hm⊢;exact hm),decide_eq_false hm];rfl
theorem rlen_l (a b c' d:L8) (t2 t3:Int):∀(rest done:List (L8×L8×Unit)) (n:Nat) (v:L8) (k:Nat),done.length+rest.length<=140737488355328->k<=done.length->v.length<=140737488355328->rest.all (λh=>lowerP h.1&&lowerP h.2.1)=true->rest.length<n->
  hrlen_0 n a b c' (done++rest) d t2 t3 v (k:Int) (done.length:Int)=some ((refLenOut (refHeads rest v k)).1,(refLenOut (refHeads rest v k)).2,())
 |[],done,n,v,k,hl,hk,hv,ha,hn=>by
  obtain⟨m,rfl⟩:∃m,n=m+1:=⟨n-1,by omega⟩
  rw[erlen_0,cdF (by simp)];simp only[refHeads,refLenOut];by_cases h0:k=0
  ·subst h0;simp
  ·rw[show((k:Int)==0)=false by simp;omega,cond_false,if_neg h0];have hP:refNumP v 6=true:=by unfold refNumP;simp[hv]
   rw[gdB hP,gd_nil];cases hb:(refNum v 6).2
   ·rw[cond_false];by_cases h1:1<k
    ·rw[cdT (by omega),if_pos (.inr rfl),gdB hP,gd_nil]
    ·rw[cdF (by omega),if_pos (.inr rfl),gdB hP,gd_nil]
   ·rw[cond_true];by_cases h1:1<k
    ·rw[cdT (by omega),if_pos (.inl h1)]
    ·rw[cdF (by omega),if_neg (by simp;omega)];by_cases h3:(refNum v 6).1>300
     ·rw[cdT (by omega),if_pos h3]
     ·rw[cdF (by omega),if_neg h3]
 |h::rest,done,n,v,k,hl,hk,hv,ha,hn=>by
  obtain⟨m,rfl⟩:∃m,n=m+1:=⟨n-1,by omega⟩
  simp only[List.length_cons] at hl hn;simp only[List.all_cons,Bool.and_eq_true] at ha;have hv2:h.2.1.length<=140737488355328:=of_decide_eq_true ha.1.2;have ih:=λv k hk hv=>rlen_l a b c' d t2 t3 rest (done++[h]) m v k (by simp;omega) hk hv (by simpa using ha.2) (by omega)
  simp only[List.append_assoc,List.singleton_append,List.length_append,List.length_singleton,Int.natCast_add] at ih;rw[erlen_0];simp only[List.length_append,List.length_cons,Int.toNat_natCast,getD_mid];rw[cdT (by omega),gdB ha.1.1];simp(disch:=omega) only[gdT,gd_nil];simp only[show([99,111,110,116,101,110,116,45,108,101,110,103,116,104]:L8)=clen from rfl,show([116,114,97,110,115,102,101,114,45,101,110,99,111,100,105,110,103]:L8)=tenc from rfl]
  cases hb:lower h.1==clen
  ·rw[cond_false];cases hb2:lower h.1==tenc
   ·rw[cond_false,gdT (by simp only[inK_i64];omega),gd_nil];simp only[refHeads,hb,hb2,cond_false];exact ih v k (by omega) hv
   ·rw[cond_true];simp only[refHeads,hb,hb2,cond_false,cond_true,refLenOut]
  ·rw[cond_true];simp(disch:=first|omega|(simp only[inK_u8,inK_i64,wrap_u8];omega)) only[gdT,gd_nil];simp only[refHeads,hb,cond_true];have:=ih h.2.1 (k+1) (by omega) hv2;simpa using this
theorem rlen_n (r:Ty.Den ReqT) (h:refLenP r.2.2.2.1=true):orlen (r,())=some ((refLen r.2.2.2.1).1,(refLen r.2.2.2.1).2,()):=by
 unfold refLenP at h;simp only[Bool.and_eq_true,decide_eq_true_eq] at h;rw[orlen_g,erlen_g];exact rlen_l _ _ _ _ 0 0 r.2.2.2.1 [] heads0 [] 0 (by simpa using h.1) (by simp) (by simp) h.2 (by unfold heads0;omega)
end Go.Proofs.YtldllfocpadkeaaGreatDoor
namespace Nice
open Go Go.Eng
def wordsO (n:Int):Option (DenL [.str]):=(bif n==200 then some ([79,75],()) else bif n==204 then some ([78,111,32,67,111,110,116,101,110,116],()) else bif n==400 then some ([66,97,100,32,82,101,113,117,101,115,116],()) else bif n==404 then some ([78,111,116,32,70,111,117,110,100],()) else bif n==405 then some ([77,101,116,104,111,100,32,78,111,116,32,65,108,108,111,119,101,100],()) else bif n==412 then some ([80,114,101,99,111,110,100,105,116,105,111,110,32,70,97,105,108,101,100],()) else bif n==413 then some ([67,111,110,116,101,110,116,32,84,111,111,32,76,97,114,103,101],()) else bif n==414 then some ([85,82,73,32,84,111,111,32,76,111,110,103],()) else bif n==431 then some ([82,101,113,117,101,115,116,32,72,101,97,100,101,114,32,70,105,101,108,100,115,32,84,111,111,32,76,97,114,103,101],()) else bif n==503 then some ([83,101,114,118,105,99,101,32,85,110,97,118,97,105,108,97,98,108,101],()) else bif n==507 then some ([73,110,115,117,102,102,105,99,105,101,110,116,32,83,116,111,114,97,103,101],()) else some ([],()))
end Nice
namespace Go.Proofs.YtldllfocpadkeaaGreatDoor
open Go Go.Eng Nice
set_option maxRecDepth 1000000
def owords (x:DenL [.int .i64]):Option (DenL [.str]):=fO Tryz.prog (envS []) (shOf []) Tryz.f68 [.int .i64] [.str] x
theorem ewords (n:Int):owords (n,())=wordsO n:=by kernel_rfl
def orwords (x:DenL [.int .i64]):Option (DenL [.str]):=fO Tryz.prog (envS []) (shOf []) Tryz.f77 [.int .i64] [.str] x
theorem erwords (n:Int):orwords (n,())=wordsO n:=by kernel_rfl
theorem words_nn (n:Int):owords (n,())=some (wordsN n,()):=by
 rw[ewords];unfold wordsO wordsN;cases n==200<;>cases n==204<;>cases n==400<;>cases n==404<;>cases n==405<;>cases n==412<;>cases n==413<;>cases n==414<;>cases n==431<;>cases n==503<;>cases n==507<;>rfl
theorem words_c:PC 68 wordsS:=(pureO (envS_ok (l:=[]) trivial) gl_ne Tryz.func68 (by kernel_rfl) (by decide)).nice λ⟨n,()⟩ _=>words_nn n
theorem rwords_c:PC 77 wordsS:=(pureO (envS_ok (l:=[]) trivial) gl_ne Tryz.func77 (by kernel_rfl) (by decide)).nice λ⟨n,()⟩ _=>(erwords n).trans ((ewords n).symm.trans (words_nn n))
end Go.Proofs.YtldllfocpadkeaaGreatDoor
namespace Nice
open Go Go.Eng
theorem hide {α:Type} (x:α):∃y,y=x:=⟨x,rfl⟩
def hid {α:Type} (x:α):α:=Classical.choose (hide x)
theorem hid_eq {α:Type} (x:α):hid x=x:=Classical.choose_spec (hide x)
abbrev HeadD:=L8×L8×Unit
abbrev ReqD:=L8×L8×L8×List HeadD×L8×Unit
abbrev ScanD:=Int×Int×Int×Int×L8×ReqD×Int×List ReqD×Unit
abbrev ReqO:OT:=.pair (.d .str) (.pair (.d .str) (.pair (.d .str) (.pair (.vec (.pair .str (.pair .str .unit)) 101) (.pair (.d .str) .unit))))
abbrev ScanO:OT:=.pair (.d (.int .i64)) (.pair (.d (.int .i64)) (.pair (.d (.int .i64)) (.pair (.d (.int .i64)) (.pair (.vec .byte 5) (.pair ReqO (.pair (.d (.int .i64)) (.pair (.vec (.pair .str (.pair .str (.pair .str (.pair (.slice (.pair .str (.pair .str .unit))) (.pair .str .unit))))) 62) .unit)))))))
abbrev setC:List Value:=[.bool false,.bool false,.bool false,.bool false,.bool false,.bool false,.bool false,.bool false,.bool false,.bool true]++List.replicate 22 (.bool false)++[.bool true]++List.replicate 223 (.bool false)
abbrev sigB:OSpec:=⟨true,0,ScanO,165,[.d .byte],[.d (.int .i64)],λ_ _=>true,λx _=>(x,(0:Int),())⟩
abbrev sig0:OSpec:=⟨true,0,ScanO,165,[],[.d (.int .i64)],λ_ _=>true,λx _=>(x,(0:Int),())⟩
abbrev sigF:OSpec:=⟨true,0,ScanO,165,[.d .str],[.vec ReqT 62],λ_ _=>true,λx _=>(x,[],())⟩
abbrev sigFi:OSpec:=⟨false,0,.unit,0,[.d .str],[ReqO,.d (.int .i64),.d .bool],λ_ _=>true,λx _=>(x,([],[],[],[],[],()),(0:Int),false,())⟩
abbrev sigOn:OSpec:=⟨false,0,.unit,0,[.d .str],[ReqO,.d (.int .i64),.d (.int .i64)],λ_ _=>true,λx _=>(x,([],[],[],[],[],()),(0:Int),(0:Int),())⟩
abbrev sigAs:OSpec:=⟨true,0,.con setC,194,[.d .byte],[.d .bool],λ_ _=>true,λx _=>(x,false,())⟩
abbrev sigTr:OSpec:=⟨true,1,.con setC,194,[.d .str],[.d .str],λ_ _=>true,λx _=>(x,[],())⟩
def isVis (c:UInt8):Bool:=decide (33<=c.toNat/\c.toNat<=126/\c.toNat≠35)
def isTok (c:UInt8):Bool:=decide (65<=c.toNat/\c.toNat<=90\/97<=c.toNat/\c.toNat<=122\/48<=c.toNat/\c.toNat<=57\/c.toNat=45)
def isLet (c:UInt8):Bool:=decide (65<=c.toNat/\c.toNat<=90\/97<=c.toNat/\c.toNat<=122)
def isSp (c:UInt8):Bool:=c==32||c==9
def trimL (s:L8):L8:=s.dropWhile isSp
def trimR (s:L8):L8:=(s.reverse.dropWhile isSp).reverse
def longN (x:ScanD) (c:UInt8):Int:=
 if c.toNat=13\/x.1>=7\/x.1=4 then 0
 else if x.1<5/\x.2.2.1>=200 then 414
 else if x.1>=5/\x.2.2.1>=120 then 431
 else if x.1=5/\x.2.2.1=0/\(x.2.2.2.2.2.1.2.2.2.1.length:Int)>=10 then 431
 else 0
def idleN (x:ScanD):Bool:=x.2.1 !=0||(x.1==0&&x.2.2.1==0)
def visS:PSpec:=⟨[.byte],[.bool],λ_=>true,λx=>(isVis x.1,())⟩
def tokS:PSpec:=⟨[.byte],[.bool],λ_=>true,λx=>(isTok x.1,())⟩
def letS:PSpec:=⟨[.byte],[.bool],λ_=>true,λx=>(isLet x.1,())⟩
def isSpS:OSpec:=niceO sigAs (λ_ _=>true) λ_ y=>((),isSp y.1,())
def trimLS:OSpec:=niceO sigTr (λ_ y=>decide (y.1.length<=140737488355328)) λ_ y=>((),trimL y.1,())
def trimRS:OSpec:=niceO sigTr (λ_ y=>decide (y.1.length<=140737488355328)) λ_ y=>((),trimR y.1,())
def trimS:PSpec:=⟨[.str,.str],[.str],λx=>(x.2.1==[32,9])&&decide (x.1.length<=140737488355328),λx=>(trimL (trimR x.1),())⟩
def longS:OSpec:=niceO sigB (λ_ _=>true) λx y=>(x,longN x y.1,())
theorem hidO {P:Program} {gl:List (Nat×List Value)} {f:FuncId} {S:OSpec} {g:S.root.Den->DenO S.ts->Option (S.root.Den×DenO S.rs)} (h:ObjC P gl f (ofOO S g)) {p:S.root.Den->DenO S.ts->Bool} {n:S.root.Den->DenO S.ts->S.root.Den×DenO S.rs}
  (hp:p=λx y=>(g x y).isSome) (hn:n=λx y=>(g x y).getD (S.root.dflt,dfltO S.rs)):ObjC P gl f (niceO S p n):=h.nice λx y hx=>by
 subst hp hn;obtain⟨z,hz⟩:=Option.isSome_iff_exists.1 hx;show g x y=some ((g x y).getD _);rw[hz];rfl
theorem hidP {P:Program} {gl:List (Nat×List Value)} {f:FuncId} {ts rs:List Ty} {g:DenL ts->Option (DenL rs)} (h:PureC P gl f (ofO ts rs g)) {p:DenL ts->Bool} {n:DenL ts->DenL rs}
  (hp:p=λx=>(g x).isSome) (hn:n=λx=>(g x).getD (dfltL rs)):PureC P gl f ⟨ts,rs,p,n⟩:=h.nice λx hx=>by
 subst hp hn;obtain⟨z,hz⟩:=Option.isSome_iff_exists.1 hx;show g x=some ((g x).getD _);rw[hz];rfl
end Nice
namespace Go.Proofs.YtldllfocpadkeaaGreatDoor
open Go Go.Eng Nice
set_option maxRecDepth 1000000
abbrev shvis:List (Nat×List (Nat×Sh)):=[]
def ovis (x:DenL [.byte]):Option (DenL [.bool]):=fO Tryz.prog (envS []) (shOf shvis) Tryz.f165 [.byte] [.bool] x
abbrev shtok:List (Nat×List (Nat×Sh)):=[]
def otok (x:DenL [.byte]):Option (DenL [.bool]):=fO Tryz.prog (envS [(163,capS)]) (shOf shtok) Tryz.f215 [.byte] [.bool] x
theorem etok_g (N:Nat) (x0:UInt8) {Qc}[Qc':QA (↑x0.toNat:Int) Qc] {Qb}[Qb':QA (gd [decide (inK .u8 Qc)] (some (true,()))) Qb] {Qd}[Qd':QA (bif Qc==45 then Qb else (gd [decide (inK .u8 Qc)] (some (false,())))) Qd] {Qa}[Qa':QA (bif decide (Qc>=48) then (bif decide (Qc<=57) then Qb else Qd) else Qd) Qa]:fON Tryz.prog (envS [(163,capS)]) (shOf shtok) Tryz.f215 [.byte] [.bool] N (x0,())= (bif isCap (UInt8.ofNat Qc.toNat) then Qb else (bif decide (Qc>=97) then (bif decide (Qc<=122) then Qb else Qa) else Qa)):=by obtain ⟨rfl⟩:=Qa';obtain ⟨rfl⟩:=Qd';obtain ⟨rfl⟩:=Qb';obtain ⟨rfl⟩:=Qc';kernel_rfl
theorem otok_g (x:DenL [.byte]):otok x=fON Tryz.prog (envS [(163,capS)]) (shOf shtok) Tryz.f215 [.byte] [.bool] heads0 x:=rfl
abbrev shlet:List (Nat×List (Nat×Sh)):=[]
def olet (x:DenL [.byte]):Option (DenL [.bool]):=fO Tryz.prog (envS []) (shOf shlet) Tryz.f160 [.byte] [.bool] x
abbrev shtrL:List (Nat×List (Nat×Sh)):=[(1,[(0,(.one .sym)),(1,(.obj (List.replicate 256 .any))),(4,(.one .sym))])]
def htrL_0 (n:Nat) (t0 t4:L8):Option ((sigTr).root.Den×DenO (sigTr).rs):=rHO Tryz.prog (envO [] [(211,isSpS)]) (shOf shtrL) Tryz.f156 (sigTr) [10] n 0 [(0,sy (.string (bs t0))),(1,.pointer (some ⟨10,0,none⟩)),(4,sy (.string (bs t4)))] [.row setC 194 false]
def otrL (x:(sigTr).root.Den) (y:DenO (sigTr).ts):Option ((sigTr).root.Den×DenO (sigTr).rs):=fOO Tryz.prog (envO [] [(211,isSpS)]) (shOf shtrL) Tryz.f156 (sigTr) x y
theorem etrL_g (N:Nat) (s:L8):fOON Tryz.prog (envO [] [(211,isSpS)]) (shOf shtrL) Tryz.f156 (sigTr) N () (s,())=
 (htrL_0 N (s) ([])):=by kernel_rfl
theorem otrL_g (x:(sigTr).root.Den) (y:DenO (sigTr).ts):otrL x y=fOON Tryz.prog (envO [] [(211,isSpS)]) (shOf shtrL) Tryz.f156 (sigTr) heads0 x y:=rfl
theorem etrL_0 (n:Nat) (t0 t4:L8) {Qa}[Qa':QA (↑(t0.getD 0 0).toNat:Int) Qa] {Qb}[Qb':QA (↑t0.length:Int) Qb]:htrL_0 (n+1) t0 t4= (bif decide (Qb>0) then (bif isSp (UInt8.ofNat Qa.toNat) then (gd [decide ((1:Int)<=Qb),decide (inK .u8 Qa),decide ((0:Int)<Qb)] (htrL_0 n (List.drop 1 t0) t4)) else (gd [decide (inK .u8 Qa),decide ((0:Int)<Qb)] (some ((),t0,())))) else (some ((),t0,()))):=by obtain ⟨rfl⟩:=Qb';obtain ⟨rfl⟩:=Qa';kernel_rfl
abbrev shtrR:List (Nat×List (Nat×Sh)):=[(1,[(0,(.one .sym)),(1,(.obj (List.replicate 256 .any))),(4,(.one .sym))])]
def htrR_0 (n:Nat) (t0 t4:L8):Option ((sigTr).root.Den×DenO (sigTr).rs):=rHO Tryz.prog (envO [] [(211,isSpS)]) (shOf shtrR) Tryz.f157 (sigTr) [10] n 0 [(0,sy (.string (bs t0))),(1,.pointer (some ⟨10,0,none⟩)),(4,sy (.string (bs t4)))] [.row setC 194 false]
def otrR (x:(sigTr).root.Den) (y:DenO (sigTr).ts):Option ((sigTr).root.Den×DenO (sigTr).rs):=fOO Tryz.prog (envO [] [(211,isSpS)]) (shOf shtrR) Tryz.f157 (sigTr) x y
theorem etrR_g (N:Nat) (s:L8):fOON Tryz.prog (envO [] [(211,isSpS)]) (shOf shtrR) Tryz.f157 (sigTr) N () (s,())=
 (htrR_0 N (s) ([])):=by kernel_rfl
theorem otrR_g (x:(sigTr).root.Den) (y:DenO (sigTr).ts):otrR x y=fOON Tryz.prog (envO [] [(211,isSpS)]) (shOf shtrR) Tryz.f157 (sigTr) heads0 x y:=rfl
theorem etrR_0 (n:Nat) (t0 t4:L8) {Qa}[Qa':QA (↑t0.length:Int) Qa] {Qb}[Qb':QA (↑(t0.getD (Qa-1).toNat 0).toNat:Int) Qb]:htrR_0 (n+1) t0 t4= (bif decide (Qa>0) then (bif isSp (UInt8.ofNat Qb.toNat) then (gd [decide ((0:Int)<=Qa-1),decide (Qa-1<=Qa),decide (inK .i64 (Qa-1)),decide (inK .u8 Qb),decide ((0:Int)<=Qa-1),decide (Qa-1<Qa),decide (inK .i64 (Qa-1))] (htrR_0 n (List.take (Qa-1).toNat t0) t4)) else (gd [decide (inK .u8 Qb),decide ((0:Int)<=Qa-1),decide (Qa-1<Qa),decide (inK .i64 (Qa-1))] (some ((),t0,())))) else (some ((),t0,()))):=by obtain ⟨rfl⟩:=Qb';obtain ⟨rfl⟩:=Qa';kernel_rfl
abbrev shtrim:List (Nat×List (Nat×Sh)):=[]
def otrim (x:DenL [.str,.str]):Option (DenL [.str]):=fO Tryz.prog (envO [] [(156,trimLS),(157,trimRS)]) (shOf shtrim) Tryz.f116 [.str,.str] [.str] x
theorem etrim_g (N:Nat) (s:L8):fON Tryz.prog (envO [] [(156,trimLS),(157,trimRS)]) (shOf shtrim) Tryz.f116 [.str,.str] [.str] N (s,[32,9],())=
  (bif s==[] then
 (some (s,()))
  else
 (gd [decide ((trimR s).length<=140737488355328),decide (s.length<=140737488355328)] (some (trimL (trimR s),())))):=by kernel_rfl
theorem otrim_g (x:DenL [.str,.str]):otrim x=fON Tryz.prog (envO [] [(156,trimLS),(157,trimRS)]) (shOf shtrim) Tryz.f116 [.str,.str] [.str] heads0 x:=rfl
abbrev shlong:List (Nat×List (Nat×Sh)):=[]
def olong (x:(sigB).root.Den) (y:DenO (sigB).ts):Option ((sigB).root.Den×DenO (sigB).rs):=fOO Tryz.prog (envO [] []) (shOf shlong) Tryz.f161 (sigB) x y
theorem elong_g (N:Nat) (st su li at':Int) (tx m p q:L8) (hs:List HeadD) (b:L8) (le:Int) (ou:List ReqD) (c:UInt8) {Qb}[Qb':QA (st,su,li,at',tx,(m,p,q,hs,b,()),le,ou,()) Qb] {Qc}[Qc':QA (some (Qb,(0:Int),())) Qc] {Qa}[Qa':QA (bif st==5 then (bif li==0 then (bif decide ((↑hs.length:Int)>=10) then (some (Qb,(431:Int),())) else Qc) else Qc) else Qc) Qa] {Qd}[Qd':QA (bif decide (st>=5) then (bif decide (li>=120) then (some (Qb,(431:Int),())) else Qa) else Qa) Qd]:fOON Tryz.prog (envO [] []) (shOf shlong) Tryz.f161 (sigB) N (st,su,li,at',tx,(m,p,q,hs,b,()),le,ou,()) (c,())= (bif (↑c.toNat:Int)==13 then Qc else (bif decide (st>=7) then Qc else (bif st==4 then Qc else (bif decide (st<5) then (bif decide (li>=200) then (some (Qb,(414:Int),())) else Qd) else Qd)))):=by obtain ⟨rfl⟩:=Qd';obtain ⟨rfl⟩:=Qa';obtain ⟨rfl⟩:=Qc';obtain ⟨rfl⟩:=Qb';kernel_rfl
theorem olong_g (x:(sigB).root.Den) (y:DenO (sigB).ts):olong x y=fOON Tryz.prog (envO [] []) (shOf shlong) Tryz.f161 (sigB) heads0 x y:=rfl
abbrev shheads:List (Nat×List (Nat×Sh)):=[(3,[(0,(.obj [.sym,.sym,.sym,.sym,(.vec .byte 5),.sym,.sym,.sym,(.vec (.pair .str (.pair .str .unit)) 101),.sym,.sym,(.vec ReqT 62)])),(2,(.one .sym)),(3,(.one .sym)),(12,(.one (.same 1))),(13,(.one .sym)),(14,(.one .sym))])]
def hheads_0 (n:Nat) (t0_0 t0_1 t0_2 t0_3:Int) (t0_4:List (Ty.Den .byte)) (t0_5 t0_6 t0_7:L8) (t0_8:List (Ty.Den (.pair .str (.pair .str .unit)))) (t0_9:L8) (t0_10:Int) (t0_11:List (Ty.Den ReqT)) (t2 t3 t13 t14:Int):Option ((sig0).root.Den×DenO (sig0).rs):=rHO Tryz.prog (envO [(128,lowerS),(130,scanNumS),(86,scanLenS)] []) (shOf shheads) Tryz.f216 (sig0) [13] n 0 [(0,.pointer (some ⟨13,0,none⟩)),(2,sy (.int .i64 t2)),(3,sy (.int .i64 t3)),(12,dt 11),(13,sy (.int .i64 t13)),(14,sy (.int .i64 t14))] [.vec .byte t0_4 5,.vec (.pair .str (.pair .str .unit)) t0_8 101,.vec ReqT t0_11 62,.row [sy (.int .i64 t0_0),sy (.int .i64 t0_1),sy (.int .i64 t0_2),sy (.int .i64 t0_3),dt 10,sy (.string (bs t0_5)),sy (.string (bs t0_6)),sy (.string (bs t0_7)),dt 11,sy (.string (bs t0_9)),sy (.int .i64 t0_10),dt 12] 165 false]
def oheads (x:(sig0).root.Den) (y:DenO (sig0).ts):Option ((sig0).root.Den×DenO (sig0).rs):=fOO Tryz.prog (envO [(128,lowerS),(130,scanNumS),(86,scanLenS)] []) (shOf shheads) Tryz.f216 (sig0) x y
theorem eheads_g (N:Nat) (st su li at':Int) (tx m p q:L8) (hs:List HeadD) (b:L8) (le:Int) (ou:List ReqD):fOON Tryz.prog (envO [(128,lowerS),(130,scanNumS),(86,scanLenS)] []) (shOf shheads) Tryz.f216 (sig0) N (st,su,li,at',tx,(m,p,q,hs,b,()),le,ou,()) ()=
 (hheads_0 N (st) (su) (li) (at') (tx) (m) (p) (q) (hs) (b) (le) (ou) ((0:Int)) ((0:Int)) ((↑hs.length:Int)) ((0:Int))):=by kernel_rfl
theorem oheads_g (x:(sig0).root.Den) (y:DenO (sig0).ts):oheads x y=fOON Tryz.prog (envO [(128,lowerS),(130,scanNumS),(86,scanLenS)] []) (shOf shheads) Tryz.f216 (sig0) heads0 x y:=rfl
theorem eheads_0 (n:Nat) (t0_0 t0_1 t0_2 t0_3:Int) (t0_4:List (Ty.Den .byte)) (t0_5 t0_6 t0_7:L8) (t0_8:List (Ty.Den (.pair .str (.pair .str .unit)))) (t0_9:L8) (t0_10:Int) (t0_11:List (Ty.Den ReqT)) (t2 t3 t13 t14:Int) {Qc}[Qc':QA (t0_5,t0_6,t0_7,t0_8,t0_9,()) Qc] {Qa}[Qa':QA (some ((t0_0,t0_1,t0_2,t0_3,t0_4,Qc,t0_10,t0_11,()),(400:Int),())) Qa] {Qb}[Qb':QA (t0_8.getD t14.toNat (HeadT).dflt) Qb] {Qd}[Qd':QA (hheads_0 n t0_0 t0_1 t0_2 t0_3 t0_4 t0_5 t0_6 t0_7 t0_8 t0_9 t0_10 t0_11 t2) Qd]:hheads_0 (n+1) t0_0 t0_1 t0_2 t0_3 t0_4 t0_5 t0_6 t0_7 t0_8 t0_9 t0_10 t0_11 t2 t3 t13 t14= (bif decide (t14<t13) then (gd [lowerP Qb.fst,decide (t14.toNat<t0_8.length),decide (0<=t14),decide (t14<t0_8.length)] (bif lower Qb.fst==[116,114,97,110,115,102,101,114,45,101,110,99,111,100,105,110,103] then Qa else (bif lower Qb.fst==[99,111,110,116,101,110,116,45,108,101,110,103,116,104] then (bif (scanNum Qb.snd.fst).snd then (gd [decide (inK .i64 (t14+1)),decide (inK .i64 (t3+1)),atoiP Qb.snd.fst] (Qd (t3+1) t13 (t14+1))) else (gd [atoiP Qb.snd.fst] Qa)) else (gd [decide (inK .i64 (t14+1))] (Qd t3 t13 (t14+1)))))) else (bif decide (t3>1) then Qa else (gd [scanLenP t0_8] (bif decide (scanLen t0_8>300) then (some ((t0_0,t0_1,t0_2,t0_3,t0_4,Qc,scanLen t0_8,t0_11,()),(413:Int),())) else (bif scanLen t0_8==0 then (gd [decide ((2*(t0_11.length+1)+400)*88<=281474976710656)] (some (((0:Int),t0_1,t0_2,t0_3,t0_4,([],[],[],[],[],()),scanLen t0_8,t0_11++[Qc],()),(0:Int),()))) else (some (((9:Int),t0_1,t0_2,t0_3,t0_4,Qc,scanLen t0_8,t0_11,()),(0:Int),()))))))):=by obtain ⟨rfl⟩:=Qd';obtain ⟨rfl⟩:=Qb';obtain ⟨rfl⟩:=Qa';obtain ⟨rfl⟩:=Qc';kernel_rfl
def headsP:(sig0).root.Den->DenO (sig0).ts->Bool:=hid λx y=>(oheads x y).isSome
def headsN:(sig0).root.Den->DenO (sig0).ts->(sig0).root.Den×DenO (sig0).rs:=hid λx y=>(oheads x y).getD ((sig0).root.dflt,dfltO (sig0).rs)
theorem heads_hid {x:(sig0).root.Den} {y:DenO (sig0).ts} {z:(sig0).root.Den×DenO (sig0).rs} (h:oheads x y=some z):headsP x y=true/\headsN x y=z:=by
 unfold headsP headsN;rw[hid_eq,hid_eq];simp only[h];exact⟨rfl,rfl⟩
def headsS:OSpec:=niceO sig0 headsP headsN
abbrev shlines:List (Nat×List (Nat×Sh)):=[]
def olines (x:(sigB).root.Den) (y:DenO (sigB).ts):Option ((sigB).root.Den×DenO (sigB).rs):=fOO Tryz.prog (envO [(215,tokS),(116,trimS)] [(216,headsS)]) (shOf shlines) Tryz.f162 (sigB) x y
theorem elines_g (N:Nat) (st su li at':Int) (tx m p q:L8) (hs:List HeadD) (b:L8) (le:Int) (ou:List ReqD) (c:UInt8) {Qj}[Qj':QA (m,p,q,hs,b,()) Qj] {Qk}[Qk':QA (st,su,(0:Int),at',tx,Qj,le,ou,()) Qk] {Qc}[Qc':QA (headsN Qk ()) Qc] {Qf}[Qf':QA (↑c.toNat:Int) Qf] {Qg}[Qg':QA (some ((st,su,li,at',tx,Qj,le,ou,()),(400:Int),())) Qg] {Qa}[Qa':QA (bif Qf !=10 then Qg else (bif st==8 then (gd [headsP Qk ()] (some ((Qc.fst.fst,Qc.fst.snd.fst,Qc.fst.snd.snd.fst,Qc.fst.snd.snd.snd.fst,Qc.fst.snd.snd.snd.snd.fst,(Qc.fst.snd.snd.snd.snd.snd.fst.fst,Qc.fst.snd.snd.snd.snd.snd.fst.snd.fst,Qc.fst.snd.snd.snd.snd.snd.fst.snd.snd.fst,Qc.fst.snd.snd.snd.snd.snd.fst.snd.snd.snd.fst,Qc.fst.snd.snd.snd.snd.snd.fst.snd.snd.snd.snd.fst,()),Qc.fst.snd.snd.snd.snd.snd.snd.fst,Qc.fst.snd.snd.snd.snd.snd.snd.snd.fst,()),Qc.snd.fst,()))) else (some (((5:Int),su,(0:Int),at',tx,Qj,le,ou,()),(0:Int),())))) Qa] {Qi}[Qi':QA (some ((st,su,li+1,at',tx++[UInt8.ofNat Qf.toNat],Qj,le,ou,()),(0:Int),())) Qi] {Qb}[Qb':QA (bif isTok (UInt8.ofNat Qf.toNat) then (gd [decide (inK .i64 (li+1)),decide ((2*(tx.length+1)+400)*1<=281474976710656),decide (inK .u8 Qf),decide (inK .u8 Qf)] Qi) else (gd [decide (inK .u8 Qf)] Qg)) Qb] {Qd}[Qd':QA (gd [decide (inK .i64 (li+1)),decide ((2*(tx.length+1)+400)*1<=281474976710656),decide (inK .u8 Qf)] Qi) Qd] {Qe}[Qe':QA (bif Qf==58 then (bif decide (li>0) then (gd [decide (inK .i64 (li+1)),decide ((2*(hs.length+1)+400)*32<=281474976710656)] (some (((6:Int),su,li+1,at',[],(m,p,q,hs++[(tx,[],())],b,()),le,ou,()),(0:Int),()))) else Qb) else Qb) Qe] {Qh}[Qh':QA (↑hs.length:Int) Qh]:fOON Tryz.prog (envO [(215,tokS),(116,trimS)] [(216,headsS)]) (shOf shlines) Tryz.f162 (sigB) N (st,su,li,at',tx,(m,p,q,hs,b,()),le,ou,()) (c,())= (bif st==4 then Qa else (bif st==7 then Qa else (bif st==8 then Qa else (bif st==6 then (bif Qf==13 then (gd [decide ((Qh-1).toNat<hs.length),decide ((0:Int)<=Qh-1),decide (Qh-1<Qh),[32,9]==[32,9]&&decide (tx.length<=140737488355328),decide (inK .i64 (Qh-1))] (some (((7:Int),su,li,at',[],(m,p,q,hs.set (Qh-1).toNat ((hs.getD (Qh-1).toNat (HeadT).dflt).fst,trimL (trimR tx),()),b,()),le,ou,()),(0:Int),()))) else (bif decide (Qf>=32) then (bif decide (Qf<=126) then Qd else (bif Qf==9 then Qd else Qg)) else (bif Qf==9 then Qd else Qg))) else (bif Qf==13 then (bif li==0 then (some (((8:Int),su,li,at',tx,Qj,le,ou,()),(0:Int),())) else Qe) else Qe))))):=by obtain ⟨rfl⟩:=Qh';obtain ⟨rfl⟩:=Qe';obtain ⟨rfl⟩:=Qd';obtain ⟨rfl⟩:=Qb';obtain ⟨rfl⟩:=Qi';obtain ⟨rfl⟩:=Qa';obtain ⟨rfl⟩:=Qg';obtain ⟨rfl⟩:=Qf';obtain ⟨rfl⟩:=Qc';obtain ⟨rfl⟩:=Qk';obtain ⟨rfl⟩:=Qj';kernel_rfl
theorem olines_g (x:(sigB).root.Den) (y:DenO (sigB).ts):olines x y=fOON Tryz.prog (envO [(215,tokS),(116,trimS)] [(216,headsS)]) (shOf shlines) Tryz.f162 (sigB) heads0 x y:=rfl
def linesP:(sigB).root.Den->DenO (sigB).ts->Bool:=hid λx y=>(olines x y).isSome
def linesN:(sigB).root.Den->DenO (sigB).ts->(sigB).root.Den×DenO (sigB).rs:=hid λx y=>(olines x y).getD ((sigB).root.dflt,dfltO (sigB).rs)
theorem lines_hid {x:(sigB).root.Den} {y:DenO (sigB).ts} {z:(sigB).root.Den×DenO (sigB).rs} (h:olines x y=some z):linesP x y=true/\linesN x y=z:=by
 unfold linesP linesN;rw[hid_eq,hid_eq];simp only[h];exact⟨rfl,rfl⟩
def linesS:OSpec:=niceO sigB linesP linesN
abbrev shstep:List (Nat×List (Nat×Sh)):=[]
def ostep (x:(sigB).root.Den) (y:DenO (sigB).ts):Option ((sigB).root.Den×DenO (sigB).rs):=fOO Tryz.prog (envO [(163,capS),(165,visS)] [(161,longS),(162,linesS)]) (shOf shstep) Tryz.f121 (sigB) x y
theorem estep_g (N:Nat) (st su li at':Int) (tx m p q:L8) (hs:List HeadD) (b:L8) (le:Int) (ou:List ReqD) (c:UInt8) {Qk}[Qk':QA (m,p,q,hs,b,()) Qk] {Qa}[Qa':QA (st,su,li,at',tx,Qk,le,ou,()) Qa] {Qc}[Qc':QA (↑c.toNat:Int) Qc] {Qb}[Qb':QA (gd [decide (inK .i64 (li+1)),decide ((2*(tx.length+1)+400)*1<=281474976710656),decide (inK .u8 Qc),decide (inK .u8 Qc)] (some ((st,su,li+1,at',tx++[UInt8.ofNat Qc.toNat],Qk,le,ou,()),(0:Int),()))) Qb] {Qd}[Qd':QA (linesN Qa (UInt8.ofNat Qc.toNat,())) Qd] {Qh}[Qh':QA (some (Qa,(400:Int),())) Qh] {Qe}[Qe':QA (bif at'==8 then Qh else (bif Qc !=(↑(([72,84,84,80,47,49,46,49]:L8).getD at'.toNat 0).toNat:Int) then (gd [decide (0<=at'),decide (at'<8)] Qh) else (gd [decide (inK .i64 (li+1)),decide (inK .i64 (at'+1)),decide (0<=at'),decide (at'<8)] (some ((st,su,li+1,at'+1,tx,Qk,le,ou,()),(0:Int),()))))) Qe] {Qi}[Qi':QA (UInt8.ofNat Qc.toNat) Qi] {Qj}[Qj':QA (bif isVis Qi then Qb else (gd [decide (inK .u8 Qc)] Qh)) Qj] {Qf}[Qf':QA (bif Qc==63 then (gd [decide (inK .i64 (li+1))] (some (((2:Int),su,li+1,at',[],(m,tx,q,hs,b,()),le,ou,()),(0:Int),()))) else (bif Qc==32 then (gd [decide (inK .i64 (li+1))] (some (((3:Int),su,li+1,at',[],(m,tx,q,hs,b,()),le,ou,()),(0:Int),()))) else Qj)) Qf] {Qg}[Qg':QA (gd [decide (inK .u8 Qc)] (bif Qc==32 then (bif decide (li>0) then (gd [decide (inK .i64 (li+1))] (some (((1:Int),su,li+1,at',[],(tx,p,q,hs,b,()),le,ou,()),(0:Int),()))) else Qh) else Qh)) Qg]:fOON Tryz.prog (envO [(163,capS),(165,visS)] [(161,longS),(162,linesS)]) (shOf shstep) Tryz.f121 (sigB) N (st,su,li,at',tx,(m,p,q,hs,b,()),le,ou,()) (c,())= (gd [decide (inK .u8 Qc)] (bif longN Qa Qi !=0 then (some (Qa,longN Qa Qi,())) else (bif st==0 then (bif isCap Qi then (bif decide (li<10) then Qb else Qg) else Qg) else (bif st==1 then (bif (↑tx.length:Int)==0 then (bif Qc !=47 then Qh else Qf) else Qf) else (bif st==2 then (bif Qc==32 then (gd [decide (inK .i64 (li+1))] (some (((3:Int),su,li+1,at',[],(m,p,tx,hs,b,()),le,ou,()),(0:Int),()))) else Qj) else (bif st==3 then (bif at'==8 then (bif Qc==13 then (some (((4:Int),su,li,(0:Int),tx,Qk,le,ou,()),(0:Int),())) else Qe) else Qe) else (bif st==9 then (gd [decide (inK .i64 (le-1)),decide ((2*(tx.length+1)+400)*1<=281474976710656),decide (inK .u8 Qc)] (bif le-1==0 then (gd [decide ((2*(ou.length+1)+400)*88<=281474976710656)] (some (((0:Int),su,li,at',[],([],[],[],[],[],()),le-1,ou++[(m,p,q,hs,tx++[UInt8.ofNat Qc.toNat],())],()),(0:Int),()))) else (some ((st,su,li,at',tx++[UInt8.ofNat Qc.toNat],Qk,le-1,ou,()),(0:Int),())))) else (gd [linesP Qa (UInt8.ofNat Qc.toNat,()),decide (inK .u8 Qc)] (some ((Qd.fst.fst,Qd.fst.snd.fst,Qd.fst.snd.snd.fst,Qd.fst.snd.snd.snd.fst,Qd.fst.snd.snd.snd.snd.fst,(Qd.fst.snd.snd.snd.snd.snd.fst.fst,Qd.fst.snd.snd.snd.snd.snd.fst.snd.fst,Qd.fst.snd.snd.snd.snd.snd.fst.snd.snd.fst,Qd.fst.snd.snd.snd.snd.snd.fst.snd.snd.snd.fst,Qd.fst.snd.snd.snd.snd.snd.fst.snd.snd.snd.snd.fst,()),Qd.fst.snd.snd.snd.snd.snd.snd.fst,Qd.fst.snd.snd.snd.snd.snd.snd.snd.fst,()),Qd.snd.fst,())))))))))):=by obtain ⟨rfl⟩:=Qg';obtain ⟨rfl⟩:=Qf';obtain ⟨rfl⟩:=Qj';obtain ⟨rfl⟩:=Qi';obtain ⟨rfl⟩:=Qe';obtain ⟨rfl⟩:=Qh';obtain ⟨rfl⟩:=Qd';obtain ⟨rfl⟩:=Qb';obtain ⟨rfl⟩:=Qc';obtain ⟨rfl⟩:=Qa';obtain ⟨rfl⟩:=Qk';kernel_rfl
theorem ostep_g (x:(sigB).root.Den) (y:DenO (sigB).ts):ostep x y=fOON Tryz.prog (envO [(163,capS),(165,visS)] [(161,longS),(162,linesS)]) (shOf shstep) Tryz.f121 (sigB) heads0 x y:=rfl
def stepP:(sigB).root.Den->DenO (sigB).ts->Bool:=hid λx y=>(ostep x y).isSome
def stepN:(sigB).root.Den->DenO (sigB).ts->(sigB).root.Den×DenO (sigB).rs:=hid λx y=>(ostep x y).getD ((sigB).root.dflt,dfltO (sigB).rs)
theorem step_hid {x:(sigB).root.Den} {y:DenO (sigB).ts} {z:(sigB).root.Den×DenO (sigB).rs} (h:ostep x y=some z):stepP x y=true/\stepN x y=z:=by
 unfold stepP stepN;rw[hid_eq,hid_eq];simp only[h];exact⟨rfl,rfl⟩
def stepS:OSpec:=niceO sigB stepP stepN
abbrev shfeed:List (Nat×List (Nat×Sh)):=[(4,[(0,(.obj [.sym,.sym,.sym,.sym,(.vec .byte 5),.sym,.sym,.sym,(.vec (.pair .str (.pair .str .unit)) 101),.sym,.sym,(.vec ReqT 62)])),(1,(.one .sym)),(4,(.one .any)),(5,(.one .sym))])]
def hfeed_0 (n:Nat) (t0_0 t0_1 t0_2 t0_3:Int) (t0_4:List (Ty.Den .byte)) (t0_5 t0_6 t0_7:L8) (t0_8:List (Ty.Den (.pair .str (.pair .str .unit)))) (t0_9:L8) (t0_10:Int) (t0_11:List (Ty.Den ReqT)) (t1:L8) (t5:Int):Option ((sigF).root.Den×DenO (sigF).rs):=rHO Tryz.prog (envO [] [(121,stepS)]) (shOf shfeed) Tryz.f71 (sigF) [13] n 0 [(0,.pointer (some ⟨13,0,none⟩)),(1,sy (.string (bs t1))),(4,Value.slice none 0 0),(5,sy (.int .i64 t5))] [.vec .byte t0_4 5,.vec (.pair .str (.pair .str .unit)) t0_8 101,.vec ReqT t0_11 62,.row [sy (.int .i64 t0_0),sy (.int .i64 t0_1),sy (.int .i64 t0_2),sy (.int .i64 t0_3),dt 10,sy (.string (bs t0_5)),sy (.string (bs t0_6)),sy (.string (bs t0_7)),dt 11,sy (.string (bs t0_9)),sy (.int .i64 t0_10),dt 12] 165 false]
def ofeed (x:(sigF).root.Den) (y:DenO (sigF).ts):Option ((sigF).root.Den×DenO (sigF).rs):=fOO Tryz.prog (envO [] [(121,stepS)]) (shOf shfeed) Tryz.f71 (sigF) x y
theorem efeed_g (N:Nat) (st su li at':Int) (tx m p q:L8) (hs:List HeadD) (b:L8) (le:Int) (ou:List ReqD) (s:L8):fOON Tryz.prog (envO [] [(121,stepS)]) (shOf shfeed) Tryz.f71 (sigF) N (st,su,li,at',tx,(m,p,q,hs,b,()),le,ou,()) (s,())=
 (hfeed_0 N (st) (su) (li) (at') (tx) (m) (p) (q) (hs) (b) (le) (ou) (s) ((0:Int))):=by kernel_rfl
theorem ofeed_g (x:(sigF).root.Den) (y:DenO (sigF).ts):ofeed x y=fOON Tryz.prog (envO [] [(121,stepS)]) (shOf shfeed) Tryz.f71 (sigF) heads0 x y:=rfl
theorem efeed_0 (n:Nat) (t0_0 t0_1 t0_2 t0_3:Int) (t0_4:List (Ty.Den .byte)) (t0_5 t0_6 t0_7:L8) (t0_8:List (Ty.Den (.pair .str (.pair .str .unit)))) (t0_9:L8) (t0_10:Int) (t0_11:List (Ty.Den ReqT)) (t1:L8) (t5:Int) {Qc}[Qc':QA (t0_0,t0_1,t0_2,t0_3,t0_4,(t0_5,t0_6,t0_7,t0_8,t0_9,()),t0_10,t0_11,()) Qc] {Qd}[Qd':QA (↑(t1.getD t5.toNat 0).toNat:Int) Qd] {Qa}[Qa':QA (stepN Qc (UInt8.ofNat Qd.toNat,())) Qa] {Qb}[Qb':QA (some ((t0_0,t0_1,t0_2,t0_3,t0_4,(t0_5,t0_6,t0_7,t0_8,t0_9,()),t0_10,[],()),t0_11,())) Qb]:hfeed_0 (n+1) t0_0 t0_1 t0_2 t0_3 t0_4 t0_5 t0_6 t0_7 t0_8 t0_9 t0_10 t0_11 t1 t5= (bif decide (t5<t1.length) then (bif t0_1==0 then (gd [decide (inK .i64 (t5+1)),stepP Qc (UInt8.ofNat Qd.toNat,()),decide (inK .u8 Qd),decide (0<=t5),decide (t5<t1.length)] (hfeed_0 n (Qa.fst.fst) (Qa.snd.fst) (Qa.fst.snd.snd.fst) (Qa.fst.snd.snd.snd.fst) (Qa.fst.snd.snd.snd.snd.fst) (Qa.fst.snd.snd.snd.snd.snd.fst.fst) (Qa.fst.snd.snd.snd.snd.snd.fst.snd.fst) (Qa.fst.snd.snd.snd.snd.snd.fst.snd.snd.fst) (Qa.fst.snd.snd.snd.snd.snd.fst.snd.snd.snd.fst) (Qa.fst.snd.snd.snd.snd.snd.fst.snd.snd.snd.snd.fst) (Qa.fst.snd.snd.snd.snd.snd.snd.fst) (Qa.fst.snd.snd.snd.snd.snd.snd.snd.fst) t1 (t5+1))) else Qb) else Qb):=by obtain ⟨rfl⟩:=Qb';obtain ⟨rfl⟩:=Qa';obtain ⟨rfl⟩:=Qd';obtain ⟨rfl⟩:=Qc';kernel_rfl
def feedP:(sigF).root.Den->DenO (sigF).ts->Bool:=hid λx y=>(ofeed x y).isSome
def feedN:(sigF).root.Den->DenO (sigF).ts->(sigF).root.Den×DenO (sigF).rs:=hid λx y=>(ofeed x y).getD ((sigF).root.dflt,dfltO (sigF).rs)
theorem feed_hid {x:(sigF).root.Den} {y:DenO (sigF).ts} {z:(sigF).root.Den×DenO (sigF).rs} (h:ofeed x y=some z):feedP x y=true/\feedN x y=z:=by
 unfold feedP feedN;rw[hid_eq,hid_eq];simp only[h];exact⟨rfl,rfl⟩
def feedS:OSpec:=niceO sigF feedP feedN
