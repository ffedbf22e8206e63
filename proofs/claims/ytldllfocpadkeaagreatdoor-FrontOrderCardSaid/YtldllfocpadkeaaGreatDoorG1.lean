/-
  Part of the proof: Nice NiceK NiceW PAsk PSplit QV LScan WordsC NiceS QS. No condition.
-/
import Derived.Test.YtldllfocpadkeaaGreatDoorEng11
import Derived.Shelf.Strconv.AtoiAll
import Derived.Shelf.GgClosure.StringsIndexFuncTop
import Derived.Shelf.Strconv.ParseIntPublic10
import Derived.Lib.TrimByte
import Derived.Lib.Case
import Derived.Lib.ParseIntBCases
import Derived.Lib.SplitLaws
import Derived.Test.YtldllfocpadkeaaGreatDoorSym
namespace Nice
open Go Go.Eng
def lo (c:UInt8):UInt8:=if 65≤c∧c≤90 then c+32 else c
def lower (s:List UInt8):List UInt8:=s.map lo
def lowerP (s:List UInt8):Bool:=decide (s.length≤140737488355328)
def isCap (c:UInt8):Bool:=decide (65≤c∧c≤90)
def isDig (c:UInt8):Bool:=decide (48≤c∧c≤57)
def valueN:List (List UInt8×List UInt8×Unit)→List UInt8→List UInt8×Bool
 |[],_=>([],false)
 |h::r,n=>bif lower h.1==lower n then(h.2.1,true) else valueN r n
def valueP (l:List (List UInt8×List UInt8×Unit)) (n:List UInt8):Bool:=decide (l.length≤140737488355328)&&(lowerP n&&l.all fun h=>lowerP h.1)
def atoiN (s:List UInt8):Int×Bool:=match Lib.atoiAll s with
 | .ok v=>(v,true)
 |Lib.NumEnd.syntax=>(0,false)
 | .range=>(Lib.atoiSat s,false)
def atoiP (s:List UInt8):Bool:=decide (s.length≤140737488355328)
def allDig (s:List UInt8):Bool:=s.all isDig
def numV (s:List UInt8):Nat:=s.foldl (fun n c=>n*10+(c.toNat-48)) 0
def scanNum (s:List UInt8):Int×Bool:=bif allDig s then((atoiN s).1,(atoiN s).2&&decide (s.length≤6)) else(0,false)
def clen:List UInt8:=[99,111,110,116,101,110,116,45,108,101,110,103,116,104]
def tenc:List UInt8:=[116,114,97,110,115,102,101,114,45,101,110,99,111,100,105,110,103]
def scanLen (l:List (List UInt8×List UInt8×Unit)):Int:=bif (scanNum (valueN l clen).1).2 then(scanNum (valueN l clen).1).1 else 0
def scanLenP (l:List (List UInt8×List UInt8×Unit)):Bool:=valueP l clen&&atoiP (valueN l clen).1
def refNum (s:List UInt8) (most:Int):Int×Bool:=bif allDig s&&decide ((s.length:Int)≤most) then((numV s:Int),decide (1≤s.length)) else(0,false)
def refHeads:List (List UInt8×List UInt8×Unit)→List UInt8→Nat→Option (List UInt8×Nat)
 |[],n,k=>some (n,k)
 |h::r,n,k=>bif lower h.1==clen then refHeads r h.2.1 (k+1) else bif lower h.1==tenc then none else refHeads r n k
def refLenOut:Option (List UInt8×Nat)→Int×Int
 |none=>(0,400)
 |some (n,k)=>if k=0 then(0,0) else if 1<k∨(refNum n 6).2=false then(0,400) else if(refNum n 6).1>300 then((refNum n 6).1,413) else((refNum n 6).1,0)
def refLen (l:List (List UInt8×List UInt8×Unit)):Int×Int:=refLenOut (refHeads l [] 0)
def cut (s:List UInt8) (n:Int):List UInt8:=s.take n.toNat
theorem cdT {α:Type} {p:Prop} [Decidable p] {a b:α} (h:p):(bif decide p then a else b)=a:=by simp[h]
theorem cdF {α:Type} {p:Prop} [Decidable p] {a b:α} (h:¬p):(bif decide p then a else b)=b:=by simp[h]
theorem gd_nil {α:Type} {r:Option α}:gd [] r=r:=rfl
theorem gdT {α:Type} {p:Prop} [Decidable p] {l:List Bool} {r:Option α} (h:p):gd (decide p::l) r=gd l r:=by simp[gd,h]
theorem gdB {α:Type} {b:Bool} {l:List Bool} {r:Option α} (h:b=true):gd (b::l) r=gd l r:=by simp[gd,h]
theorem inK_i64 {n:Int}:inK .i64 n↔ -9223372036854775808≤n∧n≤9223372036854775807:=Iff.rfl
theorem inK_u8 {n:Int}:inK .u8 n↔0≤n∧n≤255:=Iff.rfl
theorem wrap_u8 {n:Int}:IntKind.u8.wrap n=n%256:=rfl
theorem getD_mid {α:Type} (a b:List α) (x d:α):(a++x::b).getD a.length d=x:=by simp
theorem set_mid {α:Type} (a b:List α) (x y:α):(a++x::b).set a.length y=a++y::b:=by simp
theorem le8 {a c:UInt8}:a≤c↔a.toNat≤c.toNat:=UInt8.le_iff_toNat_le
theorem isCap_iff {c:UInt8}:isCap c=true↔65≤c.toNat∧c.toNat≤90:=by
 unfold isCap;rw[decide_eq_true_iff,le8,le8];rfl
theorem isDig_iff {c:UInt8}:isDig c=true↔48≤c.toNat∧c.toNat≤57:=by
 unfold isDig;rw[decide_eq_true_iff,le8,le8];rfl
theorem lo_up {c:UInt8} (h1:65≤c.toNat) (h2:c.toNat≤90):lo c=UInt8.ofNat (c.toNat+32):=by
 unfold lo;rw[if_pos ⟨le8.2 h1,le8.2 h2⟩];apply UInt8.toNat.inj;simp
theorem lo_not {c:UInt8} (h:¬(65≤c.toNat∧c.toNat≤90)):lo c=c:=by
 unfold lo;rw[if_neg];rintro⟨h1,h2⟩;exact h ⟨le8.1 h1,le8.1 h2⟩
theorem Bool.cond_self {α:Type} {b:Bool} {a:α}:(bif b then a else a)=a:=by cases b<;>rfl
abbrev HeadT:Ty:=.pair .str (.pair .str .unit)
abbrev ReqT:Ty:=.pair .str (.pair .str (.pair .str (.pair (.slice HeadT) (.pair .str .unit))))
noncomputable def trueS:PSpec:=⟨[],[.bool],fun _=>true,fun _=>(true,())⟩
noncomputable def lowerS:PSpec:=⟨[.str],[.str],fun x=>lowerP x.1,fun x=>(lower x.1,())⟩
noncomputable def capS:PSpec:=⟨[.byte],[.bool],fun _=>true,fun x=>(isCap x.1,())⟩
noncomputable def atoiS:PSpec:=⟨[.str],[.int .i64,.err],fun x=>atoiP x.1,fun x=>((atoiN x.1).1,(atoiN x.1).2,())⟩
noncomputable def valueS:PSpec:=⟨[ReqT,.str],[.str,.bool],fun x=>valueP x.1.2.2.2.1 x.2.1,fun x=>((valueN x.1.2.2.2.1 x.2.1).1,(valueN x.1.2.2.2.1 x.2.1).2,())⟩
noncomputable def scanNumS:PSpec:=⟨[.str],[.int .i64,.bool],fun x=>atoiP x.1,fun x=>((scanNum x.1).1,(scanNum x.1).2,())⟩
noncomputable def scanLenS:PSpec:=⟨[ReqT],[.int .i64],fun x=>scanLenP x.1.2.2.2.1,fun x=>(scanLen x.1.2.2.2.1,())⟩
end Nice
namespace Nice
open Go Go.Eng
def keyCh (c:UInt8):Bool:=decide (97≤c.toNat∧c.toNat≤122∨48≤c.toNat∧c.toNat≤57∨c.toNat=46∨c.toNat=45∨c.toNat=95∨c.toNat=47)
def isKey (s:List UInt8):Bool:=s.all keyCh&&(decide (1≤s.length)&&decide (s.length≤40))
def bndS (s:List UInt8):Bool:=decide (s.length≤140737488355328)
def notDig (r:Nat):Bool:=decide (r<48)||decide (57<r)
def idxF (s:List UInt8):Int:=Lib.idxFunc notDig true (bs s)
def intN (s:List UInt8):Int×Bool:=match Lib.parseIntB 64 s with
 | .ok v=>(v,true)
 |Lib.NumEnd.syntax=>(0,false)
 | .range=>(Lib.intSat 64 s,false)
def numN (s:List UInt8) (most lo hi:Int):Int×Bool:=((intN s).1,allDig s&&((intN s).2&&(decide ((s.length:Int)≤most)&&(decide ((intN s).1≥lo)&&decide ((intN s).1≤hi)))))
def hasPre (s p:List UInt8):Bool:=decide (p.length≤s.length)&&s.take p.length==p
def hasSuf (s p:List UInt8):Bool:=decide (p.length≤s.length)&&s.drop (s.length-p.length)==p
def cutPre (s p:List UInt8):List UInt8×Bool:=bif hasPre s p then(s.drop p.length,true) else(s,false)
def cutSuf (s p:List UInt8):List UInt8×Bool:=bif hasSuf s p then(s.take (s.length-p.length),true) else(s,false)
def digsF:Nat→Nat→List UInt8→List UInt8
 |0,_,acc=>acc
 |f+1,n,acc=>if n/10=0 then UInt8.ofNat (48+n%10)::acc else digsF f (n/10) (UInt8.ofNat (48+n%10)::acc)
def digs (u:Int):List UInt8:=digsF 20 u.toNat []
def digits (n:Int):List UInt8:=if n<0 then 45::digs (-n) else digs n
def vPre:List UInt8:=[118,101,114,115,105,111,110,61]
def zAsk:Int×List UInt8×Int×List UInt8×Int×List UInt8×List UInt8×List UInt8×Int×Bool×Unit:=(0,[],0,[],0,[],[],[],0,false,())
theorem decode_ascii {s:ByteArray} {i:Nat} (h:(s.get! i).toNat<128):Utf8.decode s i=((s.get! i).toNat,1):=by
 unfold Utf8.decode;simp only[Nat.add_zero];rw[if_pos (show(s.get! i).toNat<0x80 from h)]
theorem decode_high {s:ByteArray} {i:Nat} (h:128≤(s.get! i).toNat):57<(Utf8.decode s i).1:=by
 unfold Utf8.decode;simp only[Nat.add_zero];rw[if_neg (show ¬(s.get! i).toNat<0x80 by omega)];have hr:57<Utf8.runeError:=by decide
 have hge:∀(c:Nat) (b:Bool) (k:Nat),c≥k→57<k→57<c:=fun c b k h1 h2=>by omega
 repeat' split
 all_goals first
  |exact hr
  |(rename_i h1;simp only[Bool.and_eq_true,decide_eq_true_eq] at h1;omega)
  |(rename_i h1;have h1:=of_decide_eq_true h1;omega)
  |(rename_i h1;omega)
theorem idx_l (s:ByteArray):∀(f pos:Nat),s.size-pos≤f→decide (Lib.idxFuncFrom notDig true s f pos≥0)= !((s.data.toList.drop pos).all isDig)
 |0,pos,h=>by
  have:s.data.toList.drop pos=[]:=List.drop_eq_nil_of_le (by show s.data.toList.length≤pos;have:s.data.toList.length=s.size:=rfl;omega);rw[this];simp[Lib.idxFuncFrom]
 |f+1,pos,h=>by
  unfold Lib.idxFuncFrom;by_cases hp:pos<s.size
  ·rw[if_pos hp];have hp':pos<s.data.toList.length:=hp;have hd:s.data.toList.drop pos=s.get! pos::s.data.toList.drop (pos+1):=by
    rw[List.drop_eq_getElem_cons hp'];congr 1;show _=s.data[pos]!;rw[getElem!_pos s.data pos hp];rfl
   rw[hd];simp only[List.all_cons];by_cases ha:(s.get! pos).toNat<128
   ·rw[decode_ascii ha];by_cases hdg:48≤(s.get! pos).toNat∧(s.get! pos).toNat≤57
    ·rw[if_neg (by simp only[notDig,Bool.or_eq_true,decide_eq_true_eq];omega),isDig_iff.2 hdg,Bool.true_and];exact idx_l s f (pos+1) (by omega)
    ·have:isDig (s.get! pos)=false:=by cases hb:isDig (s.get! pos);rfl;exact absurd (isDig_iff.1 hb) hdg
     rw[if_pos (by simp only[notDig,Bool.or_eq_true,decide_eq_true_eq];omega),this];simp
   ·have:=decode_high (s:=s) (i:=pos) (by omega);have hd:isDig (s.get! pos)=false:=by cases hb:isDig (s.get! pos);rfl;have:=isDig_iff.1 hb;omega
    rw[if_pos (by simp only[notDig,Bool.or_eq_true,decide_eq_true_eq];omega),hd];simp
  ·rw[if_neg hp];have:s.data.toList.drop pos=[]:=List.drop_eq_nil_of_le (by have:s.data.toList.length=s.size:=rfl;omega);rw[this];rfl
theorem idxF_ge (s:List UInt8):decide (idxF s≥0)= !allDig s:=by
 have:=idx_l (bs s) (bs s).size 0 (by omega);simpa[idxF,Lib.idxFunc,allDig,bs] using this
abbrev AskT:Ty:=.pair (.int .i64) (.pair .str (.pair (.int .i64) (.pair .str (.pair (.int .i64) (.pair .str (.pair .str (.pair .str (.pair (.int .i64) (.pair .bool .unit)))))))))
noncomputable def noS (ts rs:List Ty):PSpec:=⟨ts,rs,fun _=>false,fun _=>dfltL rs⟩
noncomputable def keyChS:PSpec:=⟨[.byte],[.bool],fun _=>true,fun x=>(keyCh x.1,())⟩
noncomputable def isKeyS:PSpec:=⟨[.str],[.bool],fun x=>bndS x.1,fun x=>(isKey x.1,())⟩
noncomputable def idxFS (f:Nat):PSpec:=⟨[.str,.fn f],[.int .i64],fun _=>true,fun x=>(idxF x.1,())⟩
noncomputable def parseS:PSpec:=⟨[.str,.int .i64,.int .i64],[.int .i64,.err],fun x=>bndS x.1&&(decide (x.2.1=10)&&decide (x.2.2.1=64)),fun x=>((intN x.1).1,(intN x.1).2,())⟩
noncomputable def numS:PSpec:=⟨[.str,.int .i64,.int .i64,.int .i64],[.int .i64,.bool],fun x=>bndS x.1,fun x=>((numN x.1 x.2.1 x.2.2.1 x.2.2.2.1).1,(numN x.1 x.2.1 x.2.2.1 x.2.2.2.1).2,())⟩
noncomputable def hasPreS:PSpec:=⟨[.str,.str],[.bool],fun _=>true,fun x=>(hasPre x.1 x.2.1,())⟩
noncomputable def cutPreS:PSpec:=⟨[.str,.str],[.str,.bool],fun _=>true,fun x=>((cutPre x.1 x.2.1).1,(cutPre x.1 x.2.1).2,())⟩
noncomputable def digsS:PSpec:=⟨[.int .u64],[.str],fun x=>decide (0≤x.1)&&decide (x.1<18446744073709551616),fun x=>(digs x.1,())⟩
noncomputable def digitsS:PSpec:=⟨[.int .i64],[.str],fun x=>decide (-9223372036854775808≤x.1)&&decide (x.1≤9223372036854775807),fun x=>(digits x.1,())⟩
end Nice
namespace Nice
open Go Go.Eng
abbrev HeadDW:Type:=List UInt8×List UInt8×Unit
abbrev AnsD:Type:=Int×List HeadDW×List UInt8×Unit
abbrev AnsT:Ty:=.pair (.int .i64) (.pair (.slice HeadT) (.pair .str .unit))
def wordsN (n:Int):List UInt8:=bif n==200 then [79,75] else bif n==204 then [78,111,32,67,111,110,116,101,110,116] else bif n==400 then [66,97,100,32,82,101,113,117,101,115,116] else bif n==404 then [78,111,116,32,70,111,117,110,100] else bif n==405 then [77,101,116,104,111,100,32,78,111,116,32,65,108,108,111,119,101,100] else bif n==412 then [80,114,101,99,111,110,100,105,116,105,111,110,32,70,97,105,108,101,100] else bif n==413 then [67,111,110,116,101,110,116,32,84,111,111,32,76,97,114,103,101] else bif n==414 then [85,82,73,32,84,111,111,32,76,111,110,103] else bif n==431 then [82,101,113,117,101,115,116,32,72,101,97,100,101,114,32,70,105,101,108,100,115,32,84,111,111,32,76,97,114,103,101] else bif n==503 then [83,101,114,118,105,99,101,32,85,110,97,118,97,105,108,97,98,108,101] else bif n==507 then [73,110,115,117,102,102,105,99,105,101,110,116,32,83,116,111,114,97,103,101] else []
def tokB (c:UInt8):Bool:=decide (65≤c.toNat∧c.toNat≤90∨97≤c.toNat∧c.toNat≤122∨48≤c.toNat∧c.toNat≤57∨c.toNat=45)
def prB (c:UInt8):Bool:=decide (32≤c.toNat∧c.toNat≤126)
def kindB (k:Nat) (c:UInt8):Bool:=bif Nat.beq k 113 then tokB c else bif Nat.beq k 115 then prB c else isDig c
def runLN (k:Nat) (s:List UInt8):Int:=((s.takeWhile (kindB k)).length:Int)
def kindP (k:Nat):Bool:=Nat.beq k 113||(Nat.beq k 115||Nat.beq k 341)
def ascP (s:List UInt8):Bool:=s.all (fun c=>decide (c.toNat<128))&&bndS s
def lowN (s:List UInt8):List UInt8:=lower s
def resN (s:List UInt8):Bool:=lower s==clen
def trim1 (s:List UInt8):List UInt8:=Lib.trimB s 32
def headB (h:HeadDW):Bool:=(decide (1≤h.1.length∧h.1.length≤30)&&(h.1.all tokB&& !(lower h.1==clen)))&&(decide (h.2.1.length≤100)&&(h.2.1.all prB&&trim1 h.2.1==h.2.1))
def headPW (h:HeadDW):Bool:=bndS h.1&&bndS h.2.1
def idxHN (l:List HeadDW):Int:=bif l.any (fun h=> !headB h) then((l.takeWhile headB).length:Int) else -1
def anyN (l:List HeadDW):Bool:=l.any fun h=> !headB h
def headsPW (l:List HeadDW):Bool:=decide (l.length≤140737488355328)&&l.all headPW
def amayB (a:AnsD):Bool:= !(wordsN a.1==[])&&(decide (a.2.1.length≤10)&&(!anyN a.2.1&&(decide (a.2.2.1.length≤20000)&&(!(a.1==204)||a.2.2.1==[]))))
def aputP (a:AnsD):Bool:=headsPW a.2.1
noncomputable def wordsS:PSpec:=⟨[.int .i64],[.str],fun _=>true,fun x=>(wordsN x.1,())⟩
noncomputable def tokBS:PSpec:=⟨[.byte],[.bool],fun _=>true,fun x=>(tokB x.1,())⟩
noncomputable def prBS:PSpec:=⟨[.byte],[.bool],fun _=>true,fun x=>(prB x.1,())⟩
noncomputable def runS:PSpec:=⟨[.str,.fv],[.int .i64],fun x=>bndS x.1&&kindP x.2.1,fun x=>(runLN x.2.1 x.1,())⟩
noncomputable def lowAS:PSpec:=⟨[.str],[.str],fun x=>ascP x.1,fun x=>(lowN x.1,())⟩
noncomputable def resS:PSpec:=⟨[.str],[.bool],fun x=>ascP x.1,fun x=>(resN x.1,())⟩
noncomputable def trim1S:PSpec:=⟨[.str,.str],[.str],fun x=>bndS x.1&&x.2.1==[32],fun x=>(trim1 x.1,())⟩
noncomputable def mayHS:PSpec:=⟨[HeadT],[.bool],fun x=>headPW x.1,fun x=>(headB x.1,())⟩
noncomputable def anyS (f:Nat):PSpec:=⟨[.slice HeadT,.fn f],[.bool],fun x=>headsPW x.1,fun x=>(anyN x.1,())⟩
noncomputable def notHS:PSpec:=⟨[HeadT],[.bool],fun x=>headPW x.1,fun x=>(!headB x.1,())⟩
noncomputable def idxHS (f:Nat):PSpec:=⟨[.slice HeadT,.fn f],[.int .i64],fun x=>headsPW x.1,fun x=>(idxHN x.1,())⟩
noncomputable def amayAS:PSpec:=⟨[AnsT],[.bool],fun x=>aputP x.1,fun x=>(amayB x.1,())⟩
end Nice
namespace Nice
open Go Go.Eng
def upTo (c:UInt8):List UInt8→List UInt8
 |[]=>[]
 |b::r=>bif b==c then [] else b::upTo c r
def hasB (c:UInt8) (s:List UInt8):Bool:=s.any (· ==c)
theorem upTo_len (c:UInt8):∀s,(upTo c s).length≤s.length
 |[]=>Nat.le_refl _
 |b::r=>by
  unfold upTo;cases b==c
  ·simpa using upTo_len c r
  ·simp
theorem upTo_lt (c:UInt8):∀s,hasB c s=true→(upTo c s).length<s.length
 |[],h=>by cases h
 |b::r,h=>by
  unfold upTo;simp only[hasB,List.any_cons] at h;cases hb:b==c
  ·rw[hb,Bool.false_or] at h;simpa using upTo_lt c r h
  ·simp
theorem upTo_take (c:UInt8):∀s,s.take (upTo c s).length=upTo c s
 |[]=>rfl
 |b::r=>by
  unfold upTo;cases b==c
  ·simp[upTo_take c r]
  ·rfl
theorem index1 (c:UInt8):∀s,Lib.index s [c]=bif hasB c s then((upTo c s).length:Int) else -1
 |[]=>rfl
 |b::r=>by
  have ih:=index1 c r;rw[Lib.index];simp only[hasB,List.any_cons] at ih⊢;unfold upTo;by_cases hb:b=c
  ·subst hb;simp[List.isPrefixOf]
  ·have h1:(b==c)=false:=by simpa using hb
   have h2:([c]:List UInt8).isPrefixOf (b::r)=false:=by simp[List.isPrefixOf,Ne.symm hb]
   rw[h1,h2,ih];cases r.any (· ==c)
   ·rfl
   ·simp only[cond_true,Bool.or_true,cond_false,List.length_cons];have:(((upTo c r).length:Int)== -1)=false:=by
     rw[beq_eq_false_iff_ne];omega
    rw[this];simp
theorem cut1 (c:UInt8) (s:List UInt8):Lib.cut s [c]=bif hasB c s then(upTo c s,s.drop ((upTo c s).length+1),true) else(s,[],false):=by
 unfold Lib.cut;rw[index1];cases hasB c s
 ·rfl
 ·simp only[cond_true];rw[if_pos (Int.natCast_nonneg _),Int.toNat_natCast,upTo_take];rfl
theorem split1_no (c:UInt8) (s:List UInt8) (h:hasB c s=false):Lib.split s [c]=[s]:=by
 have hi:Lib.index s [c]= -1:=by rw[index1,h];rfl
 unfold Lib.split;rw[Lib.count_miss hi];rfl
theorem split1_yes (c:UInt8) (s:List UInt8) (h:hasB c s=true):Lib.split s [c]=upTo c s::Lib.split (s.drop ((upTo c s).length+1)) [c]:=by
 have hi:Lib.index s [c]=((upTo c s).length:Nat):=by rw[index1,h];rfl
 have hc:Lib.count s [c]=1+Lib.count (s.drop ((upTo c s).length+1)) [c]:=by
  rw[Lib.count_hit (by simp) hi];rfl
 unfold Lib.split;rw[hc,Nat.add_comm,Lib.splitK];rw[hi];have:(((upTo c s).length:Int)== -1)=false:=by rw[beq_eq_false_iff_ne];omega
 rw[this];simp only[Bool.false_eq_true,if_false,Int.toNat_natCast,Nat.add_zero,List.length_singleton];rw[upTo_take]
abbrev AskD:Type:=Int×List UInt8×Int×List UInt8×Int×List UInt8×List UInt8×List UInt8×Int×Bool×Unit
def wPre:List UInt8:=[112,114,101,102,105,120]
def wAft:List UInt8:=[97,102,116,101,114]
def wMax:List UInt8:=[109,97,120]
def wVer:List UInt8:=[118,101,114,115,105,111,110,115]
def eqS (s:List UInt8):List UInt8:=s++[61]
def keyB (v:List UInt8):Bool:=v==[]||isKey v
def setPre (a:AskD) (v:List UInt8):AskD:=(a.1,a.2.1,a.2.2.1,a.2.2.2.1,a.2.2.2.2.1,a.2.2.2.2.2.1,v,a.2.2.2.2.2.2.2)
def setAft (a:AskD) (v:List UInt8):AskD:=(a.1,a.2.1,a.2.2.1,a.2.2.2.1,a.2.2.2.2.1,a.2.2.2.2.2.1,a.2.2.2.2.2.2.1,v,a.2.2.2.2.2.2.2.2)
def setMax (a:AskD) (n:Int):AskD:=(a.1,a.2.1,a.2.2.1,a.2.2.2.1,a.2.2.2.2.1,a.2.2.2.2.2.1,a.2.2.2.2.2.2.1,a.2.2.2.2.2.2.2.1,n,a.2.2.2.2.2.2.2.2.2)
def setKind (a:AskD) (n:Int):AskD:=(n,a.2)
end Nice
namespace Go.Proofs.YtldllfocpadkeaaGreatDoor
open Go Go.Eng Nice
set_option maxRecDepth 1000000
abbrev shcap:List (Nat×List (Nat×Sh)):=[]
noncomputable def ocap (x:DenL [.byte]):Option (DenL [.bool]):=fO Tryz.prog (envS []) (shOf shcap) Tryz.f163 [.byte] [.bool] x
theorem ecap_g (N:Nat) (x0:UInt8):fON Tryz.prog (envS []) (shOf shcap) Tryz.f163 [.byte] [.bool] N (x0,())=
  (bif decide ((↑x0.toNat:Int)≥(65:Int)) then
 (bif decide ((↑x0.toNat:Int)≤(90:Int)) then
 (some (true,()))
 else
 (some (false,())))
  else
 (some (false,()))):=by kernel_rfl
theorem ocap_g (x:DenL [.byte]):ocap x=fON Tryz.prog (envS []) (shOf shcap) Tryz.f163 [.byte] [.bool] heads0 x:=rfl
abbrev shslower:List (Nat×List (Nat×Sh)):=[(3,[(2,(.one .sym)),(3,(.one (.vec .byte 5))),(8,(.one (.same 0))),(9,(.one .sym)),(10,(.one .sym))])]
noncomputable def hslower_0 (n:Nat) (t2:List UInt8) (t3:List (Ty.Den .byte)) (t9:Int) (t10:Int):Option (DenL [.str]):=rH Tryz.prog (envS [(163,capS)]) (shOf shslower) Tryz.f128 [.str] n 0 [(2,sy (.string (bs t2))),(3,dt 10),(8,dt 10),(9,sy (.int .i64 t9)),(10,sy (.int .i64 t10))] [.vec .byte t3 5]
noncomputable def oslower (x:DenL [.str]):Option (DenL [.str]):=fO Tryz.prog (envS [(163,capS)]) (shOf shslower) Tryz.f128 [.str] [.str] x
theorem eslower_g (N:Nat) (x0:List UInt8):fON Tryz.prog (envS [(163,capS)]) (shOf shslower) Tryz.f128 [.str] [.str] N (x0,())=
 (hslower_0 N ([]) (x0) ((↑x0.length:Int)) ((0:Int))):=by kernel_rfl
theorem oslower_g (x:DenL [.str]):oslower x=fON Tryz.prog (envS [(163,capS)]) (shOf shslower) Tryz.f128 [.str] [.str] heads0 x:=rfl
theorem eslower_0 (n:Nat) (t2:List UInt8) (t3:List (Ty.Den .byte)) (t9:Int) (t10:Int):hslower_0 (n+1) t2 t3 t9 t10=
  (bif decide (t10<t9) then
 (gd [decide (t10.toNat<t3.length),decide ((0:Int)≤t10),decide (t10<(↑t3.length:Int))] (bif isCap (UInt8.ofNat (↑(UInt8.toNat (t3.getD t10.toNat Ty.byte.dflt)):Int).toNat) then
 (gd [decide (inK .i64 (t10+(1:Int))),decide (t10.toNat<t3.length),decide (inK .u8 (IntKind.u8.wrap (IntKind.u8.wrap ((↑(UInt8.toNat (t3.getD t10.toNat Ty.byte.dflt)):Int)+(97:Int))-(65:Int)))),decide ((0:Int)≤t10),decide (t10<(↑t3.length:Int)),decide (inK .u8 (↑(UInt8.toNat (t3.getD t10.toNat Ty.byte.dflt)):Int))] (hslower_0 n (t2) (t3.set t10.toNat (UInt8.ofNat (IntKind.u8.wrap (IntKind.u8.wrap ((↑(UInt8.toNat (t3.getD t10.toNat Ty.byte.dflt)):Int)+(97:Int))-(65:Int))).toNat)) (t9) (t10+(1:Int))))
 else
 (gd [decide (inK .i64 (t10+(1:Int))),decide (inK .u8 (↑(UInt8.toNat (t3.getD t10.toNat Ty.byte.dflt)):Int))] (hslower_0 n (t2) (t3) (t9) (t10+(1:Int))))))
  else
 (some (t3,()))):=by kernel_rfl
abbrev shsnum:List (Nat×List (Nat×Sh)):=[(2,[(0,(.one .sym)),(2,(.one .sym)),(3,(.one .sym)),(8,(.one .sym)),(9,(.one .sym))])]
noncomputable def hsnum_0 (n:Nat) (t0:List UInt8) (t2:Int) (t3:Bool) (t8:Int) (t9:Int):Option (DenL [.int .i64,.bool]):=rH Tryz.prog (envS [(184,atoiS)]) (shOf shsnum) Tryz.f130 [.int .i64,.bool] n 0 [(0,sy (.string (bs t0))),(2,sy (.int .i64 t2)),(3,.bool t3),(8,sy (.int .i64 t8)),(9,sy (.int .i64 t9))] []
noncomputable def osnum (x:DenL [.str]):Option (DenL [.int .i64,.bool]):=fO Tryz.prog (envS [(184,atoiS)]) (shOf shsnum) Tryz.f130 [.str] [.int .i64,.bool] x
theorem esnum_g (N:Nat) (x0:List UInt8):fON Tryz.prog (envS [(184,atoiS)]) (shOf shsnum) Tryz.f130 [.str] [.int .i64,.bool] N (x0,())=
 (hsnum_0 N (x0) ((0:Int)) (false) ((↑x0.length:Int)) ((0:Int))):=by kernel_rfl
theorem osnum_g (x:DenL [.str]):osnum x=fON Tryz.prog (envS [(184,atoiS)]) (shOf shsnum) Tryz.f130 [.str] [.int .i64,.bool] heads0 x:=rfl
theorem esnum_0 (n:Nat) (t0:List UInt8) (t2:Int) (t3:Bool) (t8:Int) (t9:Int):hsnum_0 (n+1) t0 t2 t3 t8 t9=
  (bif decide (t9<t8) then
 (bif decide ((↑(t0.getD t9.toNat 0).toNat:Int)<(48:Int)) then
 (gd [decide ((0:Int)≤t9),decide (t9<(↑t0.length:Int))] (some ((0:Int),false,())))
 else
 (bif decide ((↑(t0.getD t9.toNat 0).toNat:Int)>(57:Int)) then
 (gd [decide ((0:Int)≤t9),decide (t9<(↑t0.length:Int)),decide ((0:Int)≤t9),decide (t9<(↑t0.length:Int))] (some ((0:Int),false,())))
 else
 (gd [decide (inK .i64 (t9+(1:Int))),decide ((0:Int)≤t9),decide (t9<(↑t0.length:Int)),decide ((0:Int)≤t9),decide (t9<(↑t0.length:Int))] (hsnum_0 n (t0) (t2) (t3) (t8) (t9+(1:Int))))))
  else
 (gd [atoiP t0] (bif (atoiN t0).snd then
 (bif decide ((↑t0.length:Int)≤(6:Int)) then
 (some ((atoiN t0).fst,true,()))
 else
 (some ((atoiN t0).fst,false,())))
 else
 (some ((atoiN t0).fst,false,()))))):=by kernel_rfl
abbrev shsval:List (Nat×List (Nat×Sh)):=[(2,[(1,(.one .sym)),(4,(.one .sym)),(5,(.one .sym)),(9,(.one (.dat (.pair .str (.pair .str .unit))))),(10,(.one .sym)),(11,(.one .sym))])]
noncomputable def hsval_0 (n:Nat) (t1:List UInt8) (t4:List UInt8) (t5:Bool) (t9:List (Ty.Den (.pair .str (.pair .str .unit)))) (t10:Int) (t11:Int):Option (DenL [.str,.bool]):=rH Tryz.prog (envS [(128,lowerS)]) (shOf shsval) Tryz.f84 [.str,.bool] n 0 [(1,sy (.string (bs t1))),(4,sy (.string (bs t4))),(5,.bool t5),(9,dt 10),(10,sy (.int .i64 t10)),(11,sy (.int .i64 t11))] [.dat (.pair .str (.pair .str .unit)) t9]
noncomputable def osval (x:DenL [ReqT,.str]):Option (DenL [.str,.bool]):=fO Tryz.prog (envS [(128,lowerS)]) (shOf shsval) Tryz.f84 [ReqT,.str] [.str,.bool] x
theorem esval_g (N:Nat) (x0:Ty.Den ReqT) (x1:List UInt8):fON Tryz.prog (envS [(128,lowerS)]) (shOf shsval) Tryz.f84 [ReqT,.str] [.str,.bool] N (x0,x1,())=
 (hsval_0 N (x1) ([]) (false) (x0.snd.snd.snd.fst) ((↑(List.length x0.snd.snd.snd.fst):Int)) ((0:Int))):=by kernel_rfl
theorem osval_g (x:DenL [ReqT,.str]):osval x=fON Tryz.prog (envS [(128,lowerS)]) (shOf shsval) Tryz.f84 [ReqT,.str] [.str,.bool] heads0 x:=rfl
theorem esval_0 (n:Nat) (t1:List UInt8) (t4:List UInt8) (t5:Bool) (t9:List (Ty.Den (.pair .str (.pair .str .unit)))) (t10:Int) (t11:Int):hsval_0 (n+1) t1 t4 t5 t9 t10 t11=
  (bif decide (t11<t10) then
 (gd [decide (t11.toNat<t9.length),decide ((0:Int)≤t11),decide (t11<(↑t9.length:Int))] (bif lower (t9.getD t11.toNat (HeadT).dflt).fst==lower t1 then
 (gd [lowerP t1,lowerP (t9.getD t11.toNat (HeadT).dflt).fst] (some ((t9.getD t11.toNat (HeadT).dflt).snd.fst,true,())))
 else
 (gd [decide (inK .i64 (t11+(1:Int))),lowerP t1,lowerP (t9.getD t11.toNat (HeadT).dflt).fst] (hsval_0 n (t1) (t4) (t5) (t9) (t10) (t11+(1:Int))))))
  else
 (some ([],false,()))):=by kernel_rfl
abbrev shslen:List (Nat×List (Nat×Sh)):=[]
noncomputable def oslen (x:DenL [ReqT]):Option (DenL [.int .i64]):=fO Tryz.prog (envS [(84,valueS),(130,scanNumS)]) (shOf shslen) Tryz.f86 [ReqT] [.int .i64] x
theorem eslen_g (N:Nat) (x0:Ty.Den ReqT):fON Tryz.prog (envS [(84,valueS),(130,scanNumS)]) (shOf shslen) Tryz.f86 [ReqT] [.int .i64] N (x0,())=
  (bif (valueN x0.snd.snd.snd.fst [99,111,110,116,101,110,116,45,108,101,110,103,116,104]).snd then
 (gd [valueP x0.snd.snd.snd.fst [99,111,110,116,101,110,116,45,108,101,110,103,116,104]] (bif (scanNum (valueN x0.snd.snd.snd.fst [99,111,110,116,101,110,116,45,108,101,110,103,116,104]).fst).snd then
 (gd [atoiP (valueN x0.snd.snd.snd.fst [99,111,110,116,101,110,116,45,108,101,110,103,116,104]).fst] (some ((scanNum (valueN x0.snd.snd.snd.fst [99,111,110,116,101,110,116,45,108,101,110,103,116,104]).fst).fst,())))
 else
 (gd [atoiP (valueN x0.snd.snd.snd.fst [99,111,110,116,101,110,116,45,108,101,110,103,116,104]).fst] (some ((0:Int),())))))
  else
 (gd [valueP x0.snd.snd.snd.fst [99,111,110,116,101,110,116,45,108,101,110,103,116,104]] (bif (scanNum (valueN x0.snd.snd.snd.fst [99,111,110,116,101,110,116,45,108,101,110,103,116,104]).fst).snd then
 (gd [atoiP (valueN x0.snd.snd.snd.fst [99,111,110,116,101,110,116,45,108,101,110,103,116,104]).fst] (some ((scanNum (valueN x0.snd.snd.snd.fst [99,111,110,116,101,110,116,45,108,101,110,103,116,104]).fst).fst,())))
 else
 (gd [atoiP (valueN x0.snd.snd.snd.fst [99,111,110,116,101,110,116,45,108,101,110,103,116,104]).fst] (some ((0:Int),())))))):=by kernel_rfl
theorem oslen_g (x:DenL [ReqT]):oslen x=fON Tryz.prog (envS [(84,valueS),(130,scanNumS)]) (shOf shslen) Tryz.f86 [ReqT] [.int .i64] heads0 x:=rfl
end Go.Proofs.YtldllfocpadkeaaGreatDoor
namespace Go.Proofs.YtldllfocpadkeaaGreatDoor
open Go Go.Eng Nice
set_option maxRecDepth 100000
theorem cap_n (c:UInt8):ocap (c,())=some (isCap c,()):=by
 rw[ocap_g,ecap_g];by_cases h1:65≤c.toNat
 ·by_cases h2:c.toNat≤90
  ·rw[isCap_iff.2 ⟨h1,h2⟩];simp(disch:=omega) only[cdT]
  ·rw[show isCap c=false by cases hb:isCap c;rfl;exact absurd (isCap_iff.1 hb).2 h2];simp(disch:=omega) only[cdT,cdF]
 ·rw[show isCap c=false by cases hb:isCap c;rfl;exact absurd (isCap_iff.1 hb).1 h1];simp(disch:=omega) only[cdT,cdF]
theorem slower_l (t2:List UInt8) (len:Nat):∀(rest done:List UInt8) (n:Nat),len=done.length+rest.length→len≤140737488355328→rest.length<n→hslower_0 n t2 (done++rest) (len:Int) (done.length:Int)=some (done++rest.map lo,())
 |[],done,n,he,hl,hn=>by
  obtain⟨m,rfl⟩:∃m,n=m+1:=⟨n-1,by omega⟩
  simp only[List.length_nil] at he;rw[eslower_0,cdF (by omega)];simp
 |c::rest,done,n,he,hl,hn=>by
  obtain⟨m,rfl⟩:∃m,n=m+1:=⟨n-1,by omega⟩
  simp only[List.length_cons] at he hn;have hc:=c.toNat_lt;have ih:=fun x=>slower_l t2 len rest (done++[x]) m (by simp;omega) hl (by omega)
  simp only[List.append_assoc,List.singleton_append,List.length_append,List.length_singleton,Int.natCast_add] at ih;rw[eslower_0];simp only[List.length_append,List.length_cons,Int.toNat_natCast,getD_mid,set_mid,UInt8.ofNat_toNat];cases hb:isCap c
  ·have h0:¬(65≤c.toNat∧c.toNat≤90):=fun h=>by rw[isCap_iff.2 h] at hb;cases hb
   simp(disch:=omega) only[cdT,gdT,gd_nil,inK_i64,inK_u8,cond_false];have:=ih c;simpa[lo_not h0] using this
  ·obtain⟨h1,h2⟩:=isCap_iff.1 hb;simp(disch:=omega) only[cdT,gdT,gd_nil,inK_i64,inK_u8,cond_true,wrap_u8];have e:UInt8.ofNat ((((c.toNat:Int)+97)%256-65)%256).toNat=lo c:=by rw[lo_up h1 h2];congr 1;omega
   rw[e];exact ih _
theorem slower_n (s:List UInt8) (h:lowerP s=true):oslower (s,())=some (lower s,()):=by
 have h:s.length≤140737488355328:=of_decide_eq_true h;rw[oslower_g,eslower_g];exact slower_l [] s.length s [] heads0 (by simp) h (by unfold heads0;omega)
theorem sval_l (t1:List UInt8) (t4:List UInt8) (t5:Bool) (h1:lowerP t1=true) (len:Nat):∀(rest done:List (List UInt8×List UInt8×Unit)) (n:Nat),len=done.length+rest.length→len≤140737488355328→rest.all (fun h=>lowerP h.1)=true→rest.length<n→
  hsval_0 n t1 t4 t5 (done++rest) (len:Int) (done.length:Int)=some ((valueN rest t1).1,(valueN rest t1).2,())
 |[],done,n,he,hl,ha,hn=>by
  obtain⟨m,rfl⟩:∃m,n=m+1:=⟨n-1,by omega⟩
  simp only[List.length_nil] at he;rw[esval_0,cdF (by omega)];rfl
 |c::rest,done,n,he,hl,ha,hn=>by
  obtain⟨m,rfl⟩:∃m,n=m+1:=⟨n-1,by omega⟩
  simp only[List.length_cons] at he hn;simp only[List.all_cons,Bool.and_eq_true] at ha;have ih:=sval_l t1 t4 t5 h1 len rest (done++[c]) m (by simp;omega) hl ha.2 (by omega);simp only[List.append_assoc,List.singleton_append,List.length_append,List.length_singleton,Int.natCast_add] at ih;rw[esval_0];simp only[List.length_append,List.length_cons,Int.toNat_natCast,getD_mid]
  simp(disch:=omega) only[cdT,gdT,gd_nil];cases hb:lower c.1==lower t1
  ·simp(disch:=first|omega|assumption|exact ha.1) only[gdT,gdB,gd_nil,inK_i64,cond_false];simp only[valueN,hb,cond_false];exact ih
  ·simp(disch:=first|omega|assumption|exact ha.1) only[gdB,gd_nil,cond_true];simp only[valueN,hb,cond_true]
theorem sval_n (r:Ty.Den ReqT) (s:List UInt8) (h:valueP r.2.2.2.1 s=true):osval (r,s,())=some ((valueN r.2.2.2.1 s).1,(valueN r.2.2.2.1 s).2,()):=by
 unfold valueP at h;simp only[Bool.and_eq_true,decide_eq_true_eq] at h;rw[osval_g,esval_g];exact sval_l s [] false h.2.1 _ r.2.2.2.1 [] heads0 (by simp) h.1 h.2.2 (by unfold heads0;omega)
theorem snum_l (t2:Int) (t3:Bool) (len:Nat) (s:List UInt8) (hp:atoiP s=true):∀(rest done:List UInt8) (n:Nat),s=done++rest→len=s.length→len≤140737488355328→rest.length<n→hsnum_0 n s t2 t3 (len:Int) (done.length:Int)=some ((bif allDig rest then(atoiN s).1 else 0),(bif allDig rest then(atoiN s).2&&decide (s.length≤6) else false),())
 |[],done,n,hs,he,hl,hn=>by
  obtain⟨m,rfl⟩:∃m,n=m+1:=⟨n-1,by omega⟩
  have:s.length=done.length:=by rw[hs];simp
  rw[esnum_0,cdF (by omega),gdB hp,gd_nil];simp only[allDig,List.all_nil,cond_true];cases(atoiN s).2
  ·simp
  ·by_cases h6:s.length≤6
   ·rw[cdT (by omega)];simp[h6]
   ·rw[cdF (by omega)];simp[h6]
 |c::rest,done,n,hs,he,hl,hn=>by
  obtain⟨m,rfl⟩:∃m,n=m+1:=⟨n-1,by omega⟩
  have hsl:s.length=done.length+(rest.length+1):=by rw[hs];simp
  simp only[List.length_cons] at hn;have ih:=snum_l t2 t3 len s hp rest (done++[c]) m (by simp[hs]) he hl (by omega);simp only[List.length_append,List.length_singleton,Int.natCast_add] at ih;have hg:s.getD done.length 0=c:=by rw[hs,getD_mid]
  rw[esnum_0];simp only[Int.toNat_natCast,hg];by_cases h1:c.toNat<48
  ·have hd:isDig c=false:=by cases hb:isDig c;rfl;exact absurd (isDig_iff.1 hb).1 (by omega)
   simp(disch:=omega) only[cdT,gdT,gd_nil];simp[allDig,hd]
  ·by_cases h2:57<c.toNat
   ·have hd:isDig c=false:=by cases hb:isDig c;rfl;exact absurd (isDig_iff.1 hb).2 (by omega)
    simp(disch:=omega) only[cdT,cdF,gdT,gd_nil];simp[allDig,hd]
   ·have hd:isDig c=true:=isDig_iff.2 (by omega);simp(disch:=omega) only[cdT,cdF,gdT,gd_nil,inK_i64];simp only[allDig,List.all_cons,hd,Bool.true_and];exact ih
theorem snum_n (s:List UInt8) (h:atoiP s=true):osnum (s,())=some ((scanNum s).1,(scanNum s).2,()):=by
 have h':s.length≤140737488355328:=of_decide_eq_true h;rw[osnum_g,esnum_g];have:=snum_l 0 false s.length s h s [] heads0 rfl rfl h' (by unfold heads0;omega);refine this.trans ?_;unfold scanNum;cases allDig s<;>rfl
theorem slen_n (r:Ty.Den ReqT) (h:scanLenP r.2.2.2.1=true):oslen (r,())=some (scanLen r.2.2.2.1,()):=by
 unfold scanLenP at h;rw[Bool.and_eq_true] at h;rw[oslen_g,eslen_g];simp only[show([99,111,110,116,101,110,116,45,108,101,110,103,116,104]:List UInt8)=clen from rfl,gdB h.1,gdB h.2,gd_nil,Bool.cond_self,scanLen];cases(scanNum (valueN r.2.2.2.1 clen).1).2<;>rfl
end Go.Proofs.YtldllfocpadkeaaGreatDoor
namespace Nice
open Go Go.Eng
def wordsO (n:Int):Option (DenL [.str]):=(bif n==200 then some ([79,75],()) else bif n==204 then some ([78,111,32,67,111,110,116,101,110,116],()) else bif n==400 then some ([66,97,100,32,82,101,113,117,101,115,116],()) else bif n==404 then some ([78,111,116,32,70,111,117,110,100],()) else bif n==405 then some ([77,101,116,104,111,100,32,78,111,116,32,65,108,108,111,119,101,100],()) else bif n==412 then some ([80,114,101,99,111,110,100,105,116,105,111,110,32,70,97,105,108,101,100],()) else bif n==413 then some ([67,111,110,116,101,110,116,32,84,111,111,32,76,97,114,103,101],()) else bif n==414 then some ([85,82,73,32,84,111,111,32,76,111,110,103],()) else bif n==431 then some ([82,101,113,117,101,115,116,32,72,101,97,100,101,114,32,70,105,101,108,100,115,32,84,111,111,32,76,97,114,103,101],()) else bif n==503 then some ([83,101,114,118,105,99,101,32,85,110,97,118,97,105,108,97,98,108,101],()) else bif n==507 then some ([73,110,115,117,102,102,105,99,105,101,110,116,32,83,116,111,114,97,103,101],()) else some ([],()))
end Nice
namespace Go.Proofs.YtldllfocpadkeaaGreatDoor
open Go Go.Eng Nice
set_option maxRecDepth 1000000
noncomputable def owords (x:DenL [.int .i64]):Option (DenL [.str]):=fO Tryz.prog (envS []) (shOf []) Tryz.f68 [.int .i64] [.str] x
theorem ewords (n:Int):owords (n,())=wordsO n:=by kernel_rfl
noncomputable def orwords (x:DenL [.int .i64]):Option (DenL [.str]):=fO Tryz.prog (envS []) (shOf []) Tryz.f77 [.int .i64] [.str] x
theorem erwords (n:Int):orwords (n,())=wordsO n:=by kernel_rfl
theorem words_nn (n:Int):owords (n,())=some (wordsN n,()):=by
 rw[ewords];unfold wordsO wordsN;cases n==200<;>cases n==204<;>cases n==400<;>cases n==404<;>cases n==405<;>cases n==412<;>cases n==413<;>cases n==414<;>cases n==431<;>cases n==503<;>cases n==507<;>rfl
theorem words_c:PC 68 wordsS:=(pureO (envS_ok (l:=[]) trivial) gl_ne Tryz.func68 (by kernel_rfl) (by decide)).nice fun⟨n,()⟩ _=>words_nn n
theorem rwords_c:PC 77 wordsS:=(pureO (envS_ok (l:=[]) trivial) gl_ne Tryz.func77 (by kernel_rfl) (by decide)).nice fun⟨n,()⟩ _=>(erwords n).trans ((ewords n).symm.trans (words_nn n))
end Go.Proofs.YtldllfocpadkeaaGreatDoor
namespace Nice
open Go Go.Eng
theorem hide {α:Type} (x:α):∃y,y=x:=⟨x,rfl⟩
noncomputable def hid {α:Type} (x:α):α:=Classical.choose (hide x)
theorem hid_eq {α:Type} (x:α):hid x=x:=Classical.choose_spec (hide x)
abbrev HeadD:=List UInt8×List UInt8×Unit
abbrev ReqD:=List UInt8×List UInt8×List UInt8×List HeadD×List UInt8×Unit
abbrev ScanD:=Int×Int×Int×Int×List UInt8×ReqD×Int×List ReqD×Unit
abbrev ReqO:OT:=.pair (.d .str) (.pair (.d .str) (.pair (.d .str) (.pair (.vec (.pair .str (.pair .str .unit)) 101) (.pair (.d .str) .unit))))
abbrev ScanO:OT:=.pair (.d (.int .i64)) (.pair (.d (.int .i64)) (.pair (.d (.int .i64)) (.pair (.d (.int .i64)) (.pair (.vec .byte 5) (.pair ReqO (.pair (.d (.int .i64)) (.pair (.vec (.pair .str (.pair .str (.pair .str (.pair (.slice (.pair .str (.pair .str .unit))) (.pair .str .unit))))) 62) .unit)))))))
abbrev setC:List Value:=[.bool false,.bool false,.bool false,.bool false,.bool false,.bool false,.bool false,.bool false,.bool false,.bool true]++List.replicate 22 (.bool false)++[.bool true]++List.replicate 223 (.bool false)
noncomputable abbrev sigB:OSpec:=⟨true,0,ScanO,165,[.d .byte],[.d (.int .i64)],fun _ _=>true,fun x _=>(x,(0:Int),())⟩
noncomputable abbrev sig0:OSpec:=⟨true,0,ScanO,165,[],[.d (.int .i64)],fun _ _=>true,fun x _=>(x,(0:Int),())⟩
noncomputable abbrev sigF:OSpec:=⟨true,0,ScanO,165,[.d .str],[.vec ReqT 62],fun _ _=>true,fun x _=>(x,[],())⟩
noncomputable abbrev sigAs:OSpec:=⟨true,0,.con setC,194,[.d .byte],[.d .bool],fun _ _=>true,fun x _=>(x,false,())⟩
noncomputable abbrev sigTr:OSpec:=⟨true,1,.con setC,194,[.d .str],[.d .str],fun _ _=>true,fun x _=>(x,[],())⟩
def isVis (c:UInt8):Bool:=decide (33≤c.toNat∧c.toNat≤126∧c.toNat≠35)
def isTok (c:UInt8):Bool:=decide (65≤c.toNat∧c.toNat≤90∨97≤c.toNat∧c.toNat≤122∨48≤c.toNat∧c.toNat≤57∨c.toNat=45)
def isSp (c:UInt8):Bool:=c==32||c==9
def trimL (s:List UInt8):List UInt8:=s.dropWhile isSp
def trimR (s:List UInt8):List UInt8:=(s.reverse.dropWhile isSp).reverse
def longN (x:ScanD) (c:UInt8):Int:=
 if c.toNat=13∨x.1≥7∨x.1=4 then 0
 else if x.1<5∧x.2.2.1≥200 then 414
 else if x.1≥5∧x.2.2.1≥120 then 431
 else if x.1=5∧x.2.2.1=0∧(x.2.2.2.2.2.1.2.2.2.1.length:Int)≥10 then 431
 else 0
def idleN (x:ScanD):Bool:=x.2.1 !=0||(x.1==0&&x.2.2.1==0)
noncomputable def visS:PSpec:=⟨[.byte],[.bool],fun _=>true,fun x=>(isVis x.1,())⟩
noncomputable def tokS:PSpec:=⟨[.byte],[.bool],fun _=>true,fun x=>(isTok x.1,())⟩
noncomputable def isSpS:OSpec:=niceO sigAs (fun _ _=>true) fun _ y=>((),isSp y.1,())
noncomputable def trimLS:OSpec:=niceO sigTr (fun _ y=>decide (y.1.length≤140737488355328)) fun _ y=>((),trimL y.1,())
noncomputable def trimRS:OSpec:=niceO sigTr (fun _ y=>decide (y.1.length≤140737488355328)) fun _ y=>((),trimR y.1,())
noncomputable def trimS:PSpec:=⟨[.str,.str],[.str],fun x=>(x.2.1==[32,9])&&decide (x.1.length≤140737488355328),fun x=>(trimL (trimR x.1),())⟩
noncomputable def longS:OSpec:=niceO sigB (fun _ _=>true) fun x y=>(x,longN x y.1,())
theorem hidO {P:Program} {gl:List (Nat×List Value)} {f:FuncId} {S:OSpec} {g:S.root.Den→DenO S.ts→Option (S.root.Den×DenO S.rs)} (h:ObjC P gl f (ofOO S g)) {p:S.root.Den→DenO S.ts→Bool} {n:S.root.Den→DenO S.ts→S.root.Den×DenO S.rs}
  (hp:p=fun x y=>(g x y).isSome) (hn:n=fun x y=>(g x y).getD (S.root.dflt,dfltO S.rs)):ObjC P gl f (niceO S p n):=h.nice fun x y hx=>by
 subst hp hn;obtain⟨z,hz⟩:=Option.isSome_iff_exists.1 hx;show g x y=some ((g x y).getD _);rw[hz];rfl
end Nice
namespace Go.Proofs.YtldllfocpadkeaaGreatDoor
open Go Go.Eng Nice
set_option maxRecDepth 1000000
abbrev shvis:List (Nat×List (Nat×Sh)):=[]
noncomputable def ovis (x:DenL [.byte]):Option (DenL [.bool]):=fO Tryz.prog (envS []) (shOf shvis) Tryz.f165 [.byte] [.bool] x
abbrev shtok:List (Nat×List (Nat×Sh)):=[]
noncomputable def otok (x:DenL [.byte]):Option (DenL [.bool]):=fO Tryz.prog (envS [(163,capS)]) (shOf shtok) Tryz.f215 [.byte] [.bool] x
theorem etok_g (N:Nat) (x0:UInt8):fON Tryz.prog (envS [(163,capS)]) (shOf shtok) Tryz.f215 [.byte] [.bool] N (x0,())=
  (bif isCap (UInt8.ofNat (↑x0.toNat:Int).toNat) then
 (gd [decide (inK .u8 (↑x0.toNat:Int))] (some (true,())))
  else
 (bif decide ((↑x0.toNat:Int)≥(97:Int)) then
 (bif decide ((↑x0.toNat:Int)≤(122:Int)) then
 (gd [decide (inK .u8 (↑x0.toNat:Int))] (some (true,())))
 else
 (bif decide ((↑x0.toNat:Int)≥(48:Int)) then
 (bif decide ((↑x0.toNat:Int)≤(57:Int)) then
 (gd [decide (inK .u8 (↑x0.toNat:Int))] (some (true,())))
 else
 (bif (↑x0.toNat:Int)==(45:Int) then
 (gd [decide (inK .u8 (↑x0.toNat:Int))] (some (true,())))
 else
 (gd [decide (inK .u8 (↑x0.toNat:Int))] (some (false,())))))
 else
 (bif (↑x0.toNat:Int)==(45:Int) then
 (gd [decide (inK .u8 (↑x0.toNat:Int))] (some (true,())))
 else
 (gd [decide (inK .u8 (↑x0.toNat:Int))] (some (false,()))))))
 else
 (bif decide ((↑x0.toNat:Int)≥(48:Int)) then
 (bif decide ((↑x0.toNat:Int)≤(57:Int)) then
 (gd [decide (inK .u8 (↑x0.toNat:Int))] (some (true,())))
 else
 (bif (↑x0.toNat:Int)==(45:Int) then
 (gd [decide (inK .u8 (↑x0.toNat:Int))] (some (true,())))
 else
 (gd [decide (inK .u8 (↑x0.toNat:Int))] (some (false,())))))
 else
 (bif (↑x0.toNat:Int)==(45:Int) then
 (gd [decide (inK .u8 (↑x0.toNat:Int))] (some (true,())))
 else
 (gd [decide (inK .u8 (↑x0.toNat:Int))] (some (false,()))))))):=by kernel_rfl
theorem otok_g (x:DenL [.byte]):otok x=fON Tryz.prog (envS [(163,capS)]) (shOf shtok) Tryz.f215 [.byte] [.bool] heads0 x:=rfl
abbrev shtrL:List (Nat×List (Nat×Sh)):=[(1,[(0,(.one .sym)),(1,(.obj (List.replicate 256 .any))),(4,(.one .sym))])]
noncomputable def htrL_0 (n:Nat) (t0:List UInt8) (t4:List UInt8):Option ((sigTr).root.Den×DenO (sigTr).rs):=rHO Tryz.prog (envO [] [(211,isSpS)]) (shOf shtrL) Tryz.f156 (sigTr) [10] n 0 [(0,sy (.string (bs t0))),(1,.pointer (some ⟨10,0,none⟩)),(4,sy (.string (bs t4)))] [.row setC 194 false]
noncomputable def otrL (x:(sigTr).root.Den) (y:DenO (sigTr).ts):Option ((sigTr).root.Den×DenO (sigTr).rs):=fOO Tryz.prog (envO [] [(211,isSpS)]) (shOf shtrL) Tryz.f156 (sigTr) x y
theorem etrL_g (N:Nat) (s:List UInt8):fOON Tryz.prog (envO [] [(211,isSpS)]) (shOf shtrL) Tryz.f156 (sigTr) N () (s,())=
 (htrL_0 N (s) ([])):=by kernel_rfl
theorem otrL_g (x:(sigTr).root.Den) (y:DenO (sigTr).ts):otrL x y=fOON Tryz.prog (envO [] [(211,isSpS)]) (shOf shtrL) Tryz.f156 (sigTr) heads0 x y:=rfl
theorem etrL_0 (n:Nat) (t0:List UInt8) (t4:List UInt8):htrL_0 (n+1) t0 t4=
  (bif decide ((↑t0.length:Int)>(0:Int)) then
 (bif isSp (UInt8.ofNat (↑(t0.getD 0 0).toNat:Int).toNat) then
 (gd [decide ((1:Int)≤(↑t0.length:Int)),decide (inK .u8 (↑(t0.getD 0 0).toNat:Int)),decide ((0:Int)<(↑t0.length:Int))] (htrL_0 n (List.drop 1 t0) (t4)))
 else
 (gd [decide (inK .u8 (↑(t0.getD 0 0).toNat:Int)),decide ((0:Int)<(↑t0.length:Int))] (some ((),t0,()))))
  else
 (some ((),t0,()))):=by kernel_rfl
abbrev shtrR:List (Nat×List (Nat×Sh)):=[(1,[(0,(.one .sym)),(1,(.obj (List.replicate 256 .any))),(4,(.one .sym))])]
noncomputable def htrR_0 (n:Nat) (t0:List UInt8) (t4:List UInt8):Option ((sigTr).root.Den×DenO (sigTr).rs):=rHO Tryz.prog (envO [] [(211,isSpS)]) (shOf shtrR) Tryz.f157 (sigTr) [10] n 0 [(0,sy (.string (bs t0))),(1,.pointer (some ⟨10,0,none⟩)),(4,sy (.string (bs t4)))] [.row setC 194 false]
noncomputable def otrR (x:(sigTr).root.Den) (y:DenO (sigTr).ts):Option ((sigTr).root.Den×DenO (sigTr).rs):=fOO Tryz.prog (envO [] [(211,isSpS)]) (shOf shtrR) Tryz.f157 (sigTr) x y
theorem etrR_g (N:Nat) (s:List UInt8):fOON Tryz.prog (envO [] [(211,isSpS)]) (shOf shtrR) Tryz.f157 (sigTr) N () (s,())=
 (htrR_0 N (s) ([])):=by kernel_rfl
theorem otrR_g (x:(sigTr).root.Den) (y:DenO (sigTr).ts):otrR x y=fOON Tryz.prog (envO [] [(211,isSpS)]) (shOf shtrR) Tryz.f157 (sigTr) heads0 x y:=rfl
theorem etrR_0 (n:Nat) (t0:List UInt8) (t4:List UInt8):htrR_0 (n+1) t0 t4=
  (bif decide ((↑t0.length:Int)>(0:Int)) then
 (bif isSp (UInt8.ofNat (↑(t0.getD ((↑t0.length:Int)-(1:Int)).toNat 0).toNat:Int).toNat) then
 (gd [decide ((0:Int)≤(↑t0.length:Int)-(1:Int)),decide ((↑t0.length:Int)-(1:Int)≤(↑t0.length:Int)),decide (inK .i64 ((↑t0.length:Int)-(1:Int))),decide (inK .u8 (↑(t0.getD ((↑t0.length:Int)-(1:Int)).toNat 0).toNat:Int)),decide ((0:Int)≤(↑t0.length:Int)-(1:Int)),decide ((↑t0.length:Int)-(1:Int)<(↑t0.length:Int)),decide (inK .i64 ((↑t0.length:Int)-(1:Int)))] (htrR_0 n (List.take ((↑t0.length:Int)-(1:Int)).toNat t0) (t4)))
 else
 (gd [decide (inK .u8 (↑(t0.getD ((↑t0.length:Int)-(1:Int)).toNat 0).toNat:Int)),decide ((0:Int)≤(↑t0.length:Int)-(1:Int)),decide ((↑t0.length:Int)-(1:Int)<(↑t0.length:Int)),decide (inK .i64 ((↑t0.length:Int)-(1:Int)))] (some ((),t0,()))))
  else
 (some ((),t0,()))):=by kernel_rfl
abbrev shtrim:List (Nat×List (Nat×Sh)):=[]
noncomputable def otrim (x:DenL [.str,.str]):Option (DenL [.str]):=fO Tryz.prog (envO [] [(156,trimLS),(157,trimRS)]) (shOf shtrim) Tryz.f116 [.str,.str] [.str] x
theorem etrim_g (N:Nat) (s:List UInt8):fON Tryz.prog (envO [] [(156,trimLS),(157,trimRS)]) (shOf shtrim) Tryz.f116 [.str,.str] [.str] N (s,[32,9],())=
  (bif s==[] then
 (some (s,()))
  else
 (gd [decide ((trimR s).length≤140737488355328),decide (s.length≤140737488355328)] (some (trimL (trimR s),())))):=by kernel_rfl
theorem otrim_g (x:DenL [.str,.str]):otrim x=fON Tryz.prog (envO [] [(156,trimLS),(157,trimRS)]) (shOf shtrim) Tryz.f116 [.str,.str] [.str] heads0 x:=rfl
abbrev shlong:List (Nat×List (Nat×Sh)):=[]
noncomputable def olong (x:(sigB).root.Den) (y:DenO (sigB).ts):Option ((sigB).root.Den×DenO (sigB).rs):=fOO Tryz.prog (envO [] []) (shOf shlong) Tryz.f161 (sigB) x y
theorem elong_g (N:Nat) (st su li at':Int) (tx m p q:List UInt8) (hs:List HeadD) (b:List UInt8) (le:Int) (ou:List ReqD) (c:UInt8):fOON Tryz.prog (envO [] []) (shOf shlong) Tryz.f161 (sigB) N (st,su,li,at',tx,(m,p,q,hs,b,()),le,ou,()) (c,())=
  (bif (↑c.toNat:Int)==(13:Int) then
 (some ((st,su,li,at',tx,(m,p,q,hs,b,()),le,ou,()),(0:Int),()))
  else
 (bif decide (st≥(7:Int)) then
 (some ((st,su,li,at',tx,(m,p,q,hs,b,()),le,ou,()),(0:Int),()))
 else
 (bif st==(4:Int) then
 (some ((st,su,li,at',tx,(m,p,q,hs,b,()),le,ou,()),(0:Int),()))
 else
 (bif decide (st<(5:Int)) then
 (bif decide (li≥(200:Int)) then
 (some ((st,su,li,at',tx,(m,p,q,hs,b,()),le,ou,()),(414:Int),()))
 else
 (bif decide (st≥(5:Int)) then
 (bif decide (li≥(120:Int)) then
 (some ((st,su,li,at',tx,(m,p,q,hs,b,()),le,ou,()),(431:Int),()))
 else
 (bif st==(5:Int) then
 (bif li==(0:Int) then
 (bif decide ((↑hs.length:Int)≥(10:Int)) then
 (some ((st,su,li,at',tx,(m,p,q,hs,b,()),le,ou,()),(431:Int),()))
 else
 (some ((st,su,li,at',tx,(m,p,q,hs,b,()),le,ou,()),(0:Int),())))
 else
 (some ((st,su,li,at',tx,(m,p,q,hs,b,()),le,ou,()),(0:Int),())))
 else
 (some ((st,su,li,at',tx,(m,p,q,hs,b,()),le,ou,()),(0:Int),()))))
 else
 (bif st==(5:Int) then
 (bif li==(0:Int) then
 (bif decide ((↑hs.length:Int)≥(10:Int)) then
 (some ((st,su,li,at',tx,(m,p,q,hs,b,()),le,ou,()),(431:Int),()))
 else
 (some ((st,su,li,at',tx,(m,p,q,hs,b,()),le,ou,()),(0:Int),())))
 else
 (some ((st,su,li,at',tx,(m,p,q,hs,b,()),le,ou,()),(0:Int),())))
 else
 (some ((st,su,li,at',tx,(m,p,q,hs,b,()),le,ou,()),(0:Int),())))))
 else
 (bif decide (st≥(5:Int)) then
 (bif decide (li≥(120:Int)) then
 (some ((st,su,li,at',tx,(m,p,q,hs,b,()),le,ou,()),(431:Int),()))
 else
 (bif st==(5:Int) then
 (bif li==(0:Int) then
 (bif decide ((↑hs.length:Int)≥(10:Int)) then
 (some ((st,su,li,at',tx,(m,p,q,hs,b,()),le,ou,()),(431:Int),()))
 else
 (some ((st,su,li,at',tx,(m,p,q,hs,b,()),le,ou,()),(0:Int),())))
 else
 (some ((st,su,li,at',tx,(m,p,q,hs,b,()),le,ou,()),(0:Int),())))
 else
 (some ((st,su,li,at',tx,(m,p,q,hs,b,()),le,ou,()),(0:Int),()))))
 else
 (bif st==(5:Int) then
 (bif li==(0:Int) then
 (bif decide ((↑hs.length:Int)≥(10:Int)) then
 (some ((st,su,li,at',tx,(m,p,q,hs,b,()),le,ou,()),(431:Int),()))
 else
 (some ((st,su,li,at',tx,(m,p,q,hs,b,()),le,ou,()),(0:Int),())))
 else
 (some ((st,su,li,at',tx,(m,p,q,hs,b,()),le,ou,()),(0:Int),())))
 else
 (some ((st,su,li,at',tx,(m,p,q,hs,b,()),le,ou,()),(0:Int),())))))))):=by kernel_rfl
theorem olong_g (x:(sigB).root.Den) (y:DenO (sigB).ts):olong x y=fOON Tryz.prog (envO [] []) (shOf shlong) Tryz.f161 (sigB) heads0 x y:=rfl
abbrev shheads:List (Nat×List (Nat×Sh)):=[(3,[(0,(.obj [.sym,.sym,.sym,.sym,(.vec .byte 5),.sym,.sym,.sym,(.vec (.pair .str (.pair .str .unit)) 101),.sym,.sym,(.vec ReqT 62)])),(2,(.one .sym)),(3,(.one .sym)),(12,(.one (.same 1))),(13,(.one .sym)),(14,(.one .sym))])]
noncomputable def hheads_0 (n:Nat) (t0_0:Int) (t0_1:Int) (t0_2:Int) (t0_3:Int) (t0_4:List (Ty.Den .byte)) (t0_5:List UInt8) (t0_6:List UInt8) (t0_7:List UInt8) (t0_8:List (Ty.Den (.pair .str (.pair .str .unit)))) (t0_9:List UInt8) (t0_10:Int) (t0_11:List (Ty.Den ReqT)) (t2:Int) (t3:Int) (t13:Int) (t14:Int):Option ((sig0).root.Den×DenO (sig0).rs):=rHO Tryz.prog (envO [(128,lowerS),(130,scanNumS),(86,scanLenS)] []) (shOf shheads) Tryz.f216 (sig0) [13] n 0 [(0,.pointer (some ⟨13,0,none⟩)),(2,sy (.int .i64 t2)),(3,sy (.int .i64 t3)),(12,dt 11),(13,sy (.int .i64 t13)),(14,sy (.int .i64 t14))] [.vec .byte t0_4 5,.vec (.pair .str (.pair .str .unit)) t0_8 101,.vec ReqT t0_11 62,.row [sy (.int .i64 t0_0),sy (.int .i64 t0_1),sy (.int .i64 t0_2),sy (.int .i64 t0_3),dt 10,sy (.string (bs t0_5)),sy (.string (bs t0_6)),sy (.string (bs t0_7)),dt 11,sy (.string (bs t0_9)),sy (.int .i64 t0_10),dt 12] 165 false]
noncomputable def oheads (x:(sig0).root.Den) (y:DenO (sig0).ts):Option ((sig0).root.Den×DenO (sig0).rs):=fOO Tryz.prog (envO [(128,lowerS),(130,scanNumS),(86,scanLenS)] []) (shOf shheads) Tryz.f216 (sig0) x y
theorem eheads_g (N:Nat) (st su li at':Int) (tx m p q:List UInt8) (hs:List HeadD) (b:List UInt8) (le:Int) (ou:List ReqD):fOON Tryz.prog (envO [(128,lowerS),(130,scanNumS),(86,scanLenS)] []) (shOf shheads) Tryz.f216 (sig0) N (st,su,li,at',tx,(m,p,q,hs,b,()),le,ou,()) ()=
 (hheads_0 N (st) (su) (li) (at') (tx) (m) (p) (q) (hs) (b) (le) (ou) ((0:Int)) ((0:Int)) ((↑hs.length:Int)) ((0:Int))):=by kernel_rfl
theorem oheads_g (x:(sig0).root.Den) (y:DenO (sig0).ts):oheads x y=fOON Tryz.prog (envO [(128,lowerS),(130,scanNumS),(86,scanLenS)] []) (shOf shheads) Tryz.f216 (sig0) heads0 x y:=rfl
theorem eheads_0 (n:Nat) (t0_0:Int) (t0_1:Int) (t0_2:Int) (t0_3:Int) (t0_4:List (Ty.Den .byte)) (t0_5:List UInt8) (t0_6:List UInt8) (t0_7:List UInt8) (t0_8:List (Ty.Den (.pair .str (.pair .str .unit)))) (t0_9:List UInt8) (t0_10:Int) (t0_11:List (Ty.Den ReqT)) (t2:Int) (t3:Int) (t13:Int) (t14:Int):hheads_0 (n+1) t0_0 t0_1 t0_2 t0_3 t0_4 t0_5 t0_6 t0_7 t0_8 t0_9 t0_10 t0_11 t2 t3 t13 t14=
  (bif decide (t14<t13) then
 (gd [lowerP (t0_8.getD t14.toNat (HeadT).dflt).fst,decide (t14.toNat<t0_8.length),decide ((0:Int)≤t14),decide (t14<(↑t0_8.length:Int))] (bif lower (t0_8.getD t14.toNat (HeadT).dflt).fst==[116,114,97,110,115,102,101,114,45,101,110,99,111,100,105,110,103] then
 (some ((t0_0,t0_1,t0_2,t0_3,t0_4,(t0_5,t0_6,t0_7,t0_8,t0_9,()),t0_10,t0_11,()),(400:Int),()))
 else
 (bif lower (t0_8.getD t14.toNat (HeadT).dflt).fst==[99,111,110,116,101,110,116,45,108,101,110,103,116,104] then
 (bif (scanNum (t0_8.getD t14.toNat (HeadT).dflt).snd.fst).snd then
 (gd [decide (inK .i64 (t14+(1:Int))),decide (inK .i64 (t3+(1:Int))),atoiP (t0_8.getD t14.toNat (HeadT).dflt).snd.fst] (hheads_0 n (t0_0) (t0_1) (t0_2) (t0_3) (t0_4) (t0_5) (t0_6) (t0_7) (t0_8) (t0_9) (t0_10) (t0_11) (t2) (t3+(1:Int)) (t13) (t14+(1:Int))))
 else
 (gd [atoiP (t0_8.getD t14.toNat (HeadT).dflt).snd.fst] (some ((t0_0,t0_1,t0_2,t0_3,t0_4,(t0_5,t0_6,t0_7,t0_8,t0_9,()),t0_10,t0_11,()),(400:Int),()))))
 else
 (gd [decide (inK .i64 (t14+(1:Int)))] (hheads_0 n (t0_0) (t0_1) (t0_2) (t0_3) (t0_4) (t0_5) (t0_6) (t0_7) (t0_8) (t0_9) (t0_10) (t0_11) (t2) (t3) (t13) (t14+(1:Int)))))))
  else
 (bif decide (t3>(1:Int)) then
 (some ((t0_0,t0_1,t0_2,t0_3,t0_4,(t0_5,t0_6,t0_7,t0_8,t0_9,()),t0_10,t0_11,()),(400:Int),()))
 else
 (gd [scanLenP t0_8] (bif decide (scanLen t0_8>(300:Int)) then
 (some ((t0_0,t0_1,t0_2,t0_3,t0_4,(t0_5,t0_6,t0_7,t0_8,t0_9,()),scanLen t0_8,t0_11,()),(413:Int),()))
 else
 (bif scanLen t0_8==(0:Int) then
 (gd [decide ((2*(t0_11.length+1)+400)*88≤281474976710656)] (some (((0:Int),t0_1,t0_2,t0_3,t0_4,([],[],[],[],[],()),scanLen t0_8,t0_11++[(t0_5,t0_6,t0_7,t0_8,t0_9,())],()),(0:Int),())))
 else
 (some (((9:Int),t0_1,t0_2,t0_3,t0_4,(t0_5,t0_6,t0_7,t0_8,t0_9,()),scanLen t0_8,t0_11,()),(0:Int),()))))))):=by kernel_rfl
noncomputable def headsP:(sig0).root.Den→DenO (sig0).ts→Bool:=hid fun x y=>(oheads x y).isSome
noncomputable def headsN:(sig0).root.Den→DenO (sig0).ts→(sig0).root.Den×DenO (sig0).rs:=hid fun x y=>(oheads x y).getD ((sig0).root.dflt,dfltO (sig0).rs)
theorem heads_hid {x:(sig0).root.Den} {y:DenO (sig0).ts} {z:(sig0).root.Den×DenO (sig0).rs} (h:oheads x y=some z):headsP x y=true∧headsN x y=z:=by
 unfold headsP headsN;rw[hid_eq,hid_eq];simp only[h];exact⟨rfl,rfl⟩
noncomputable def headsS:OSpec:=niceO sig0 headsP headsN
abbrev shlines:List (Nat×List (Nat×Sh)):=[]
noncomputable def olines (x:(sigB).root.Den) (y:DenO (sigB).ts):Option ((sigB).root.Den×DenO (sigB).rs):=fOO Tryz.prog (envO [(215,tokS),(116,trimS)] [(216,headsS)]) (shOf shlines) Tryz.f162 (sigB) x y
theorem elines_g (N:Nat) (st su li at':Int) (tx m p q:List UInt8) (hs:List HeadD) (b:List UInt8) (le:Int) (ou:List ReqD) (c:UInt8):fOON Tryz.prog (envO [(215,tokS),(116,trimS)] [(216,headsS)]) (shOf shlines) Tryz.f162 (sigB) N (st,su,li,at',tx,(m,p,q,hs,b,()),le,ou,()) (c,())=
  (bif st==(4:Int) then
 (bif (↑c.toNat:Int) !=(10:Int) then
 (some ((st,su,li,at',tx,(m,p,q,hs,b,()),le,ou,()),(400:Int),()))
 else
 (bif st==(8:Int) then
 (gd [headsP (st,su,(0:Int),at',tx,(m,p,q,hs,b,()),le,ou,()) ()] (some (((headsN (st,su,(0:Int),at',tx,(m,p,q,hs,b,()),le,ou,()) ()).fst.fst,(headsN (st,su,(0:Int),at',tx,(m,p,q,hs,b,()),le,ou,()) ()).fst.snd.fst,(headsN (st,su,(0:Int),at',tx,(m,p,q,hs,b,()),le,ou,()) ()).fst.snd.snd.fst,(headsN (st,su,(0:Int),at',tx,(m,p,q,hs,b,()),le,ou,()) ()).fst.snd.snd.snd.fst,(headsN (st,su,(0:Int),at',tx,(m,p,q,hs,b,()),le,ou,()) ()).fst.snd.snd.snd.snd.fst,((headsN (st,su,(0:Int),at',tx,(m,p,q,hs,b,()),le,ou,()) ()).fst.snd.snd.snd.snd.snd.fst.fst,(headsN (st,su,(0:Int),at',tx,(m,p,q,hs,b,()),le,ou,()) ()).fst.snd.snd.snd.snd.snd.fst.snd.fst,(headsN (st,su,(0:Int),at',tx,(m,p,q,hs,b,()),le,ou,()) ()).fst.snd.snd.snd.snd.snd.fst.snd.snd.fst,(headsN (st,su,(0:Int),at',tx,(m,p,q,hs,b,()),le,ou,()) ()).fst.snd.snd.snd.snd.snd.fst.snd.snd.snd.fst,(headsN (st,su,(0:Int),at',tx,(m,p,q,hs,b,()),le,ou,()) ()).fst.snd.snd.snd.snd.snd.fst.snd.snd.snd.snd.fst,()),(headsN (st,su,(0:Int),at',tx,(m,p,q,hs,b,()),le,ou,()) ()).fst.snd.snd.snd.snd.snd.snd.fst,(headsN (st,su,(0:Int),at',tx,(m,p,q,hs,b,()),le,ou,()) ()).fst.snd.snd.snd.snd.snd.snd.snd.fst,()),(headsN (st,su,(0:Int),at',tx,(m,p,q,hs,b,()),le,ou,()) ()).snd.fst,())))
 else
 (some (((5:Int),su,(0:Int),at',tx,(m,p,q,hs,b,()),le,ou,()),(0:Int),()))))
  else
 (bif st==(7:Int) then
 (bif (↑c.toNat:Int) !=(10:Int) then
 (some ((st,su,li,at',tx,(m,p,q,hs,b,()),le,ou,()),(400:Int),()))
 else
 (bif st==(8:Int) then
 (gd [headsP (st,su,(0:Int),at',tx,(m,p,q,hs,b,()),le,ou,()) ()] (some (((headsN (st,su,(0:Int),at',tx,(m,p,q,hs,b,()),le,ou,()) ()).fst.fst,(headsN (st,su,(0:Int),at',tx,(m,p,q,hs,b,()),le,ou,()) ()).fst.snd.fst,(headsN (st,su,(0:Int),at',tx,(m,p,q,hs,b,()),le,ou,()) ()).fst.snd.snd.fst,(headsN (st,su,(0:Int),at',tx,(m,p,q,hs,b,()),le,ou,()) ()).fst.snd.snd.snd.fst,(headsN (st,su,(0:Int),at',tx,(m,p,q,hs,b,()),le,ou,()) ()).fst.snd.snd.snd.snd.fst,((headsN (st,su,(0:Int),at',tx,(m,p,q,hs,b,()),le,ou,()) ()).fst.snd.snd.snd.snd.snd.fst.fst,(headsN (st,su,(0:Int),at',tx,(m,p,q,hs,b,()),le,ou,()) ()).fst.snd.snd.snd.snd.snd.fst.snd.fst,(headsN (st,su,(0:Int),at',tx,(m,p,q,hs,b,()),le,ou,()) ()).fst.snd.snd.snd.snd.snd.fst.snd.snd.fst,(headsN (st,su,(0:Int),at',tx,(m,p,q,hs,b,()),le,ou,()) ()).fst.snd.snd.snd.snd.snd.fst.snd.snd.snd.fst,(headsN (st,su,(0:Int),at',tx,(m,p,q,hs,b,()),le,ou,()) ()).fst.snd.snd.snd.snd.snd.fst.snd.snd.snd.snd.fst,()),(headsN (st,su,(0:Int),at',tx,(m,p,q,hs,b,()),le,ou,()) ()).fst.snd.snd.snd.snd.snd.snd.fst,(headsN (st,su,(0:Int),at',tx,(m,p,q,hs,b,()),le,ou,()) ()).fst.snd.snd.snd.snd.snd.snd.snd.fst,()),(headsN (st,su,(0:Int),at',tx,(m,p,q,hs,b,()),le,ou,()) ()).snd.fst,())))
 else
 (some (((5:Int),su,(0:Int),at',tx,(m,p,q,hs,b,()),le,ou,()),(0:Int),()))))
 else
 (bif st==(8:Int) then
 (bif (↑c.toNat:Int) !=(10:Int) then
 (some ((st,su,li,at',tx,(m,p,q,hs,b,()),le,ou,()),(400:Int),()))
 else
 (bif st==(8:Int) then
 (gd [headsP (st,su,(0:Int),at',tx,(m,p,q,hs,b,()),le,ou,()) ()] (some (((headsN (st,su,(0:Int),at',tx,(m,p,q,hs,b,()),le,ou,()) ()).fst.fst,(headsN (st,su,(0:Int),at',tx,(m,p,q,hs,b,()),le,ou,()) ()).fst.snd.fst,(headsN (st,su,(0:Int),at',tx,(m,p,q,hs,b,()),le,ou,()) ()).fst.snd.snd.fst,(headsN (st,su,(0:Int),at',tx,(m,p,q,hs,b,()),le,ou,()) ()).fst.snd.snd.snd.fst,(headsN (st,su,(0:Int),at',tx,(m,p,q,hs,b,()),le,ou,()) ()).fst.snd.snd.snd.snd.fst,((headsN (st,su,(0:Int),at',tx,(m,p,q,hs,b,()),le,ou,()) ()).fst.snd.snd.snd.snd.snd.fst.fst,(headsN (st,su,(0:Int),at',tx,(m,p,q,hs,b,()),le,ou,()) ()).fst.snd.snd.snd.snd.snd.fst.snd.fst,(headsN (st,su,(0:Int),at',tx,(m,p,q,hs,b,()),le,ou,()) ()).fst.snd.snd.snd.snd.snd.fst.snd.snd.fst,(headsN (st,su,(0:Int),at',tx,(m,p,q,hs,b,()),le,ou,()) ()).fst.snd.snd.snd.snd.snd.fst.snd.snd.snd.fst,(headsN (st,su,(0:Int),at',tx,(m,p,q,hs,b,()),le,ou,()) ()).fst.snd.snd.snd.snd.snd.fst.snd.snd.snd.snd.fst,()),(headsN (st,su,(0:Int),at',tx,(m,p,q,hs,b,()),le,ou,()) ()).fst.snd.snd.snd.snd.snd.snd.fst,(headsN (st,su,(0:Int),at',tx,(m,p,q,hs,b,()),le,ou,()) ()).fst.snd.snd.snd.snd.snd.snd.snd.fst,()),(headsN (st,su,(0:Int),at',tx,(m,p,q,hs,b,()),le,ou,()) ()).snd.fst,())))
 else
 (some (((5:Int),su,(0:Int),at',tx,(m,p,q,hs,b,()),le,ou,()),(0:Int),()))))
 else
 (bif st==(6:Int) then
 (bif (↑c.toNat:Int)==(13:Int) then
 (gd [decide (((↑hs.length:Int)-(1:Int)).toNat<hs.length),decide ((0:Int)≤(↑hs.length:Int)-(1:Int)),decide ((↑hs.length:Int)-(1:Int)<(↑hs.length:Int)),[32,9]==[32,9]&&decide (tx.length≤140737488355328),decide (inK .i64 ((↑hs.length:Int)-(1:Int)))] (some (((7:Int),su,li,at',[],(m,p,q,hs.set ((↑hs.length:Int)-(1:Int)).toNat ((hs.getD ((↑hs.length:Int)-(1:Int)).toNat (HeadT).dflt).fst,trimL (trimR tx),()),b,()),le,ou,()),(0:Int),())))
 else
 (bif decide ((↑c.toNat:Int)≥(32:Int)) then
 (bif decide ((↑c.toNat:Int)≤(126:Int)) then
 (gd [decide (inK .i64 (li+(1:Int))),decide ((2*(tx.length+1)+400)*1≤281474976710656),decide (inK .u8 (↑c.toNat:Int))] (some ((st,su,li+(1:Int),at',tx++[UInt8.ofNat (↑c.toNat:Int).toNat],(m,p,q,hs,b,()),le,ou,()),(0:Int),())))
 else
 (bif (↑c.toNat:Int)==(9:Int) then
 (gd [decide (inK .i64 (li+(1:Int))),decide ((2*(tx.length+1)+400)*1≤281474976710656),decide (inK .u8 (↑c.toNat:Int))] (some ((st,su,li+(1:Int),at',tx++[UInt8.ofNat (↑c.toNat:Int).toNat],(m,p,q,hs,b,()),le,ou,()),(0:Int),())))
 else
 (some ((st,su,li,at',tx,(m,p,q,hs,b,()),le,ou,()),(400:Int),()))))
 else
 (bif (↑c.toNat:Int)==(9:Int) then
 (gd [decide (inK .i64 (li+(1:Int))),decide ((2*(tx.length+1)+400)*1≤281474976710656),decide (inK .u8 (↑c.toNat:Int))] (some ((st,su,li+(1:Int),at',tx++[UInt8.ofNat (↑c.toNat:Int).toNat],(m,p,q,hs,b,()),le,ou,()),(0:Int),())))
 else
 (some ((st,su,li,at',tx,(m,p,q,hs,b,()),le,ou,()),(400:Int),())))))
 else
 (bif (↑c.toNat:Int)==(13:Int) then
 (bif li==(0:Int) then
 (some (((8:Int),su,li,at',tx,(m,p,q,hs,b,()),le,ou,()),(0:Int),()))
 else
 (bif (↑c.toNat:Int)==(58:Int) then
 (bif decide (li>(0:Int)) then
 (gd [decide (inK .i64 (li+(1:Int))),decide ((2*(hs.length+1)+400)*32≤281474976710656)] (some (((6:Int),su,li+(1:Int),at',[],(m,p,q,hs++[(tx,[],())],b,()),le,ou,()),(0:Int),())))
 else
 (bif isTok (UInt8.ofNat (↑c.toNat:Int).toNat) then
 (gd [decide (inK .i64 (li+(1:Int))),decide ((2*(tx.length+1)+400)*1≤281474976710656),decide (inK .u8 (↑c.toNat:Int)),decide (inK .u8 (↑c.toNat:Int))] (some ((st,su,li+(1:Int),at',tx++[UInt8.ofNat (↑c.toNat:Int).toNat],(m,p,q,hs,b,()),le,ou,()),(0:Int),())))
 else
 (gd [decide (inK .u8 (↑c.toNat:Int))] (some ((st,su,li,at',tx,(m,p,q,hs,b,()),le,ou,()),(400:Int),())))))
 else
 (bif isTok (UInt8.ofNat (↑c.toNat:Int).toNat) then
 (gd [decide (inK .i64 (li+(1:Int))),decide ((2*(tx.length+1)+400)*1≤281474976710656),decide (inK .u8 (↑c.toNat:Int)),decide (inK .u8 (↑c.toNat:Int))] (some ((st,su,li+(1:Int),at',tx++[UInt8.ofNat (↑c.toNat:Int).toNat],(m,p,q,hs,b,()),le,ou,()),(0:Int),())))
 else
 (gd [decide (inK .u8 (↑c.toNat:Int))] (some ((st,su,li,at',tx,(m,p,q,hs,b,()),le,ou,()),(400:Int),()))))))
 else
 (bif (↑c.toNat:Int)==(58:Int) then
 (bif decide (li>(0:Int)) then
 (gd [decide (inK .i64 (li+(1:Int))),decide ((2*(hs.length+1)+400)*32≤281474976710656)] (some (((6:Int),su,li+(1:Int),at',[],(m,p,q,hs++[(tx,[],())],b,()),le,ou,()),(0:Int),())))
 else
 (bif isTok (UInt8.ofNat (↑c.toNat:Int).toNat) then
 (gd [decide (inK .i64 (li+(1:Int))),decide ((2*(tx.length+1)+400)*1≤281474976710656),decide (inK .u8 (↑c.toNat:Int)),decide (inK .u8 (↑c.toNat:Int))] (some ((st,su,li+(1:Int),at',tx++[UInt8.ofNat (↑c.toNat:Int).toNat],(m,p,q,hs,b,()),le,ou,()),(0:Int),())))
 else
 (gd [decide (inK .u8 (↑c.toNat:Int))] (some ((st,su,li,at',tx,(m,p,q,hs,b,()),le,ou,()),(400:Int),())))))
 else
 (bif isTok (UInt8.ofNat (↑c.toNat:Int).toNat) then
 (gd [decide (inK .i64 (li+(1:Int))),decide ((2*(tx.length+1)+400)*1≤281474976710656),decide (inK .u8 (↑c.toNat:Int)),decide (inK .u8 (↑c.toNat:Int))] (some ((st,su,li+(1:Int),at',tx++[UInt8.ofNat (↑c.toNat:Int).toNat],(m,p,q,hs,b,()),le,ou,()),(0:Int),())))
 else
 (gd [decide (inK .u8 (↑c.toNat:Int))] (some ((st,su,li,at',tx,(m,p,q,hs,b,()),le,ou,()),(400:Int),())))))))))):=by kernel_rfl
theorem olines_g (x:(sigB).root.Den) (y:DenO (sigB).ts):olines x y=fOON Tryz.prog (envO [(215,tokS),(116,trimS)] [(216,headsS)]) (shOf shlines) Tryz.f162 (sigB) heads0 x y:=rfl
noncomputable def linesP:(sigB).root.Den→DenO (sigB).ts→Bool:=hid fun x y=>(olines x y).isSome
noncomputable def linesN:(sigB).root.Den→DenO (sigB).ts→(sigB).root.Den×DenO (sigB).rs:=hid fun x y=>(olines x y).getD ((sigB).root.dflt,dfltO (sigB).rs)
theorem lines_hid {x:(sigB).root.Den} {y:DenO (sigB).ts} {z:(sigB).root.Den×DenO (sigB).rs} (h:olines x y=some z):linesP x y=true∧linesN x y=z:=by
 unfold linesP linesN;rw[hid_eq,hid_eq];simp only[h];exact⟨rfl,rfl⟩
noncomputable def linesS:OSpec:=niceO sigB linesP linesN
abbrev shstep:List (Nat×List (Nat×Sh)):=[]
noncomputable def ostep (x:(sigB).root.Den) (y:DenO (sigB).ts):Option ((sigB).root.Den×DenO (sigB).rs):=fOO Tryz.prog (envO [(163,capS),(165,visS)] [(161,longS),(162,linesS)]) (shOf shstep) Tryz.f121 (sigB) x y
theorem estep_g (N:Nat) (st su li at':Int) (tx m p q:List UInt8) (hs:List HeadD) (b:List UInt8) (le:Int) (ou:List ReqD) (c:UInt8):fOON Tryz.prog (envO [(163,capS),(165,visS)] [(161,longS),(162,linesS)]) (shOf shstep) Tryz.f121 (sigB) N (st,su,li,at',tx,(m,p,q,hs,b,()),le,ou,()) (c,())=
  (gd [decide (inK .u8 (↑c.toNat:Int))] (bif longN (st,su,li,at',tx,(m,p,q,hs,b,()),le,ou,()) (UInt8.ofNat (↑c.toNat:Int).toNat) !=(0:Int) then
 (some ((st,su,li,at',tx,(m,p,q,hs,b,()),le,ou,()),longN (st,su,li,at',tx,(m,p,q,hs,b,()),le,ou,()) (UInt8.ofNat (↑c.toNat:Int).toNat),()))
  else
 (bif st==(0:Int) then
 (bif isCap (UInt8.ofNat (↑c.toNat:Int).toNat) then
 (bif decide (li<(10:Int)) then
 (gd [decide (inK .i64 (li+(1:Int))),decide ((2*(tx.length+1)+400)*1≤281474976710656),decide (inK .u8 (↑c.toNat:Int)),decide (inK .u8 (↑c.toNat:Int))] (some ((st,su,li+(1:Int),at',tx++[UInt8.ofNat (↑c.toNat:Int).toNat],(m,p,q,hs,b,()),le,ou,()),(0:Int),())))
 else
 (gd [decide (inK .u8 (↑c.toNat:Int))] (bif (↑c.toNat:Int)==(32:Int) then
 (bif decide (li>(0:Int)) then
 (gd [decide (inK .i64 (li+(1:Int)))] (some (((1:Int),su,li+(1:Int),at',[],(tx,p,q,hs,b,()),le,ou,()),(0:Int),())))
 else
 (some ((st,su,li,at',tx,(m,p,q,hs,b,()),le,ou,()),(400:Int),())))
 else
 (some ((st,su,li,at',tx,(m,p,q,hs,b,()),le,ou,()),(400:Int),())))))
 else
 (gd [decide (inK .u8 (↑c.toNat:Int))] (bif (↑c.toNat:Int)==(32:Int) then
 (bif decide (li>(0:Int)) then
 (gd [decide (inK .i64 (li+(1:Int)))] (some (((1:Int),su,li+(1:Int),at',[],(tx,p,q,hs,b,()),le,ou,()),(0:Int),())))
 else
 (some ((st,su,li,at',tx,(m,p,q,hs,b,()),le,ou,()),(400:Int),())))
 else
 (some ((st,su,li,at',tx,(m,p,q,hs,b,()),le,ou,()),(400:Int),())))))
 else
 (bif st==(1:Int) then
 (bif (↑tx.length:Int)==(0:Int) then
 (bif (↑c.toNat:Int) !=(47:Int) then
 (some ((st,su,li,at',tx,(m,p,q,hs,b,()),le,ou,()),(400:Int),()))
 else
 (bif (↑c.toNat:Int)==(63:Int) then
 (gd [decide (inK .i64 (li+(1:Int)))] (some (((2:Int),su,li+(1:Int),at',[],(m,tx,q,hs,b,()),le,ou,()),(0:Int),())))
 else
 (bif (↑c.toNat:Int)==(32:Int) then
 (gd [decide (inK .i64 (li+(1:Int)))] (some (((3:Int),su,li+(1:Int),at',[],(m,tx,q,hs,b,()),le,ou,()),(0:Int),())))
 else
 (bif isVis (UInt8.ofNat (↑c.toNat:Int).toNat) then
 (gd [decide (inK .i64 (li+(1:Int))),decide ((2*(tx.length+1)+400)*1≤281474976710656),decide (inK .u8 (↑c.toNat:Int)),decide (inK .u8 (↑c.toNat:Int))] (some ((st,su,li+(1:Int),at',tx++[UInt8.ofNat (↑c.toNat:Int).toNat],(m,p,q,hs,b,()),le,ou,()),(0:Int),())))
 else
 (gd [decide (inK .u8 (↑c.toNat:Int))] (some ((st,su,li,at',tx,(m,p,q,hs,b,()),le,ou,()),(400:Int),())))))))
 else
 (bif (↑c.toNat:Int)==(63:Int) then
 (gd [decide (inK .i64 (li+(1:Int)))] (some (((2:Int),su,li+(1:Int),at',[],(m,tx,q,hs,b,()),le,ou,()),(0:Int),())))
 else
 (bif (↑c.toNat:Int)==(32:Int) then
 (gd [decide (inK .i64 (li+(1:Int)))] (some (((3:Int),su,li+(1:Int),at',[],(m,tx,q,hs,b,()),le,ou,()),(0:Int),())))
 else
 (bif isVis (UInt8.ofNat (↑c.toNat:Int).toNat) then
 (gd [decide (inK .i64 (li+(1:Int))),decide ((2*(tx.length+1)+400)*1≤281474976710656),decide (inK .u8 (↑c.toNat:Int)),decide (inK .u8 (↑c.toNat:Int))] (some ((st,su,li+(1:Int),at',tx++[UInt8.ofNat (↑c.toNat:Int).toNat],(m,p,q,hs,b,()),le,ou,()),(0:Int),())))
 else
 (gd [decide (inK .u8 (↑c.toNat:Int))] (some ((st,su,li,at',tx,(m,p,q,hs,b,()),le,ou,()),(400:Int),())))))))
 else
 (bif st==(2:Int) then
 (bif (↑c.toNat:Int)==(32:Int) then
 (gd [decide (inK .i64 (li+(1:Int)))] (some (((3:Int),su,li+(1:Int),at',[],(m,p,tx,hs,b,()),le,ou,()),(0:Int),())))
 else
 (bif isVis (UInt8.ofNat (↑c.toNat:Int).toNat) then
 (gd [decide (inK .i64 (li+(1:Int))),decide ((2*(tx.length+1)+400)*1≤281474976710656),decide (inK .u8 (↑c.toNat:Int)),decide (inK .u8 (↑c.toNat:Int))] (some ((st,su,li+(1:Int),at',tx++[UInt8.ofNat (↑c.toNat:Int).toNat],(m,p,q,hs,b,()),le,ou,()),(0:Int),())))
 else
 (gd [decide (inK .u8 (↑c.toNat:Int))] (some ((st,su,li,at',tx,(m,p,q,hs,b,()),le,ou,()),(400:Int),())))))
 else
 (bif st==(3:Int) then
 (bif at'==(8:Int) then
 (bif (↑c.toNat:Int)==(13:Int) then
 (some (((4:Int),su,li,(0:Int),tx,(m,p,q,hs,b,()),le,ou,()),(0:Int),()))
 else
 (bif at'==(8:Int) then
 (some ((st,su,li,at',tx,(m,p,q,hs,b,()),le,ou,()),(400:Int),()))
 else
 (bif (↑c.toNat:Int) !=(↑(([72,84,84,80,47,49,46,49]:List UInt8).getD at'.toNat 0).toNat:Int) then
 (gd [decide ((0:Int)≤at'),decide (at'<(8:Int))] (some ((st,su,li,at',tx,(m,p,q,hs,b,()),le,ou,()),(400:Int),())))
 else
 (gd [decide (inK .i64 (li+(1:Int))),decide (inK .i64 (at'+(1:Int))),decide ((0:Int)≤at'),decide (at'<(8:Int))] (some ((st,su,li+(1:Int),at'+(1:Int),tx,(m,p,q,hs,b,()),le,ou,()),(0:Int),()))))))
 else
 (bif at'==(8:Int) then
 (some ((st,su,li,at',tx,(m,p,q,hs,b,()),le,ou,()),(400:Int),()))
 else
 (bif (↑c.toNat:Int) !=(↑(([72,84,84,80,47,49,46,49]:List UInt8).getD at'.toNat 0).toNat:Int) then
 (gd [decide ((0:Int)≤at'),decide (at'<(8:Int))] (some ((st,su,li,at',tx,(m,p,q,hs,b,()),le,ou,()),(400:Int),())))
 else
 (gd [decide (inK .i64 (li+(1:Int))),decide (inK .i64 (at'+(1:Int))),decide ((0:Int)≤at'),decide (at'<(8:Int))] (some ((st,su,li+(1:Int),at'+(1:Int),tx,(m,p,q,hs,b,()),le,ou,()),(0:Int),()))))))
 else
 (bif st==(9:Int) then
 (gd [decide (inK .i64 (le-(1:Int))),decide ((2*(tx.length+1)+400)*1≤281474976710656),decide (inK .u8 (↑c.toNat:Int))] (bif le-(1:Int)==(0:Int) then
 (gd [decide ((2*(ou.length+1)+400)*88≤281474976710656)] (some (((0:Int),su,li,at',[],([],[],[],[],[],()),le-(1:Int),ou++[(m,p,q,hs,tx++[UInt8.ofNat (↑c.toNat:Int).toNat],())],()),(0:Int),())))
 else
 (some ((st,su,li,at',tx++[UInt8.ofNat (↑c.toNat:Int).toNat],(m,p,q,hs,b,()),le-(1:Int),ou,()),(0:Int),()))))
 else
 (gd [linesP (st,su,li,at',tx,(m,p,q,hs,b,()),le,ou,()) (UInt8.ofNat (↑c.toNat:Int).toNat,()),decide (inK .u8 (↑c.toNat:Int))] (some (((linesN (st,su,li,at',tx,(m,p,q,hs,b,()),le,ou,()) (UInt8.ofNat (↑c.toNat:Int).toNat,())).fst.fst,(linesN (st,su,li,at',tx,(m,p,q,hs,b,()),le,ou,()) (UInt8.ofNat (↑c.toNat:Int).toNat,())).fst.snd.fst,(linesN (st,su,li,at',tx,(m,p,q,hs,b,()),le,ou,()) (UInt8.ofNat (↑c.toNat:Int).toNat,())).fst.snd.snd.fst,(linesN (st,su,li,at',tx,(m,p,q,hs,b,()),le,ou,()) (UInt8.ofNat (↑c.toNat:Int).toNat,())).fst.snd.snd.snd.fst,(linesN (st,su,li,at',tx,(m,p,q,hs,b,()),le,ou,()) (UInt8.ofNat (↑c.toNat:Int).toNat,())).fst.snd.snd.snd.snd.fst,((linesN (st,su,li,at',tx,(m,p,q,hs,b,()),le,ou,()) (UInt8.ofNat (↑c.toNat:Int).toNat,())).fst.snd.snd.snd.snd.snd.fst.fst,(linesN (st,su,li,at',tx,(m,p,q,hs,b,()),le,ou,()) (UInt8.ofNat (↑c.toNat:Int).toNat,())).fst.snd.snd.snd.snd.snd.fst.snd.fst,(linesN (st,su,li,at',tx,(m,p,q,hs,b,()),le,ou,()) (UInt8.ofNat (↑c.toNat:Int).toNat,())).fst.snd.snd.snd.snd.snd.fst.snd.snd.fst,(linesN (st,su,li,at',tx,(m,p,q,hs,b,()),le,ou,()) (UInt8.ofNat (↑c.toNat:Int).toNat,())).fst.snd.snd.snd.snd.snd.fst.snd.snd.snd.fst,(linesN (st,su,li,at',tx,(m,p,q,hs,b,()),le,ou,()) (UInt8.ofNat (↑c.toNat:Int).toNat,())).fst.snd.snd.snd.snd.snd.fst.snd.snd.snd.snd.fst,()),(linesN (st,su,li,at',tx,(m,p,q,hs,b,()),le,ou,()) (UInt8.ofNat (↑c.toNat:Int).toNat,())).fst.snd.snd.snd.snd.snd.snd.fst,(linesN (st,su,li,at',tx,(m,p,q,hs,b,()),le,ou,()) (UInt8.ofNat (↑c.toNat:Int).toNat,())).fst.snd.snd.snd.snd.snd.snd.snd.fst,()),(linesN (st,su,li,at',tx,(m,p,q,hs,b,()),le,ou,()) (UInt8.ofNat (↑c.toNat:Int).toNat,())).snd.fst,())))))))))):=by kernel_rfl
theorem ostep_g (x:(sigB).root.Den) (y:DenO (sigB).ts):ostep x y=fOON Tryz.prog (envO [(163,capS),(165,visS)] [(161,longS),(162,linesS)]) (shOf shstep) Tryz.f121 (sigB) heads0 x y:=rfl
noncomputable def stepP:(sigB).root.Den→DenO (sigB).ts→Bool:=hid fun x y=>(ostep x y).isSome
noncomputable def stepN:(sigB).root.Den→DenO (sigB).ts→(sigB).root.Den×DenO (sigB).rs:=hid fun x y=>(ostep x y).getD ((sigB).root.dflt,dfltO (sigB).rs)
theorem step_hid {x:(sigB).root.Den} {y:DenO (sigB).ts} {z:(sigB).root.Den×DenO (sigB).rs} (h:ostep x y=some z):stepP x y=true∧stepN x y=z:=by
 unfold stepP stepN;rw[hid_eq,hid_eq];simp only[h];exact⟨rfl,rfl⟩
noncomputable def stepS:OSpec:=niceO sigB stepP stepN
abbrev shfeed:List (Nat×List (Nat×Sh)):=[(4,[(0,(.obj [.sym,.sym,.sym,.sym,(.vec .byte 5),.sym,.sym,.sym,(.vec (.pair .str (.pair .str .unit)) 101),.sym,.sym,(.vec ReqT 62)])),(1,(.one .sym)),(4,(.one .any)),(5,(.one .sym))])]
noncomputable def hfeed_0 (n:Nat) (t0_0:Int) (t0_1:Int) (t0_2:Int) (t0_3:Int) (t0_4:List (Ty.Den .byte)) (t0_5:List UInt8) (t0_6:List UInt8) (t0_7:List UInt8) (t0_8:List (Ty.Den (.pair .str (.pair .str .unit)))) (t0_9:List UInt8) (t0_10:Int) (t0_11:List (Ty.Den ReqT)) (t1:List UInt8) (t5:Int):Option ((sigF).root.Den×DenO (sigF).rs):=rHO Tryz.prog (envO [] [(121,stepS)]) (shOf shfeed) Tryz.f71 (sigF) [13] n 0 [(0,.pointer (some ⟨13,0,none⟩)),(1,sy (.string (bs t1))),(4,Value.slice none 0 0),(5,sy (.int .i64 t5))] [.vec .byte t0_4 5,.vec (.pair .str (.pair .str .unit)) t0_8 101,.vec ReqT t0_11 62,.row [sy (.int .i64 t0_0),sy (.int .i64 t0_1),sy (.int .i64 t0_2),sy (.int .i64 t0_3),dt 10,sy (.string (bs t0_5)),sy (.string (bs t0_6)),sy (.string (bs t0_7)),dt 11,sy (.string (bs t0_9)),sy (.int .i64 t0_10),dt 12] 165 false]
noncomputable def ofeed (x:(sigF).root.Den) (y:DenO (sigF).ts):Option ((sigF).root.Den×DenO (sigF).rs):=fOO Tryz.prog (envO [] [(121,stepS)]) (shOf shfeed) Tryz.f71 (sigF) x y
theorem efeed_g (N:Nat) (st su li at':Int) (tx m p q:List UInt8) (hs:List HeadD) (b:List UInt8) (le:Int) (ou:List ReqD) (s:List UInt8):fOON Tryz.prog (envO [] [(121,stepS)]) (shOf shfeed) Tryz.f71 (sigF) N (st,su,li,at',tx,(m,p,q,hs,b,()),le,ou,()) (s,())=
 (hfeed_0 N (st) (su) (li) (at') (tx) (m) (p) (q) (hs) (b) (le) (ou) (s) ((0:Int))):=by kernel_rfl
theorem ofeed_g (x:(sigF).root.Den) (y:DenO (sigF).ts):ofeed x y=fOON Tryz.prog (envO [] [(121,stepS)]) (shOf shfeed) Tryz.f71 (sigF) heads0 x y:=rfl
theorem efeed_0 (n:Nat) (t0_0:Int) (t0_1:Int) (t0_2:Int) (t0_3:Int) (t0_4:List (Ty.Den .byte)) (t0_5:List UInt8) (t0_6:List UInt8) (t0_7:List UInt8) (t0_8:List (Ty.Den (.pair .str (.pair .str .unit)))) (t0_9:List UInt8) (t0_10:Int) (t0_11:List (Ty.Den ReqT)) (t1:List UInt8) (t5:Int):hfeed_0 (n+1) t0_0 t0_1 t0_2 t0_3 t0_4 t0_5 t0_6 t0_7 t0_8 t0_9 t0_10 t0_11 t1 t5=
  (bif decide (t5<(↑t1.length:Int)) then
 (bif t0_1==(0:Int) then
 (gd [decide (inK .i64 (t5+(1:Int))),stepP (t0_0,t0_1,t0_2,t0_3,t0_4,(t0_5,t0_6,t0_7,t0_8,t0_9,()),t0_10,t0_11,()) (UInt8.ofNat (↑(t1.getD t5.toNat 0).toNat:Int).toNat,()),decide (inK .u8 (↑(t1.getD t5.toNat 0).toNat:Int)),decide ((0:Int)≤t5),decide (t5<(↑t1.length:Int))] (hfeed_0 n ((stepN (t0_0,t0_1,t0_2,t0_3,t0_4,(t0_5,t0_6,t0_7,t0_8,t0_9,()),t0_10,t0_11,()) (UInt8.ofNat (↑(t1.getD t5.toNat 0).toNat:Int).toNat,())).fst.fst) ((stepN (t0_0,t0_1,t0_2,t0_3,t0_4,(t0_5,t0_6,t0_7,t0_8,t0_9,()),t0_10,t0_11,()) (UInt8.ofNat (↑(t1.getD t5.toNat 0).toNat:Int).toNat,())).snd.fst) ((stepN (t0_0,t0_1,t0_2,t0_3,t0_4,(t0_5,t0_6,t0_7,t0_8,t0_9,()),t0_10,t0_11,()) (UInt8.ofNat (↑(t1.getD t5.toNat 0).toNat:Int).toNat,())).fst.snd.snd.fst) ((stepN (t0_0,t0_1,t0_2,t0_3,t0_4,(t0_5,t0_6,t0_7,t0_8,t0_9,()),t0_10,t0_11,()) (UInt8.ofNat (↑(t1.getD t5.toNat 0).toNat:Int).toNat,())).fst.snd.snd.snd.fst) ((stepN (t0_0,t0_1,t0_2,t0_3,t0_4,(t0_5,t0_6,t0_7,t0_8,t0_9,()),t0_10,t0_11,()) (UInt8.ofNat (↑(t1.getD t5.toNat 0).toNat:Int).toNat,())).fst.snd.snd.snd.snd.fst) ((stepN (t0_0,t0_1,t0_2,t0_3,t0_4,(t0_5,t0_6,t0_7,t0_8,t0_9,()),t0_10,t0_11,()) (UInt8.ofNat (↑(t1.getD t5.toNat 0).toNat:Int).toNat,())).fst.snd.snd.snd.snd.snd.fst.fst) ((stepN (t0_0,t0_1,t0_2,t0_3,t0_4,(t0_5,t0_6,t0_7,t0_8,t0_9,()),t0_10,t0_11,()) (UInt8.ofNat (↑(t1.getD t5.toNat 0).toNat:Int).toNat,())).fst.snd.snd.snd.snd.snd.fst.snd.fst) ((stepN (t0_0,t0_1,t0_2,t0_3,t0_4,(t0_5,t0_6,t0_7,t0_8,t0_9,()),t0_10,t0_11,()) (UInt8.ofNat (↑(t1.getD t5.toNat 0).toNat:Int).toNat,())).fst.snd.snd.snd.snd.snd.fst.snd.snd.fst) ((stepN (t0_0,t0_1,t0_2,t0_3,t0_4,(t0_5,t0_6,t0_7,t0_8,t0_9,()),t0_10,t0_11,()) (UInt8.ofNat (↑(t1.getD t5.toNat 0).toNat:Int).toNat,())).fst.snd.snd.snd.snd.snd.fst.snd.snd.snd.fst) ((stepN (t0_0,t0_1,t0_2,t0_3,t0_4,(t0_5,t0_6,t0_7,t0_8,t0_9,()),t0_10,t0_11,()) (UInt8.ofNat (↑(t1.getD t5.toNat 0).toNat:Int).toNat,())).fst.snd.snd.snd.snd.snd.fst.snd.snd.snd.snd.fst) ((stepN (t0_0,t0_1,t0_2,t0_3,t0_4,(t0_5,t0_6,t0_7,t0_8,t0_9,()),t0_10,t0_11,()) (UInt8.ofNat (↑(t1.getD t5.toNat 0).toNat:Int).toNat,())).fst.snd.snd.snd.snd.snd.snd.fst) ((stepN (t0_0,t0_1,t0_2,t0_3,t0_4,(t0_5,t0_6,t0_7,t0_8,t0_9,()),t0_10,t0_11,()) (UInt8.ofNat (↑(t1.getD t5.toNat 0).toNat:Int).toNat,())).fst.snd.snd.snd.snd.snd.snd.snd.fst) (t1) (t5+(1:Int))))
 else
 (some ((t0_0,t0_1,t0_2,t0_3,t0_4,(t0_5,t0_6,t0_7,t0_8,t0_9,()),t0_10,[],()),t0_11,())))
  else
 (some ((t0_0,t0_1,t0_2,t0_3,t0_4,(t0_5,t0_6,t0_7,t0_8,t0_9,()),t0_10,[],()),t0_11,()))):=by kernel_rfl
noncomputable def feedP:(sigF).root.Den→DenO (sigF).ts→Bool:=hid fun x y=>(ofeed x y).isSome
noncomputable def feedN:(sigF).root.Den→DenO (sigF).ts→(sigF).root.Den×DenO (sigF).rs:=hid fun x y=>(ofeed x y).getD ((sigF).root.dflt,dfltO (sigF).rs)
theorem feed_hid {x:(sigF).root.Den} {y:DenO (sigF).ts} {z:(sigF).root.Den×DenO (sigF).rs} (h:ofeed x y=some z):feedP x y=true∧feedN x y=z:=by
 unfold feedP feedN;rw[hid_eq,hid_eq];simp only[h];exact⟨rfl,rfl⟩
noncomputable def feedS:OSpec:=niceO sigF feedP feedN
end Go.Proofs.YtldllfocpadkeaaGreatDoor
